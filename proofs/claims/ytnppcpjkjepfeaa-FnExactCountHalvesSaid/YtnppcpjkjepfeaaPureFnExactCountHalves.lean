/- For all arguments of at most 1048576 numbers the program's CountHalves returns what the reference's CountHalves returns, and leaves its argument as it was; for longer ones the law answers true by its own guard. No condition. -/
import Derived.Test.YtnppcpjkjepfeaaL6
namespace Go.Proofs.Ytnppcpjkjepfeaa.Pure
open Go.RowKit Go.Proofs.Ytnppcpjkjepfeaa.L Go.Proofs.YtnppcpjkjepfeaaW.PrintWords Go.Proofs.YtnppcpjkjepfeaaW.PrintLast
set_option linter.unusedVariables false
set_option linter.unusedSimpArgs false

theorem w64 {x : Int} (h0 : -9223372036854775808 ≤ x) (h1 : x ≤ 9223372036854775807) : wrap64 x = x := by
  unfold wrap64
  omega
theorem wf_i64 {x : Int} (h : (Lit.int .i64 x).wf = true) : -9223372036854775808 ≤ x ∧ x ≤ 9223372036854775807 := by
  have hmin : IntKind.i64.min = -9223372036854775808 := rfl
  have hmax : IntKind.i64.max = 9223372036854775807 := rfl
  simp only [Lit.wf, Bool.and_eq_true, decide_eq_true_eq] at h
  omega

theorem two {α β : Type} {g : Nat → Option α} {f : Nat → Option β} {a : α} {b : β} (h : Ev g a) (h' : Ev f b) : ∃ k, g k = some a ∧ f k = some b := by
  obtain ⟨K, h⟩ := h
  obtain ⟨K', h'⟩ := h'
  exact ⟨max K K', h _ (by omega), h' _ (by omega)⟩
theorem str_app (xs ys : List Int) : strOfNums (xs ++ ys) = strOfNums xs ++ strOfNums ys := by
  apply ByteArray.ext
  simp [strOfNums]
theorem str_nil : strOfNums [] = (⟨#[]⟩ : ByteArray) := rfl
theorem str_size (xs : List Int) : (strOfNums xs).size = xs.length := by simp [strOfNums, ByteArray.size]
theorem ba_nil_app (b : ByteArray) : (⟨#[]⟩ : ByteArray) ++ b = b := by
  apply ByteArray.ext
  simp
theorem ba_app_nil (b : ByteArray) : b ++ (⟨#[]⟩ : ByteArray) = b := by
  apply ByteArray.ext
  simp
theorem ba_assoc (a b c : ByteArray) : a ++ b ++ c = a ++ (b ++ c) := by
  apply ByteArray.ext
  simp
theorem ev_if {α : Type} {c : Prop} [Decidable c] {g f : Nat → Option α} {r : α} (hc : c) (h : Ev g r) : Ev (fun k => if c then g k else f k) r :=
  Ev.congr (fun k => if_pos hc) h
theorem ev_else {α : Type} {c : Prop} [Decidable c] {g f : Nat → Option α} {r : α} (hc : ¬ c) (h : Ev f r) : Ev (fun k => if c then g k else f k) r :=
  Ev.congr (fun k => if_neg hc) h
theorem ev_bind {α β : Type} {a : α} {o : Option α} {f : Nat → α → Option β} {r : β} (h : o = some a) (k : Ev (fun n => f n a) r) : Ev (fun n => o.bind (f n)) r :=
  Ev.congr (fun n => by rw [h]; rfl) k

theorem l1In_eq (a b c : Int) : spec_l1In.f a b c = some (decide (b ≤ a ∧ a ≤ c)) := by
  unfold spec_l1In.f
  by_cases h : b ≤ a
  · rw [if_pos (show a ≥ b from h)]; simp [h]
  · rw [if_neg (show ¬ a ≥ b from h)]; simp [h]
theorem within_eq (a b c : Int) : impl_within.f a b c = some (decide (b ≤ a ∧ a ≤ c)) := by
  unfold impl_within.f
  by_cases h : b ≤ a
  · rw [if_pos h]; simp [h]
  · rw [if_neg h]; simp [h]
theorem within_l1In (a b c : Int) : impl_within.f a b c = spec_l1In.f a b c := by rw [within_eq, l1In_eq]

theorem rd_nat (xs : List Int) (j : Nat) (h : j < xs.length) : rd xs (j : Int) = xs[j] := by
  simp [rd, List.getD_eq_getElem?_getD, List.getElem?_eq_getElem h]
theorem w64s {j : Nat} (h : j < 9223372036854775807) : wrap64 ((j : Int) + 1) = ((j + 1 : Nat) : Int) := by
  rw [w64 (by omega) (by omega)]; omega
theorem toIntS_l0 (xs : List Int) (hx : xs.length ≤ 1048576) (d : Nat) : ∀ (j : Nat) (ys : List Int), ys.length = xs.length → (∀ i (h : i < ys.length) (h' : i < xs.length), i < j → ys[i] = xs[i]) → j ≤ xs.length → xs.length - j = d →
    Ev (fun k => laws_toIntS.l0 k xs ys (j : Int)) xs := by
  induction d with
  | zero =>
    intro j ys hl hv hj hd
    have e : ys = xs := List.ext_getElem hl (fun i h h' => hv i h h' (by omega))
    subst e
    exact Ev.step (fun k => by simp only [laws_toIntS.l0]; rw [if_neg (by omega)]) (Ev.now _)
  | succ d ih =>
    intro j ys hl hv hj hd
    have hj' : j < xs.length := by omega
    refine Ev.step (f := fun k => laws_toIntS.l0 k xs (ys.set j xs[j]) ((j + 1 : Nat) : Int)) (fun k => ?_) (ih (j + 1) (ys.set j xs[j]) (by simp [hl]) ?_ (by omega) (by omega))
    · simp only [laws_toIntS.l0]
      rw [if_pos (by omega), if_pos (by omega), if_pos (by omega), rd_nat xs j hj', Int.toNat_natCast, w64s (by omega)]
    · intro i h h' hi
      rw [List.getElem_set]
      by_cases e : j = i
      · subst e; simp
      · rw [if_neg e]; exact hv i (by simpa using h) h' (by omega)
theorem toIntS_ev (xs : List Int) (hx : xs.length ≤ 1048576) : Ev (fun k => laws_toIntS.f k xs) xs := by
  unfold laws_toIntS.f
  refine ev_if (by omega) (ev_if (by omega) ?_)
  rw [Int.toNat_natCast]
  exact toIntS_l0 xs hx xs.length 0 _ (by simp) (fun i h h' hi => absurd hi (Nat.not_lt_zero _)) (by omega) (by omega)
theorem eqIntS_l0 (xs ys : List Int) (hl : xs.length = ys.length) (hx : xs.length ≤ 1099511627776) (d : Nat) : ∀ (j : Nat), (∀ i (h : i < xs.length) (h' : i < ys.length), i < j → xs[i] = ys[i]) → j ≤ xs.length → xs.length - j = d →
    Ev (fun k => laws_eqIntS.l0 k xs ys (j : Int)) (decide (xs = ys)) := by
  induction d with
  | zero =>
    intro j hv hj hd
    have e : xs = ys := List.ext_getElem hl (fun i h h' => hv i h h' (by omega))
    refine Ev.step (fun k => by simp only [laws_eqIntS.l0]; rw [if_neg (by omega)]) ?_
    simpa [e] using Ev.now true
  | succ d ih =>
    intro j hv hj hd
    have hj1 : j < xs.length := by omega
    have hj2 : j < ys.length := by omega
    by_cases e : xs[j] = ys[j]
    · refine Ev.step (f := fun k => laws_eqIntS.l0 k xs ys ((j + 1 : Nat) : Int)) (fun k => ?_) (ih (j + 1) ?_ (by omega) (by omega))
      · simp only [laws_eqIntS.l0]
        rw [if_pos (by omega), if_pos (by omega), if_pos (by omega), rd_nat xs j hj1, rd_nat ys j hj2, if_pos e, w64s (by omega)]
      · intro i h h' hi
        by_cases e2 : i = j
        · subst e2; exact e
        · exact hv i h h' (by omega)
    · have hne : decide (xs = ys) = false := by
        simp only [decide_eq_false_iff_not]
        rintro rfl
        exact e rfl
      rw [hne]
      refine Ev.step (fun k => ?_) (Ev.now false)
      simp only [laws_eqIntS.l0]
      rw [if_pos (by omega), if_pos (by omega), if_pos (by omega), rd_nat xs j hj1, rd_nat ys j hj2, if_neg e]
theorem eqIntS_ev (xs ys : List Int) (hx : xs.length ≤ 1099511627776) : Ev (fun k => laws_eqIntS.f k xs ys) (decide (xs = ys)) := by
  unfold laws_eqIntS.f
  by_cases h : xs.length = ys.length
  · refine ev_if (by omega) ?_
    exact eqIntS_l0 xs ys h hx xs.length 0 (fun i _ _ hi => absurd hi (Nat.not_lt_zero _)) (by omega) (by omega)
  · refine ev_else (by omega) ?_
    have hne : decide (xs = ys) = false := by
      simp only [decide_eq_false_iff_not]
      rintro rfl
      exact h rfl
    rw [hne]
    exact Ev.now false
theorem eqIntS_self (xs : List Int) (hx : xs.length ≤ 1099511627776) : Ev (fun k => laws_eqIntS.f k xs xs) true := by
  have := eqIntS_ev xs xs hx
  simpa using this

theorem l1All_l0 (lo hi : Int) (xs : List Int) (hx : xs.length ≤ 1099511627776) (d : Nat) : ∀ (j : Nat), (∀ i (h : i < xs.length), i < j → lo ≤ xs[i] ∧ xs[i] ≤ hi) → j ≤ xs.length → xs.length - j = d →
    Ev (fun k => spec_l1All.l0 k lo hi xs (xs.length : Int) (j : Int)) (xs.all fun x => decide (lo ≤ x ∧ x ≤ hi)) := by
  induction d with
  | zero =>
    intro j hv hj hd
    have e : (xs.all fun x => decide (lo ≤ x ∧ x ≤ hi)) = true := by
      rw [List.all_eq_true]
      intro x hm
      obtain ⟨i, hi2, rfl⟩ := List.getElem_of_mem hm
      exact decide_eq_true (hv i hi2 (by omega))
    rw [e]
    exact Ev.step (fun k => by simp only [spec_l1All.l0]; rw [if_neg (by omega)]) (Ev.now _)
  | succ d ih =>
    intro j hv hj hd
    have hj1 : j < xs.length := by omega
    by_cases e : lo ≤ xs[j] ∧ xs[j] ≤ hi
    · refine Ev.step (f := fun k => spec_l1All.l0 k lo hi xs (xs.length : Int) ((j + 1 : Nat) : Int)) (fun k => ?_) (ih (j + 1) ?_ (by omega) (by omega))
      · simp only [spec_l1All.l0]
        rw [if_pos (by omega), if_pos (by omega), if_pos (by omega), rd_nat xs j hj1, l1In_eq]
        simp only [Option.bind_some, decide_eq_true_eq]
        rw [if_pos e, w64s (by omega)]
      · intro i h hi2
        by_cases e2 : i = j
        · subst e2; exact e
        · exact hv i h (by omega)
    · have hne : (xs.all fun x => decide (lo ≤ x ∧ x ≤ hi)) = false := by
        rw [List.all_eq_false]
        exact ⟨xs[j], List.getElem_mem hj1, by simpa using e⟩
      rw [hne]
      refine Ev.step (fun k => ?_) (Ev.now false)
      simp only [spec_l1All.l0]
      rw [if_pos (by omega), if_pos (by omega), if_pos (by omega), rd_nat xs j hj1, l1In_eq]
      simp only [Option.bind_some, decide_eq_true_eq]
      rw [if_neg e]
theorem l1All_ev (lo hi : Int) (xs : List Int) (hx : xs.length ≤ 1099511627776) : Ev (fun k => spec_l1All.f k xs lo hi) (xs.all fun x => decide (lo ≤ x ∧ x ≤ hi)) :=
  l1All_l0 lo hi xs hx xs.length 0 (fun i _ hi => absurd hi (Nat.not_lt_zero _)) (by omega) (by omega)
theorem areWithin_eq (lo hi : Int) (xs : List Int) : impl_areWithin.f xs lo hi = some (xs.all fun x => decide (lo ≤ x ∧ x ≤ hi)) := by
  unfold impl_areWithin.f
  rw [List.not_any_eq_all_not]
  simp

/-- What both sides take for weights. -/
def okW (xs : List Int) : Bool := decide (1 ≤ (xs.length : Int) ∧ (xs.length : Int) ≤ 12) && xs.all fun x => decide (1 ≤ x ∧ x ≤ 1000)
theorem skGood_ev (xs : List Int) (hx : xs.length ≤ 1099511627776) : Ev (fun k => spec_skGood.f k xs) (okW xs) := by
  unfold spec_skGood.f okW
  rw [l1In_eq]
  simp only [Option.bind_some]
  by_cases g : 1 ≤ (xs.length : Int) ∧ (xs.length : Int) ≤ 12
  · simp only [g, and_self, decide_true, if_true, Bool.true_and]
    exact Ev.bind (l1All_ev 1 1000 xs hx) (Ev.now _)
  · simp only [decide_eq_false g, Bool.false_eq_true, if_false, Bool.false_and]
    exact Ev.now _
theorem areWeights_eq (xs : List Int) : impl_AreWeights.f xs = some (okW xs) := by
  unfold impl_AreWeights.f okW
  rw [within_eq]
  simp only [Option.bind_some]
  by_cases g : 1 ≤ (xs.length : Int) ∧ (xs.length : Int) ≤ 12
  · simp only [g, and_self, decide_true, if_true, Bool.true_and]
    rw [areWithin_eq]; rfl
  · simp only [decide_eq_false g, Bool.false_eq_true, if_false, Bool.false_and]

theorem okW_bound {xs : List Int} (h : okW xs = true) : xs.length ≤ 12 ∧ ∀ x ∈ xs, 0 ≤ x ∧ x ≤ 1000 := by
  unfold okW at h
  rw [Bool.and_eq_true, decide_eq_true_eq, List.all_eq_true] at h
  refine ⟨by omega, fun x hx => ?_⟩
  have := h.2 x hx
  rw [decide_eq_true_eq] at this
  omega

/-! ### Lists in order, and what the best of many halves is -/
/-- a comes before b. -/
def lx : List Int → List Int → Prop
  | _, [] => False
  | [], _ :: _ => True
  | a :: r, b :: q => a < b ∨ (a = b ∧ lx r q)
theorem lx_irrefl (a : List Int) : ¬ lx a a := by
  induction a with
  | nil => simp [lx]
  | cons x r ih => simp [lx, ih]
theorem lx_tri (a : List Int) : ∀ b, lx a b ∨ a = b ∨ lx b a := by
  induction a with
  | nil => intro b; cases b <;> simp [lx]
  | cons x r ih =>
    intro b
    cases b with
    | nil => simp [lx]
    | cons y q =>
      simp only [lx, List.cons.injEq]
      rcases ih q with h | h | h <;> rcases Int.lt_trichotomy x y with g | g | g <;> simp [h, g]
theorem lx_trans (a : List Int) : ∀ b c, lx a b → lx b c → lx a c := by
  induction a with
  | nil => intro b c h g; cases b <;> cases c <;> simp_all [lx]
  | cons x r ih =>
    intro b c h g
    cases b with
    | nil => simp [lx] at h
    | cons y q =>
      cases c with
      | nil => simp [lx] at g
      | cons z p =>
        simp only [lx] at h g ⊢
        rcases h with h | ⟨h, h'⟩ <;> rcases g with g | ⟨g, g'⟩
        · left; omega
        · left; omega
        · left; omega
        · right; exact ⟨by omega, ih q p h' g'⟩
theorem lx_app (p : List Int) (a b : List Int) : lx (p ++ a) (p ++ b) ↔ lx a b := by
  induction p with
  | nil => simp
  | cons x r ih => simp [lx, ih]
theorem lx_pre (p : List Int) (x : Int) (t : List Int) : lx p (p ++ x :: t) := by
  have h := (lx_app p [] (x :: t)).mpr (by simp [lx])
  simpa using h
/-- best is the first one of Hs with the least f, this is least, and so many have it. -/
structure IsAns (f : List Int → Int) (Hs : List (List Int)) (best : List Int) (least many : Int) : Prop where
  mem : best ∈ Hs
  val : f best = least
  low : ∀ h ∈ Hs, least ≤ f h
  first : ∀ h ∈ Hs, f h = least → h = best ∨ lx best h
  cnt : many = (Hs.countP fun h => decide (f h = least) : Nat)
theorem IsAns.perm {f : List Int → Int} {Hs Gs : List (List Int)} {b : List Int} {l m : Int} (h : IsAns f Hs b l m) (p : Hs.Perm Gs) : IsAns f Gs b l m :=
  ⟨p.mem_iff.mp h.mem, h.val, fun x hx => h.low x (p.mem_iff.mpr hx), fun x hx => h.first x (p.mem_iff.mpr hx), by rw [h.cnt, p.countP_eq]⟩
theorem IsAns.one {f : List Int → Int} {Hs : List (List Int)} {b b' : List Int} {l l' m m' : Int} (h : IsAns f Hs b l m) (h' : IsAns f Hs b' l' m') : b = b' ∧ l = l' ∧ m = m' := by
  have e : l = l' := by
    have h1 := h.low b' h'.mem
    have h2 := h'.low b h.mem
    rw [h'.val] at h1
    rw [h.val] at h2
    omega
  subst e
  refine ⟨?_, rfl, by rw [h.cnt, h'.cnt]⟩
  rcases h.first b' h'.mem h'.val with e | g
  · exact e.symm
  · rcases h'.first b h.mem h.val with e | g'
    · exact e
    · exact absurd (lx_trans _ _ _ g g') (lx_irrefl _)
theorem IsAns.cons_low {f : List Int → Int} (x : List Int) : IsAns f [x] x (f x) 1 :=
  ⟨by simp, rfl, by simp, by simp, by simp⟩
/-- One more, with a lesser f. -/
theorem IsAns.less {f : List Int → Int} {Hs : List (List Int)} {b : List Int} {l m : Int} (h : IsAns f Hs b l m) {x : List Int} (hx : f x < l) : IsAns f (Hs ++ [x]) x (f x) 1 := by
  refine ⟨by simp, rfl, ?_, ?_, ?_⟩
  · intro y hy
    rcases List.mem_append.mp hy with hy | hy
    · have := h.low y hy; omega
    · simp only [List.mem_singleton] at hy; subst hy; exact Int.le_refl _
  · intro y hy e
    rcases List.mem_append.mp hy with hy | hy
    · have := h.low y hy; omega
    · simp only [List.mem_singleton] at hy; exact .inl hy
  · have : Hs.countP (fun h => decide (f h = f x)) = 0 := by
      rw [List.countP_eq_zero]
      intro y hy
      have := h.low y hy
      simp only [decide_eq_true_eq]
      omega
    simp [List.countP_append, this]
/-- One more, with as much, behind the best. -/
theorem IsAns.same {f : List Int → Int} {Hs : List (List Int)} {b : List Int} {l m : Int} (h : IsAns f Hs b l m) {x : List Int} (hx : f x = l) (hl : x = b ∨ lx b x) : IsAns f (Hs ++ [x]) b l (m + 1) := by
  refine ⟨by simp [h.mem], h.val, ?_, ?_, ?_⟩
  · intro y hy
    rcases List.mem_append.mp hy with hy | hy
    · exact h.low y hy
    · simp only [List.mem_singleton] at hy; subst hy; omega
  · intro y hy e
    rcases List.mem_append.mp hy with hy | hy
    · exact h.first y hy e
    · simp only [List.mem_singleton] at hy; subst hy; exact hl
  · simp [List.countP_append, h.cnt, hx]
/-- One more, with as much, ahead of the best. -/
theorem IsAns.ahead {f : List Int → Int} {Hs : List (List Int)} {b : List Int} {l m : Int} (h : IsAns f Hs b l m) {x : List Int} (hx : f x = l) (hl : lx x b) : IsAns f (Hs ++ [x]) x l (m + 1) := by
  refine ⟨by simp, hx, ?_, ?_, ?_⟩
  · intro y hy
    rcases List.mem_append.mp hy with hy | hy
    · exact h.low y hy
    · simp only [List.mem_singleton] at hy; subst hy; omega
  · intro y hy e
    rcases List.mem_append.mp hy with hy | hy
    · rcases h.first y hy e with g | g
      · subst g; exact .inr hl
      · exact .inr (lx_trans _ _ _ hl g)
    · simp only [List.mem_singleton] at hy; exact .inl hy
  · simp [List.countP_append, h.cnt, hx]
/-- One more, with more. -/
theorem IsAns.more {f : List Int → Int} {Hs : List (List Int)} {b : List Int} {l m : Int} (h : IsAns f Hs b l m) {x : List Int} (hx : l < f x) : IsAns f (Hs ++ [x]) b l m := by
  refine ⟨by simp [h.mem], h.val, ?_, ?_, ?_⟩
  · intro y hy
    rcases List.mem_append.mp hy with hy | hy
    · exact h.low y hy
    · simp only [List.mem_singleton] at hy; subst hy; omega
  · intro y hy e
    rcases List.mem_append.mp hy with hy | hy
    · exact h.first y hy e
    · simp only [List.mem_singleton] at hy; subst hy; omega
  · have : ¬ f x = l := by omega
    simp [List.countP_append, h.cnt, this]
/-! ### The halves in the order of the search, and by bits -/
/-- All ways to choose from the last d of n places, in the order of bits. -/
def subs (n : Nat) : Nat → List (List Int)
  | 0 => [[]]
  | d + 1 => (subs n d).map (((n - (d + 1) : Nat) : Int) :: ·) ++ subs n d
/-- What the search calls behind a half whose last d places are left. -/
def dfs (n : Nat) : Nat → List Int → List (List Int)
  | 0, _ => []
  | d + 1, h => ((h ++ [((n - (d + 1) : Nat) : Int)]) :: dfs n d (h ++ [((n - (d + 1) : Nat) : Int)])) ++ dfs n d h
theorem dfs_perm (n d : Nat) : ∀ h, (h :: dfs n d h).Perm ((subs n d).map (h ++ ·)) := by
  induction d with
  | zero => intro h; simp [dfs, subs]
  | succ d ih =>
    intro h
    have h1 := ih (h ++ [((n - (d + 1) : Nat) : Int)])
    have h2 := ih h
    simp only [dfs, subs, List.map_append, List.map_map]
    have e : ((subs n d).map ((h ++ ·) ∘ (((n - (d + 1) : Nat) : Int) :: ·))) = (subs n d).map ((h ++ [((n - (d + 1) : Nat) : Int)]) ++ ·) := by
      apply List.map_congr_left
      intro a _
      simp
    rw [e]
    refine List.Perm.trans ?_ (h1.append h2)
    exact (List.perm_middle (l₁ := (h ++ [((n - (d + 1) : Nat) : Int)]) :: dfs n d (h ++ [((n - (d + 1) : Nat) : Int)])) (l₂ := dfs n d h) (a := h)).symm
theorem dfs_mem (n d : Nat) (hd : d ≤ n) : ∀ h, ∀ x ∈ dfs n d h, ∃ (y : Int) (t : List Int), x = h ++ y :: t ∧ ((n - d : Nat) : Int) ≤ y := by
  induction d with
  | zero => intro h x hx; simp [dfs] at hx
  | succ d ih =>
    intro h x hx
    simp only [dfs, List.cons_append, List.mem_cons, List.mem_append] at hx
    rcases hx with rfl | hx | hx
    · exact ⟨_, [], rfl, Int.le_refl _⟩
    · obtain ⟨y, t, e, g⟩ := ih (by omega) _ x hx
      exact ⟨_, y :: t, by rw [e]; simp, Int.le_refl _⟩
    · obtain ⟨y, t, e, g⟩ := ih (by omega) _ x hx
      exact ⟨y, t, e, by omega⟩
theorem dfs_sorted (n d : Nat) (hd : d ≤ n) : ∀ h, (h :: dfs n d h).Pairwise lx := by
  induction d with
  | zero => intro h; simp [dfs]
  | succ d ih =>
    intro h
    have h1 := ih (by omega) (h ++ [((n - (d + 1) : Nat) : Int)])
    have h2 := ih (by omega) h
    refine List.pairwise_cons.mpr ⟨?_, ?_⟩
    · intro x hx
      obtain ⟨y, t, e, _⟩ := dfs_mem n (d + 1) hd h x hx
      rw [e]
      exact lx_pre h y t
    · simp only [dfs]
      refine List.pairwise_append.mpr ⟨h1, (List.pairwise_cons.mp h2).2, ?_⟩
      intro a ha b hb
      obtain ⟨y, t, e, g⟩ := dfs_mem n d (by omega) h b hb
      have ea : ∃ t', a = h ++ ((n - (d + 1) : Nat) : Int) :: t' := by
        rcases List.mem_cons.mp ha with rfl | ha
        · exact ⟨[], rfl⟩
        · obtain ⟨y', t', e', _⟩ := dfs_mem n d (by omega) _ a ha
          exact ⟨y' :: t', by rw [e']; simp⟩
      obtain ⟨t', ea⟩ := ea
      rw [ea, e, lx_app]
      simp only [lx]
      left
      omega
/-- The places of the ones of a number, from place i on. -/
def ones : Nat → Nat → Nat → List Int
  | 0, _, _ => []
  | d + 1, i, m => if m % 2 = 1 then (i : Int) :: ones d (i + 1) (m / 2) else ones d (i + 1) (m / 2)
theorem ones_even (d i m : Nat) : ones (d + 1) i (2 * m) = ones d (i + 1) m := by
  simp only [ones]
  rw [if_neg (by omega), show 2 * m / 2 = m by omega]
theorem ones_odd (d i m : Nat) : ones (d + 1) i (2 * m + 1) = (i : Int) :: ones d (i + 1) m := by
  simp only [ones]
  rw [if_pos (by omega), show (2 * m + 1) / 2 = m by omega]
theorem range_two (k : Nat) : (List.range (2 * k)).Perm ((List.range k).map (2 * · + 1) ++ (List.range k).map (2 * ·)) := by
  induction k with
  | zero => simp
  | succ k ih =>
    rw [show 2 * (k + 1) = 2 * k + 1 + 1 by omega, List.range_succ, List.range_succ, List.range_succ]
    simp only [List.map_append, List.map_cons, List.map_nil, List.append_assoc, List.cons_append, List.nil_append]
    refine (ih.append_right _).trans ?_
    simp only [List.append_assoc]
    refine List.Perm.append_left _ ?_
    refine (List.perm_append_comm (l₁ := (List.range k).map (2 * ·)) (l₂ := [2 * k, 2 * k + 1])).trans ?_
    simp only [List.cons_append, List.nil_append]
    refine (List.Perm.swap _ _ _).trans ?_
    refine List.Perm.cons _ ?_
    exact (List.perm_append_comm (l₁ := (List.range k).map (2 * ·)) (l₂ := [2 * k])).symm
theorem subs_perm (n d : Nat) (hd : d ≤ n) : ((List.range (2 ^ d)).map (ones d (n - d))).Perm (subs n d) := by
  induction d with
  | zero => simp [ones, subs]
  | succ d ih =>
    have h := ih (by omega)
    rw [show 2 ^ (d + 1) = 2 * 2 ^ d by rw [Nat.pow_succ]; omega]
    refine ((range_two (2 ^ d)).map _).trans ?_
    simp only [List.map_append, List.map_map, subs]
    have e1 : (List.range (2 ^ d)).map (ones (d + 1) (n - (d + 1)) ∘ (2 * · + 1)) = ((List.range (2 ^ d)).map (ones d (n - d))).map (((n - (d + 1) : Nat) : Int) :: ·) := by
      rw [List.map_map]
      apply List.map_congr_left
      intro m _
      simp only [Function.comp]
      rw [ones_odd, show n - (d + 1) + 1 = n - d by omega]
    have e2 : (List.range (2 ^ d)).map (ones (d + 1) (n - (d + 1)) ∘ (2 * ·)) = (List.range (2 ^ d)).map (ones d (n - d)) := by
      apply List.map_congr_left
      intro m _
      simp only [Function.comp]
      rw [ones_even, show n - (d + 1) + 1 = n - d by omega]
    rw [e1, e2]
    exact (h.map _).append h
/-- The odd numbers' places are the halves of the search. -/
theorem halves_perm (n : Nat) (hn : 0 < n) : ((List.range (2 ^ (n - 1))).map fun m => ones n 0 (2 * m + 1)).Perm ([0] :: dfs n (n - 1) [0]) := by
  refine List.Perm.trans ?_ (dfs_perm n (n - 1) [0]).symm
  have h := (subs_perm n (n - 1) (by omega)).map ([0] ++ ·)
  rw [List.map_map] at h
  refine List.Perm.trans (List.Perm.of_eq ?_) h
  apply List.map_congr_left
  intro m _
  obtain ⟨k, rfl⟩ : ∃ k, n = k + 1 := ⟨n - 1, by omega⟩
  simp only [Function.comp, ones_odd, show k + 1 - 1 = k by omega, show k + 1 - k = 1 by omega]
  rfl
/-! ### Both folds -/
/-- One half more, in the program's search. -/
def hstep (f : List Int → Int) (s : List Int × Int × Int) (h : List Int) : List Int × Int × Int :=
  if s.2.2 = 0 ∨ f h < s.2.1 then (h, f h, 1) else if f h = s.2.1 then (s.1, s.2.1, s.2.2 + 1) else s
theorem fold_ans (f : List Int → Int) (Gs : List (List Int)) : ∀ (P : List (List Int)) (s : List Int × Int × Int), 1 ≤ s.2.2 → (P ++ Gs).Pairwise lx → IsAns f P s.1 s.2.1 s.2.2 →
    IsAns f (P ++ Gs) (Gs.foldl (hstep f) s).1 (Gs.foldl (hstep f) s).2.1 (Gs.foldl (hstep f) s).2.2 := by
  induction Gs with
  | nil => intro P s _ _ h; simpa using h
  | cons x Gs ih =>
    intro P s h1 hp h
    have e : P ++ x :: Gs = (P ++ [x]) ++ Gs := by simp
    rw [e] at hp ⊢
    have hb : lx s.1 x := (List.pairwise_append.mp (List.pairwise_append.mp hp).1).2.2 _ h.mem x (by simp)
    simp only [List.foldl_cons]
    obtain ⟨b, l, m⟩ := s
    simp only at h1 h hb
    unfold hstep
    by_cases c : f x < l
    · rw [if_pos (.inr c)]
      exact ih _ _ (by simp) hp (h.less c)
    · rw [if_neg (by simp only; omega)]
      by_cases c2 : f x = l
      · rw [if_pos c2]
        exact ih _ _ (by simp only; omega) hp (h.same c2 (.inr hb))
      · rw [if_neg c2]
        exact ih _ _ h1 hp (h.more (by omega))

/-! ### The program's search -/
/-- The weight of a half. -/
def wOf (xs : List Int) (h : List Int) : Int := (h.map (rd xs)).sum
theorem wOf_snoc (xs h : List Int) (i : Int) : wOf xs (h ++ [i]) = wOf xs h + rd xs i := by simp [wOf]
theorem wOf_cons (xs h : List Int) (i : Int) : wOf xs (i :: h) = rd xs i + wOf xs h := by simp [wOf]
/-- By how much both halves differ. -/
def fOf (xs : List Int) (all : Int) (h : List Int) : Int := mx (2 * wOf xs h - all) (all - 2 * wOf xs h)
theorem evApart_eq {all own : Int} (h0 : 0 ≤ all) (h1 : all ≤ 100000) (h2 : 0 ≤ own) (h3 : own ≤ 100000) : evApart all own = mx (2 * own - all) (all - 2 * own) := by
  unfold evApart
  rw [w64 (x := 2 * own) (by omega) (by omega), w64 (x := 2 * own - all) (by omega) (by omega), w64 (x := all - 2 * own) (by omega) (by omega)]
theorem evStep_eq (f : List Int → Int) (s : List Int × Int × Int) (h : List Int) (a : Int) (ha : a = f h) (h0 : 0 ≤ s.2.2) (h1 : s.2.2 ≤ 1000000) : evStep s h a = hstep f s h := by
  unfold evStep hstep
  rw [ha, w64 (x := s.2.2 + 1) (by omega) (by omega)]
theorem hstep_many (f : List Int → Int) (s : List Int × Int × Int) (h : List Int) (h0 : 0 ≤ s.2.2) : 0 ≤ (hstep f s h).2.2 ∧ (hstep f s h).2.2 ≤ s.2.2 + 1 := by
  unfold hstep
  split
  · simp only; omega
  · split
    · simp only; omega
    · omega
theorem dfs_len (n d : Nat) : ∀ h, (dfs n d h).length + 1 = 2 ^ d := by
  induction d with
  | zero => intro h; simp [dfs]
  | succ d ih =>
    intro h
    have h1 := ih (h ++ [((n - (d + 1) : Nat) : Int)])
    have h2 := ih h
    simp only [dfs, List.length_append, List.length_cons]
    rw [Nat.pow_succ]
    omega
theorem evGo_fold (xs : List Int) (all : Int) (ha0 : 0 ≤ all) (ha1 : all ≤ 12000) (hx : xs.length ≤ 12) (hxs : ∀ x ∈ xs, 0 ≤ x ∧ x ≤ 1000) (d : Nat) :
    ∀ (h : List Int) (own : Int) (s : List Int × Int × Int), d ≤ xs.length → own = wOf xs h → 0 ≤ own → own + 1000 * (d : Int) ≤ 12000 → 0 ≤ s.2.2 → s.2.2 + ((2 ^ d : Nat) : Int) ≤ 100000 →
      evGo xs all d h own s = (dfs xs.length d h).foldl (hstep (fOf xs all)) s ∧ 0 ≤ (evGo xs all d h own s).2.2 ∧ (evGo xs all d h own s).2.2 + 1 ≤ s.2.2 + ((2 ^ d : Nat) : Int) := by
  induction d with
  | zero => intro h own s _ _ _ _ h0 _; simp only [evGo, dfs, List.foldl_nil, Nat.pow_zero]; exact ⟨trivial, h0, by omega⟩
  | succ d ih =>
    intro h own s hd ho h0 h1 h2 h3
    have hlt : xs.length - (d + 1) < xs.length := by omega
    obtain ⟨i, hi⟩ : ∃ i, i = xs.length - (d + 1) := ⟨_, rfl⟩
    have ei : (xs.length : Int) - ((d + 1 : Nat) : Int) = (i : Int) := by omega
    have hri : rd xs (i : Int) = xs[i]'(by omega) := rd_nat xs i (by omega)
    have hxi : 0 ≤ rd xs (i : Int) ∧ rd xs (i : Int) ≤ 1000 := by rw [hri]; exact hxs _ (List.getElem_mem _)
    have ew : wrap64 (own + rd xs (i : Int)) = own + rd xs (i : Int) := w64 (by omega) (by omega)
    have hp : 2 ^ (d + 1) = 2 ^ d + 2 ^ d := by rw [Nat.pow_succ]; omega
    have hp0 : 0 < 2 ^ d := Nat.two_pow_pos d
    rw [hp] at h3 ⊢
    obtain ⟨q, hq⟩ : ∃ q, q = 2 ^ d := ⟨_, rfl⟩
    rw [← hq] at h3 hp0 ⊢
    have ih2 := ih
    rw [← hq] at ih2
    have hwo : own + rd xs (i : Int) = wOf xs (h ++ [(i : Int)]) := by rw [wOf_snoc, ho]
    have hf : evApart all (own + rd xs (i : Int)) = fOf xs all (h ++ [(i : Int)]) := by
      rw [evApart_eq ha0 (by omega) (by omega) (by omega)]
      unfold fOf
      rw [← hwo]
    have hs := evStep_eq (fOf xs all) s (h ++ [(i : Int)]) _ hf h2 (by omega)
    have hm := hstep_many (fOf xs all) s (h ++ [(i : Int)]) h2
    obtain ⟨a1, a2, a3⟩ := ih2 (h ++ [(i : Int)]) (own + rd xs (i : Int)) (hstep (fOf xs all) s (h ++ [(i : Int)])) (by omega) hwo (by omega) (by omega) hm.1 (by omega)
    obtain ⟨b1, b2, b3⟩ := ih2 h own (evGo xs all d (h ++ [(i : Int)]) (own + rd xs (i : Int)) (hstep (fOf xs all) s (h ++ [(i : Int)]))) (by omega) ho h0 (by omega) a2 (by omega)
    simp only [evGo, dfs]
    rw [ei, ew, hs, ← hi]
    refine ⟨?_, b2, by omega⟩
    rw [b1, a1, List.foldl_append, List.foldl_cons]
theorem evSum_bound (l : List Int) : ∀ s : Int, (∀ x ∈ l, 0 ≤ x ∧ x ≤ 1000) → 0 ≤ s → s + 1000 * l.length ≤ 1000000000 → s ≤ evSum l s ∧ evSum l s ≤ s + 1000 * l.length := by
  induction l with
  | nil => intro s _ h0 h1; simp only [evSum, List.length_nil] at *; omega
  | cons x r ih =>
    intro s hx h0 h1
    have hx0 := hx x (by simp)
    simp only [List.length_cons] at h1 ⊢
    have hw : wrap64 (s + x) = s + x := w64 (by omega) (by omega)
    have h := ih (s + x) (fun y hy => hx y (by simp [hy])) (by omega) (by omega)
    simp only [evSum]
    rw [hw]
    omega
theorem impl_ans (xs : List Int) (hx0 : 0 < xs.length) (hx : xs.length ≤ 12) (hxs : ∀ x ∈ xs, 0 ≤ x ∧ x ≤ 1000) : ∃ b l m, impl_evenest.f xs = some (b, l, m) ∧ IsAns (fOf xs (evSum xs 0)) ([0] :: dfs xs.length (xs.length - 1) [0]) b l m := by
  have hb := evSum_bound xs 0 hxs (by omega) (by omega)
  have hr0 : 0 ≤ rd xs 0 ∧ rd xs 0 ≤ 1000 := by
    have e := rd_nat xs 0 hx0
    rw [show ((0 : Nat) : Int) = 0 from rfl] at e
    rw [e]; exact hxs _ (List.getElem_mem _)
  have hw0 : rd xs 0 = wOf xs [0] := by simp [wOf]
  have hf0 : evApart (evSum xs 0) (rd xs 0) = fOf xs (evSum xs 0) [0] := by
    rw [evApart_eq (by omega) (by omega) hr0.1 (by omega)]
    unfold fOf
    rw [← hw0]
  have hs0 : evStep ([], 0, 0) [0] (evApart (evSum xs 0) (rd xs 0)) = ([0], fOf xs (evSum xs 0) [0], 1) := by
    rw [hf0]; unfold evStep; rw [if_pos (.inl rfl)]
  have hp : (2 : Nat) ^ (xs.length - 1) ≤ 2 ^ 11 := Nat.pow_le_pow_right (by omega) (by omega)
  have hg := (evGo_fold xs (evSum xs 0) (by omega) (by omega) hx hxs (xs.length - 1) [0] (rd xs 0) ([0], fOf xs (evSum xs 0) [0], 1) (by omega) hw0 hr0.1 (by omega) (by simp) (by simp only; omega)).1
  have ha := fold_ans (fOf xs (evSum xs 0)) (dfs xs.length (xs.length - 1) [0]) [[0]] ([0], fOf xs (evSum xs 0) [0], 1) (by simp) (by
    have := dfs_sorted xs.length (xs.length - 1) (by omega) [0]
    simpa using this) (IsAns.cons_low [0])
  refine ⟨_, _, _, ?_, ha⟩
  unfold impl_evenest.f
  rw [if_pos ⟨hx0, hx⟩, hs0, hg]
/-! ### The reference's counting by bits -/
theorem skSum_l0 (xs : List Int) (hx : xs.length ≤ 1048576) (d : Nat) : ∀ (j : Nat) (s : Int), xs.length - j = d → j ≤ xs.length → Ev (fun k => spec_skSum.l0 k s xs (xs.length : Int) (j : Int)) (evSum (xs.drop j) s) := by
  induction d with
  | zero =>
    intro j s hd hj
    refine Ev.step (fun k => ?_) (Ev.now _)
    simp only [spec_skSum.l0]
    rw [if_neg (by omega), List.drop_of_length_le (by omega)]
    rfl
  | succ d ih =>
    intro j s hd hj
    have hj1 : j < xs.length := by omega
    have h := ih (j + 1) (wrap64 (s + xs[j])) (by omega) (by omega)
    rw [List.drop_eq_getElem_cons hj1]
    refine Ev.step (fun k => ?_) h
    simp only [spec_skSum.l0]
    rw [if_pos (by omega), if_pos (by omega), if_pos (by omega), rd_nat xs j hj1, w64s (by omega)]
theorem skSum_ev (xs : List Int) (hx : xs.length ≤ 1048576) : Ev (fun k => spec_skSum.f k xs) (evSum xs 0) := skSum_l0 xs hx xs.length 0 0 (by omega) (by omega)
theorem skBefore_l0 (a b : List Int) (ha : a.length ≤ 1048576) (hb : b.length ≤ 1048576) (d : Nat) : ∀ j : Nat, j ≤ a.length → j ≤ b.length → a.length - j = d → ∃ t, Ev (fun k => spec_skBefore.l0 k a b (j : Int)) t ∧ (t = true ↔ lx (a.drop j) (b.drop j)) := by
  induction d with
  | zero =>
    intro j h1 h2 hd
    refine ⟨decide ((a.length : Int) < (b.length : Int)), ?_, ?_⟩
    · refine Ev.step (fun k => rfl) ?_
      simp only [spec_skBefore.l0]
      refine ev_else (by omega) ?_
      refine Ev.step (fun k => rfl) ?_
      simp only [spec_skBefore.j1]
      exact ev_else (by simp) (Ev.now _)
    · rw [List.drop_of_length_le (l := a) (by omega), decide_eq_true_eq]
      by_cases e : j < b.length
      · rw [List.drop_eq_getElem_cons e]; simp only [lx, iff_true]; omega
      · rw [List.drop_of_length_le (l := b) (by omega)]; simp only [lx, iff_false]; omega
  | succ d ih =>
    intro j h1 h2 hd
    have hj : j < a.length := by omega
    by_cases e : j < b.length
    · by_cases c : a[j] = b[j]
      · obtain ⟨t, t1, t2⟩ := ih (j + 1) (by omega) (by omega) (by omega)
        refine ⟨t, ?_, ?_⟩
        · refine Ev.step (fun k => rfl) ?_
          simp only [spec_skBefore.l0]
          refine ev_if (by omega) ?_
          refine Ev.step (fun k => rfl) ?_
          simp only [spec_skBefore.j1]
          refine ev_if (by simp; omega) (ev_if (by omega) (ev_if (by omega) (ev_if (by omega) (ev_if ?_ ?_))))
          · rw [rd_nat a j hj, rd_nat b j e, c]
          · rw [w64s (by omega)]; exact t1
        · rw [t2, List.drop_eq_getElem_cons hj, List.drop_eq_getElem_cons e]
          simp only [lx]
          constructor
          · exact fun h => .inr ⟨c, h⟩
          · rintro (h | ⟨_, h⟩)
            · omega
            · exact h
      · refine ⟨decide (a[j] < b[j]), ?_, ?_⟩
        · refine Ev.step (fun k => rfl) ?_
          simp only [spec_skBefore.l0]
          refine ev_if (by omega) ?_
          refine Ev.step (fun k => rfl) ?_
          simp only [spec_skBefore.j1]
          refine ev_if (by simp; omega) (ev_if (by omega) (ev_if (by omega) (ev_if (by omega) (ev_else ?_ ?_))))
          · rw [rd_nat a j hj, rd_nat b j e]; exact c
          · rw [rd_nat a j hj, rd_nat b j e]; exact Ev.now _
        · rw [List.drop_eq_getElem_cons hj, List.drop_eq_getElem_cons e, decide_eq_true_eq]
          simp only [lx]
          constructor
          · exact fun h => .inl h
          · rintro (h | ⟨h, _⟩)
            · exact h
            · exact absurd h c
    · refine ⟨decide ((a.length : Int) < (b.length : Int)), ?_, ?_⟩
      · refine Ev.step (fun k => rfl) ?_
        simp only [spec_skBefore.l0]
        refine ev_if (by omega) ?_
        refine Ev.step (fun k => rfl) ?_
        simp only [spec_skBefore.j1]
        exact ev_else (by simp; omega) (Ev.now _)
      · rw [List.drop_of_length_le (l := b) (by omega), decide_eq_true_eq]; simp only [lx, iff_false]; omega
theorem skBefore_ev (a b : List Int) (ha : a.length ≤ 1048576) (hb : b.length ≤ 1048576) : ∃ t, Ev (fun k => spec_skBefore.f k a b) t ∧ (t = true ↔ lx a b) := skBefore_l0 a b ha hb a.length 0 (by omega) (by omega) (by omega)
theorem bit_one (n : Int) : Go.bits .and .i64 n 1 = n % 2 := by
  have h1 : (BitVec.ofInt 64 1).toNat = 2 ^ 1 - 1 := by decide
  have key : (BitVec.ofInt 64 n &&& BitVec.ofInt 64 1).toNat = (n % ((2 ^ 64 : Nat) : Int)).toNat % 2 ^ 1 := by
    rw [BitVec.toNat_and, BitVec.toNat_ofInt, h1, Nat.and_two_pow_sub_one_eq_mod]
  show IntKind.i64.wrap ((BitVec.ofInt 64 n &&& BitVec.ofInt 64 1).toNat : Nat) = n % 2
  rw [key, IntKind.wrap_i64]
  omega
theorem shr_nat (b j : Nat) (hj : j ≤ 64) : shr .i64 (b : Int) (j : Int) = ((b / 2 ^ j : Nat) : Int) := by
  unfold shr
  rw [Int.toNat_natCast, show IntKind.i64.bits = 64 from rfl, Nat.min_eq_left hj]
  simp
theorem shl_one (n : Nat) (hn : n ≤ 12) : shl .i64 1 (n : Int) = ((2 ^ n : Nat) : Int) := by
  unfold shl
  have hp : 2 ^ n ≤ 2 ^ 12 := Nat.pow_le_pow_right (by omega) hn
  have hp0 : 0 < 2 ^ n := Nat.two_pow_pos n
  rw [Int.toNat_natCast, show IntKind.i64.bits = 64 from rfl, Nat.min_eq_left (by omega), IntKind.wrap_i64, Int.one_mul]
  have e : (2 : Int) ^ n = ((2 ^ n : Nat) : Int) := by simp
  rw [e]
  omega
theorem ones_w (xs : List Int) (hxs : ∀ x ∈ xs, 0 ≤ x ∧ x ≤ 1000) (d : Nat) : ∀ i m, i + d ≤ xs.length → 0 ≤ wOf xs (ones d i m) ∧ wOf xs (ones d i m) ≤ 1000 * (d : Int) ∧ (ones d i m).length ≤ d := by
  induction d with
  | zero => intro i m _; simp [ones, wOf]
  | succ d ih =>
    intro i m hd
    obtain ⟨a1, a2, a3⟩ := ih (i + 1) (m / 2) (by omega)
    have hri : rd xs (i : Int) = xs[i]'(by omega) := rd_nat xs i (by omega)
    have hxi : 0 ≤ rd xs (i : Int) ∧ rd xs (i : Int) ≤ 1000 := by rw [hri]; exact hxs _ (List.getElem_mem _)
    simp only [ones]
    split
    · rw [wOf_cons, List.length_cons]; exact ⟨by omega, by omega, by omega⟩
    · exact ⟨by omega, by omega, by omega⟩
theorem sk_inner (xs : List Int) (hx : xs.length ≤ 12) (hxs : ∀ x ∈ xs, 0 ≤ x ∧ x ≤ 1000) (all least count : Int) (first : List Int) (b : Nat) (R : Int × List Int × Int) (d : Nat) :
    ∀ (j : Nat) (s : Int) (h : List Int), j + d = xs.length → 0 ≤ s → s + 1000 * (d : Int) ≤ 100000 → h.length + d ≤ 1000 →
      Ev (fun k => (spec_l1Abs.f (wrap64 (all - (wrap64 (2 * (s + wOf xs (ones d j (b / 2 ^ j)))))))).bind fun t196 => (if least < 0 then (spec_skHalves.j2 k xs all least count first (b : Int) (h ++ ones d j (b / 2 ^ j)) t196 true) else (spec_skHalves.j2 k xs all least count first (b : Int) (h ++ ones d j (b / 2 ^ j)) t196 (decide (t196 < least))))) R →
      Ev (fun k => spec_skHalves.l1 k xs all least count first (b : Int) s h xs (xs.length : Int) (j : Int)) R := by
  induction d with
  | zero =>
    intro j s h hj _ _ _ hE
    simp only [ones, List.append_nil, wOf, List.map_nil, List.sum_nil, Int.add_zero] at hE
    refine Ev.step (fun k => rfl) ?_
    simp only [spec_skHalves.l1]
    exact ev_else (by omega) hE
  | succ d ih =>
    intro j s h hj h0 h1 h2 hE
    have hjl : j < xs.length := by omega
    have hri : rd xs (j : Int) = xs[j] := rd_nat xs j hjl
    have hxi : 0 ≤ rd xs (j : Int) ∧ rd xs (j : Int) ≤ 1000 := by rw [hri]; exact hxs _ (List.getElem_mem _)
    have hb : Go.bits .and .i64 (shr .i64 (b : Int) (j : Int)) 1 = ((b / 2 ^ j % 2 : Nat) : Int) := by
      rw [bit_one, shr_nat b j (by omega)]; omega
    have hdiv : b / 2 ^ j / 2 = b / 2 ^ (j + 1) := by rw [Nat.pow_succ, Nat.div_div_eq_div_mul]
    simp only [ones] at hE
    rw [hdiv] at hE
    refine Ev.step (fun k => rfl) ?_
    simp only [spec_skHalves.l1]
    refine ev_if (by omega) (ev_if (by omega) (ev_if (by omega) ?_))
    rw [hb, w64s (by omega)]
    by_cases c : b / 2 ^ j % 2 = 1
    · simp only [if_pos c] at hE
      refine ev_if (by omega) (ev_if (by omega) ?_)
      rw [w64 (x := s + rd xs (j : Int)) (by omega) (by omega)]
      refine ih (j + 1) (s + rd xs (j : Int)) (h ++ [(j : Int)]) (by omega) (by omega) (by omega) (by simp; omega) ?_
      rw [show s + rd xs (j : Int) + wOf xs (ones d (j + 1) (b / 2 ^ (j + 1))) = s + wOf xs ((j : Int) :: ones d (j + 1) (b / 2 ^ (j + 1))) by rw [wOf_cons]; omega, List.append_assoc, List.singleton_append]
      exact hE
    · simp only [if_neg c] at hE
      refine ev_else (by omega) ?_
      exact ih (j + 1) s h (by omega) h0 (by omega) (by omega) hE
theorem abs_eq {a : Int} (h0 : -1000000 ≤ a) (h1 : a ≤ 1000000) : spec_l1Abs.f a = some (mx (-a) a) := by
  unfold spec_l1Abs.f spec_l1Most.f mx
  rw [w64 (x := -a) (by omega) (by omega)]
  by_cases c : a > -a
  · rw [if_pos c, if_pos (show -a < a from c)]; rfl
  · rw [if_neg c, if_neg (show ¬ -a < a from c)]; rfl
theorem sk_outer (xs : List Int) (hx0 : 0 < xs.length) (hx : xs.length ≤ 12) (hxs : ∀ x ∈ xs, 0 ≤ x ∧ x ≤ 1000) (all : Int) (ha0 : 0 ≤ all) (ha1 : all ≤ 12000) (e : Nat) :
    ∀ (m : Nat) (least count : Int) (first : List Int), m + e = 2 ^ (xs.length - 1) → first.length ≤ 1000 → count ≤ m → 0 ≤ count →
      (m = 0 ∧ least = -1 ∨ IsAns (fOf xs all) ((List.range m).map fun m => ones xs.length 0 (2 * m + 1)) first least count) →
      ∃ b l c, Ev (fun k => spec_skHalves.l0 k xs all least count first ((2 * m + 1 : Nat) : Int)) (l, b, c) ∧ IsAns (fOf xs all) ((List.range (2 ^ (xs.length - 1))).map fun m => ones xs.length 0 (2 * m + 1)) b l c := by
  have hp : (2 : Nat) ^ (xs.length - 1) ≤ 2 ^ 11 := Nat.pow_le_pow_right (by omega) (by omega)
  have hp2 : 2 ^ xs.length = 2 * 2 ^ (xs.length - 1) := by
    obtain ⟨k, hk⟩ : ∃ k, xs.length = k + 1 := ⟨xs.length - 1, by omega⟩
    rw [hk, Nat.pow_succ]; simp; omega
  induction e with
  | zero =>
    intro m least count first hm _ _ _ hs
    have hm : m = 2 ^ (xs.length - 1) := by omega
    have hpos : 0 < 2 ^ (xs.length - 1) := Nat.two_pow_pos _
    rcases hs with ⟨h, _⟩ | hs
    · omega
    · refine ⟨first, least, count, ?_, by rw [← hm]; exact hs⟩
      refine Ev.step (fun k => rfl) ?_
      simp only [spec_skHalves.l0]
      exact ev_else (by rw [shl_one _ hx]; omega) (Ev.now _)
  | succ e ih =>
    intro m least count first hm hfl hc0 hc1 hs
    obtain ⟨h, hh⟩ : ∃ h, h = ones xs.length 0 (2 * m + 1) := ⟨_, rfl⟩
    obtain ⟨w0, w1, w2⟩ := ones_w xs hxs xs.length 0 (2 * m + 1) (by omega)
    rw [← hh] at w0 w1 w2
    have hP : (List.range (m + 1)).map (fun m => ones xs.length 0 (2 * m + 1)) = (List.range m).map (fun m => ones xs.length 0 (2 * m + 1)) ++ [h] := by rw [List.range_succ, List.map_append, hh]; rfl
    have hfe : mx (-(all - 2 * wOf xs h)) (all - 2 * wOf xs h) = fOf xs all h := by unfold fOf; rw [show -(all - 2 * wOf xs h) = 2 * wOf xs h - all by omega]
    have habs : spec_l1Abs.f (wrap64 (all - (wrap64 (2 * wOf xs h)))) = some (fOf xs all h) := by
      rw [w64 (x := 2 * wOf xs h) (by omega) (by omega), w64 (x := all - 2 * wOf xs h) (by omega) (by omega), abs_eq (by omega) (by omega), hfe]
    obtain ⟨f, hf⟩ : ∃ f, f = fOf xs all h := ⟨_, rfl⟩
    have hf0 : 0 ≤ f := by rw [hf]; unfold fOf mx; split <;> omega
    have hnext : wrap64 (((2 * m + 1 : Nat) : Int) + 2) = ((2 * (m + 1) + 1 : Nat) : Int) := by rw [w64 (by omega) (by omega)]; omega
    -- what stands behind the inner loop
    have main : ∃ b l c, Ev (fun k => if least < 0 then (spec_skHalves.j2 k xs all least count first ((2 * m + 1 : Nat) : Int) h f true) else (spec_skHalves.j2 k xs all least count first ((2 * m + 1 : Nat) : Int) h f (decide (f < least)))) (l, b, c) ∧ IsAns (fOf xs all) ((List.range (2 ^ (xs.length - 1))).map fun m => ones xs.length 0 (2 * m + 1)) b l c := by
      by_cases c1 : least < 0 ∨ f < least
      · -- a lesser one
        have hans : IsAns (fOf xs all) ((List.range (m + 1)).map fun m => ones xs.length 0 (2 * m + 1)) h f 1 := by
          rw [hP, hf]
          rcases hs with ⟨h0, _⟩ | hs
          · subst h0; exact IsAns.cons_low h
          · refine hs.less ?_
            have hv := hs.val
            have : 0 ≤ least := by rw [← hv]; unfold fOf mx; split <;> omega
            rw [← hf]; omega
        obtain ⟨b, l, c, r1, r2⟩ := ih (m + 1) f 1 h (by omega) (by omega) (by omega) (by omega) (.inr hans)
        refine ⟨b, l, c, ?_, r2⟩
        obtain ⟨t, t1, t2⟩ := skBefore_ev h h (by omega) (by omega)
        have ht : t = false := by
          cases t with
          | false => rfl
          | true => exact absurd (t2.mp rfl) (lx_irrefl h)
        subst ht
        have h3 : Ev (fun k => spec_skHalves.j3 k xs all f 0 h ((2 * m + 1 : Nat) : Int) h f) (l, b, c) := by
          refine Ev.step (fun k => rfl) ?_
          simp only [spec_skHalves.j3]
          refine ev_if trivial (Ev.bind t1 (ev_else (by simp) ?_))
          rw [hnext, w64 (x := (0 : Int) + 1) (by omega) (by omega)]
          exact r1
        have h2 : Ev (fun k => spec_skHalves.j2 k xs all least count first ((2 * m + 1 : Nat) : Int) h f true) (l, b, c) := by
          refine Ev.step (fun k => rfl) ?_
          simp only [spec_skHalves.j2]
          exact ev_if trivial h3
        by_cases c2 : least < 0
        · exact ev_if c2 h2
        · refine ev_else c2 ?_
          rw [decide_eq_true (show f < least by omega)]
          exact h2
      · have hs : IsAns (fOf xs all) ((List.range m).map fun m => ones xs.length 0 (2 * m + 1)) first least count := by
          rcases hs with ⟨h0, h1⟩ | hs
          · omega
          · exact hs
        have h2 : ∀ R, Ev (fun k => spec_skHalves.j3 k xs all least count first ((2 * m + 1 : Nat) : Int) h f) R → Ev (fun k => if least < 0 then (spec_skHalves.j2 k xs all least count first ((2 * m + 1 : Nat) : Int) h f true) else (spec_skHalves.j2 k xs all least count first ((2 * m + 1 : Nat) : Int) h f (decide (f < least)))) R := by
          intro R hR
          refine ev_else (by omega) ?_
          rw [decide_eq_false (show ¬ f < least by omega)]
          refine Ev.step (fun k => rfl) ?_
          simp only [spec_skHalves.j2]
          exact ev_else (by simp) hR
        by_cases c2 : f = least
        · obtain ⟨t, t1, t2⟩ := skBefore_ev h first (by omega) (by omega)
          cases t with
          | true =>
            have hans := hs.ahead (x := h) (by rw [← hf]; exact c2) (t2.mp rfl)
            rw [← hP] at hans
            obtain ⟨b, l, c, r1, r2⟩ := ih (m + 1) least (count + 1) h (by omega) (by omega) (by omega) (by omega) (.inr hans)
            refine ⟨b, l, c, h2 _ ?_, r2⟩
            refine Ev.step (fun k => rfl) ?_
            simp only [spec_skHalves.j3]
            refine ev_if c2 (Ev.bind t1 (ev_if rfl ?_))
            rw [hnext, w64 (x := count + 1) (by omega) (by omega)]
            exact r1
          | false =>
            have hnl : ¬ lx h first := fun g => by have := t2.mpr g; cases this
            have hans := hs.same (x := h) (by rw [← hf]; exact c2) (by
              rcases lx_tri h first with g | g | g
              · exact absurd g hnl
              · exact .inl g
              · exact .inr g)
            rw [← hP] at hans
            obtain ⟨b, l, c, r1, r2⟩ := ih (m + 1) least (count + 1) first (by omega) (by omega) (by omega) (by omega) (.inr hans)
            refine ⟨b, l, c, h2 _ ?_, r2⟩
            refine Ev.step (fun k => rfl) ?_
            simp only [spec_skHalves.j3]
            refine ev_if c2 (Ev.bind t1 (ev_else (by simp) ?_))
            rw [hnext, w64 (x := count + 1) (by omega) (by omega)]
            exact r1
        · have hans := hs.more (x := h) (by rw [← hf]; omega)
          rw [← hP] at hans
          obtain ⟨b, l, c, r1, r2⟩ := ih (m + 1) least count first (by omega) (by omega) (by omega) (by omega) (.inr hans)
          refine ⟨b, l, c, h2 _ ?_, r2⟩
          refine Ev.step (fun k => rfl) ?_
          simp only [spec_skHalves.j3]
          refine ev_else c2 ?_
          rw [hnext]
          exact r1
    obtain ⟨b, l, c, r1, r2⟩ := main
    refine ⟨b, l, c, ?_, r2⟩
    refine Ev.step (fun k => rfl) ?_
    simp only [spec_skHalves.l0]
    refine ev_if (by rw [shl_one _ hx]; omega) ?_
    have hin := sk_inner xs hx hxs all least count first (2 * m + 1) (l, b, c) xs.length 0 0 [] (by omega) (by omega) (by omega) (by simp; omega)
    simp only [Nat.pow_zero, Nat.div_one, Int.zero_add, List.nil_append] at hin
    rw [← hh] at hin
    exact hin (ev_bind habs (by rw [← hf]; exact r1))
theorem halves_both (xs : List Int) (hx0 : 0 < xs.length) (hx : xs.length ≤ 12) (hxs : ∀ x ∈ xs, 0 ≤ x ∧ x ≤ 1000) : ∃ b l c, impl_evenest.f xs = some (b, l, c) ∧ Ev (fun k => spec_skHalves.f k xs) (l, b, c) ∧ b.length ≤ 1000 := by
  obtain ⟨b, l, c, h1, h2⟩ := impl_ans xs hx0 hx hxs
  have hb := evSum_bound xs 0 hxs (by omega) (by omega)
  obtain ⟨b', l', c', g1, g2⟩ := sk_outer xs hx0 hx hxs (evSum xs 0) (by omega) (by omega) (2 ^ (xs.length - 1)) 0 (-1) 0 [] (by omega) (by simp) (by omega) (by omega) (.inl ⟨rfl, rfl⟩)
  have g3 := g2.perm (halves_perm xs.length hx0)
  obtain ⟨e1, e2, e3⟩ := h2.one g3
  subst e1 e2 e3
  refine ⟨b, l, c, h1, Ev.bind (skSum_ev xs (by omega)) g1, ?_⟩
  obtain ⟨m, _, hm⟩ := List.mem_map.mp g2.mem
  have := (ones_w xs hxs xs.length 0 (2 * m + 1) (by omega)).2.2
  rw [hm] at this
  omega
theorem okW_pos {xs : List Int} (h : okW xs = true) : 0 < xs.length := by
  unfold okW at h
  rw [Bool.and_eq_true, decide_eq_true_eq] at h
  omega

theorem FnExactCountHalves : laws_FnExactCountHalves.Pure := by
  intro xs _ _ _
  apply Ev.rounds (r := true)
  unfold laws_FnExactCountHalves.f
  by_cases hx0 : (xs.length : Int) > 1048576
  · exact ev_if hx0 (Ev.now _)
  refine ev_else hx0 ?_
  have hx : xs.length ≤ 1048576 := by omega
  have key : ∃ q, Ev (fun k => spec_CountHalves.f k xs) q ∧ impl_CountHalves.f xs = some q := by
    unfold spec_CountHalves.f impl_CountHalves.f
    rw [areWeights_eq]
    simp only [Option.bind_some]
    cases hb : okW xs with
    | true =>
      obtain ⟨b1, b2⟩ := okW_bound hb
      obtain ⟨b, l, c, h1, h2, _⟩ := halves_both xs (okW_pos hb) b1 b2
      exact ⟨(c, true), Ev.bind (skGood_ev xs (by omega)) (ev_if hb (Ev.bind h2 (Ev.now _))), by rw [if_pos rfl, h1]; rfl⟩
    | false => exact ⟨(0, false), Ev.bind (skGood_ev xs (by omega)) (ev_else (by rw [hb]; simp) (Ev.now _)), by rw [if_neg (by simp)]⟩
  obtain ⟨q, hs, hi⟩ := key
  refine Ev.bind (toIntS_ev xs hx) (Ev.bind hs (Ev.bind (toIntS_ev xs hx) (ev_bind hi (ev_if rfl ?_))))
  exact Ev.step (fun k => by simp only [laws_FnExactCountHalves.j0]; rfl) (ev_else (by simp) (Ev.bind (toIntS_ev xs hx) (Ev.bind (eqIntS_self xs (by omega)) (ev_if rfl (Ev.now _)))))

end Go.Proofs.Ytnppcpjkjepfeaa.Pure
