/- For all arguments the program's ResultsFor returns what the reference's ResultsFor returns. No condition. -/
import Derived.Test.YtipgbhjioffbnaaP2
namespace Go.Proofs.Ytipgbhjioffbnaa.Pure
open Go.RowKit Go.Proofs.Ytipgbhjioffbnaa.P Go.Proofs.YtipgbhjioffbnaaW.PrintWords Go.Proofs.YtipgbhjioffbnaaW.PrintLast
set_option linter.unusedVariables false
set_option linter.unusedSimpArgs false

theorem w64 {x : Int} (h0 : -9223372036854775808 ≤ x) (h1 : x ≤ 9223372036854775807) : wrap64 x = x := by
  unfold wrap64
  omega
theorem wf_i64 {x : Int} (h : (Lit.int .i64 x).wf = true) : -9223372036854775808 ≤ x ∧ x ≤ 9223372036854775807 := by
  have hmin : IntKind.i64.min = -9223372036854775808 := rfl
  have hmax : IntKind.i64.max = 9223372036854775807 := rfl
  simp only [Lit.wf, Bool.and_eq_true, decide_eq_true_eq] at h
  omega

theorem l1In_eq (a b c : Int) : spec_l1In.f a b c = some (decide (b ≤ a ∧ a ≤ c)) := by
  unfold spec_l1In.f
  by_cases h : b ≤ a
  · rw [if_pos (show a ≥ b from h)]; simp [h]
  · rw [if_neg (show ¬ a ≥ b from h)]; simp [h]
theorem within_eq (a b c : Int) : impl_within.f a b c = some (decide (b ≤ a ∧ a ≤ c)) := by
  unfold impl_within.f
  by_cases h : b ≤ a
  · rw [if_pos h]; simp [h]
  · rw [if_neg h]; simp [h]
theorem within_l1In (a b c : Int) : impl_within.f a b c = spec_l1In.f a b c := by rw [within_eq, l1In_eq]

theorem two {α β : Type} {g : Nat → Option α} {f : Nat → Option β} {a : α} {b : β} (h : Ev g a) (h' : Ev f b) : ∃ k, g k = some a ∧ f k = some b := by
  obtain ⟨K, h⟩ := h
  obtain ⟨K', h'⟩ := h'
  exact ⟨max K K', h _ (by omega), h' _ (by omega)⟩
theorem str_app (xs ys : List Int) : strOfNums (xs ++ ys) = strOfNums xs ++ strOfNums ys := by
  apply ByteArray.ext
  simp [strOfNums]
theorem str_nil : strOfNums [] = (⟨#[]⟩ : ByteArray) := rfl
theorem str_size (xs : List Int) : (strOfNums xs).size = xs.length := by simp [strOfNums, ByteArray.size]
theorem ba_nil_app (b : ByteArray) : (⟨#[]⟩ : ByteArray) ++ b = b := by
  apply ByteArray.ext
  simp
theorem ba_app_nil (b : ByteArray) : b ++ (⟨#[]⟩ : ByteArray) = b := by
  apply ByteArray.ext
  simp
theorem ba_assoc (a b c : ByteArray) : a ++ b ++ c = a ++ (b ++ c) := by
  apply ByteArray.ext
  simp
theorem ev_if {α : Type} {c : Prop} [Decidable c] {g f : Nat → Option α} {r : α} (hc : c) (h : Ev g r) : Ev (fun k => if c then g k else f k) r :=
  Ev.congr (fun k => if_pos hc) h
theorem ev_else {α : Type} {c : Prop} [Decidable c] {g f : Nat → Option α} {r : α} (hc : ¬ c) (h : Ev f r) : Ev (fun k => if c then g k else f k) r :=
  Ev.congr (fun k => if_neg hc) h
theorem ev_bind {α β : Type} {a : α} {o : Option α} {f : Nat → α → Option β} {r : β} (h : o = some a) (k : Ev (fun n => f n a) r) : Ev (fun n => o.bind (f n)) r :=
  Ev.congr (fun n => by rw [h]; rfl) k

theorem pan {m : Int} (h0 : 0 ≤ m) (h1 : m ≤ 1000) : wrap64 (Int.tdiv (wrap64 (m + 1)) 3) = (m + 1) / 3 := by
  rw [w64 (x := m + 1) (by omega) (by omega), Int.tdiv_eq_ediv_of_nonneg (by omega), w64 (by omega) (by omega)]
theorem weighed_c {m : Int} (h0 : 2 ≤ m) (h1 : m ≤ 1000) (c : Int) : impl_weighed.f m c =
    some (if c = 108 then (0, (m + 1) / 3) else if c = 114 then ((m + 1) / 3, (m + 1) / 3) else if c = 61 then (2 * ((m + 1) / 3), m - 2 * ((m + 1) / 3)) else (0, 0)) := by
  have hg : impl_WeighGroups.f m = some ((m + 1) / 3, m - 2 * ((m + 1) / 3), true) := by
    unfold impl_WeighGroups.f
    rw [within_eq]
    simp only [Option.bind_some, decide_eq_true_eq]
    rw [if_pos ⟨h0, h1⟩, pan (by omega) h1, w64 (x := 2 * ((m + 1) / 3)) (by omega) (by omega), w64 (by omega) (by omega)]
  unfold impl_weighed.f
  rw [hg]
  simp only [Option.bind_some]
  rw [w64 (x := 2 * ((m + 1) / 3)) (by omega) (by omega)]
  split
  · rfl
  · split
    · rfl
    · split <;> rfl
theorem weighed_l {m : Int} (h0 : 2 ≤ m) (h1 : m ≤ 1000) : impl_weighed.f m 108 = some (0, (m + 1) / 3) := by rw [weighed_c h0 h1]; rfl
theorem weighed_r {m : Int} (h0 : 2 ≤ m) (h1 : m ≤ 1000) : impl_weighed.f m 114 = some ((m + 1) / 3, (m + 1) / 3) := by rw [weighed_c h0 h1]; rfl
theorem weighed_e {m : Int} (h0 : 2 ≤ m) (h1 : m ≤ 1000) : impl_weighed.f m 61 = some (2 * ((m + 1) / 3), m - 2 * ((m + 1) / 3)) := by rw [weighed_c h0 h1]; rfl
theorem l1_step {m h i c b l : Int} {acc : List Int} (k : Nat) (hi : 0 ≤ i) (hi3 : i < 3) (hc : rd [108, 114, 61] i = c) (hw : impl_weighed.f m c = some (b, l)) (hb : -2000 ≤ h - b) (hb2 : h - b ≤ 2000)
    (hl : 0 ≤ l) (hl2 : l ≤ 1000) (ha : acc.length < 140737488355328) :
    impl_ResultsFor.l1 (k + 1) m h acc [108, 114, 61] (([108, 114, 61] : List Int).length : Int) i =
      if 0 ≤ h - b ∧ h - b ≤ l - 1 then impl_ResultsFor.l0 k l (h - b) (acc ++ [c]) else impl_ResultsFor.l1 k m h acc [108, 114, 61] (([108, 114, 61] : List Int).length : Int) (i + 1) := by
  have h3 : i < (([108, 114, 61] : List Int).length : Int) := by simpa using hi3
  simp only [impl_ResultsFor.l1]
  rw [if_pos h3, if_pos hi, if_pos h3, hc, hw]
  simp only [Option.bind_some, within_eq, decide_eq_true_eq]
  rw [w64 (x := h - b) (by omega) (by omega), w64 (x := l - 1) (by omega) (by omega), w64 (x := i + 1) (by omega) (by omega)]
  by_cases g : 0 ≤ h - b ∧ h - b ≤ l - 1
  · rw [if_pos g, if_pos g, if_pos ha]
  · rw [if_neg g, if_neg g]
theorem both (d : Nat) : ∀ (m h : Int), 0 ≤ h → h < m → m ≤ 1000 → m ≤ d → ∃ L : List Int, L.length ≤ d ∧
    (∀ (hv fr : Int) (ba : ByteArray), hv - fr = h → 0 ≤ fr → hv ≤ 1000 → ba.size + d ≤ 1000000 → Ev (fun k => spec_bxResults.l0 k hv ba fr m) (ba ++ strOfNums L)) ∧
    (∀ acc : List Int, acc.length + d ≤ 1000000 → Ev (fun k => impl_ResultsFor.l0 k m h acc) (strOfNums (acc ++ L), true)) := by
  induction d with
  | zero => intro m h h0 h1 h2 h3; omega
  | succ d ih =>
    intro m h h0 h1 h2 h3
    by_cases hm : m > 1
    · have hs : ∀ (k : Nat) (hv fr : Int) (ba : ByteArray), hv - fr = h → 0 ≤ fr → hv ≤ 1000 → ba.size + (d + 1) ≤ 1000000 → spec_bxResults.l0 (k + 1) hv ba fr m =
          if h < (m + 1) / 3 then spec_bxResults.l0 k hv (ba ++ (⟨#[108]⟩ : ByteArray)) fr ((m + 1) / 3) else if h < 2 * ((m + 1) / 3) then spec_bxResults.l0 k hv (ba ++ (⟨#[114]⟩ : ByteArray)) (fr + (m + 1) / 3) ((m + 1) / 3)
          else spec_bxResults.l0 k hv (ba ++ (⟨#[61]⟩ : ByteArray)) (fr + 2 * ((m + 1) / 3)) (m - 2 * ((m + 1) / 3)) := by
        intro k hv fr ba e0 e1 e2 e3
        simp only [spec_bxResults.l0, spec_bxPan.f]
        rw [if_pos hm, pan (by omega) h2]
        simp only [Option.bind_some]
        rw [w64 (x := hv - fr) (by omega) (by omega), w64 (x := 2 * ((m + 1) / 3)) (by omega) (by omega), w64 (x := m - 2 * ((m + 1) / 3)) (by omega) (by omega), if_pos (show ba.size + 1 ≤ 9223372036854775807 by omega), e0]
        by_cases g : h < (m + 1) / 3
        · rw [if_pos g, if_pos g]
        · rw [if_neg g, if_neg g, w64 (x := fr + (m + 1) / 3) (by omega) (by omega), w64 (x := fr + 2 * ((m + 1) / 3)) (by omega) (by omega), if_pos (show ba.size + 1 ≤ 9223372036854775807 by omega), if_pos (show ba.size + 1 ≤ 9223372036854775807 by omega)]
      have sz : ∀ (ba : ByteArray) (c : UInt8), (ba ++ (⟨#[c]⟩ : ByteArray)).size = ba.size + 1 := by
        intro ba c
        rw [ByteArray.size_append]; rfl
      have hi0 : ∀ (k : Nat) (acc : List Int), impl_ResultsFor.l0 (k + 1) m h acc = impl_ResultsFor.l1 k m h acc [108, 114, 61] (([108, 114, 61] : List Int).length : Int) 0 := by
        intro k acc
        simp only [impl_ResultsFor.l0]
        rw [if_pos hm]
        rfl
      by_cases g : h < (m + 1) / 3
      · obtain ⟨L, hL, h5, h6⟩ := ih ((m + 1) / 3) h h0 g (by omega) (by omega)
        refine ⟨108 :: L, by simp; omega, fun hv fr ba e0 e1 e2 e3 => ?_, fun acc ha => ?_⟩
        · have z := h5 hv fr (ba ++ (⟨#[108]⟩ : ByteArray)) e0 e1 e2 (by rw [sz]; omega)
          have e : ba ++ (⟨#[108]⟩ : ByteArray) ++ strOfNums L = ba ++ strOfNums (108 :: L) := by rw [ba_assoc, show (108 :: L : List Int) = [108] ++ L from rfl, str_app]; rfl
          rw [e] at z
          exact Ev.step (fun k => by rw [hs k hv fr ba e0 e1 e2 e3, if_pos g]) z
        · have z := h6 (acc ++ [108]) (by simp; omega)
          rw [List.append_assoc] at z
          refine Ev.step (fun k => hi0 k acc) (Ev.step (f := fun k => impl_ResultsFor.l0 k ((m + 1) / 3) h (acc ++ [108])) (fun k => ?_) z)
          rw [l1_step (c := 108) (b := 0) (l := (m + 1) / 3) k (by omega) (by omega) rfl (weighed_l (by omega) h2) (by omega) (by omega) (by omega) (by omega) (by omega)]
          rw [if_pos (by omega), Int.sub_zero]
      · by_cases g2 : h < 2 * ((m + 1) / 3)
        · obtain ⟨L, hL, h5, h6⟩ := ih ((m + 1) / 3) (h - (m + 1) / 3) (by omega) (by omega) (by omega) (by omega)
          refine ⟨114 :: L, by simp; omega, fun hv fr ba e0 e1 e2 e3 => ?_, fun acc ha => ?_⟩
          · have z := h5 hv (fr + (m + 1) / 3) (ba ++ (⟨#[114]⟩ : ByteArray)) (by omega) (by omega) e2 (by rw [sz]; omega)
            have e : ba ++ (⟨#[114]⟩ : ByteArray) ++ strOfNums L = ba ++ strOfNums (114 :: L) := by rw [ba_assoc, show (114 :: L : List Int) = [114] ++ L from rfl, str_app]; rfl
            rw [e] at z
            exact Ev.step (fun k => by rw [hs k hv fr ba e0 e1 e2 e3, if_neg g, if_pos g2]) z
          · have z := h6 (acc ++ [114]) (by simp; omega)
            rw [List.append_assoc] at z
            refine Ev.step (fun k => hi0 k acc) (Ev.step (f := fun k => impl_ResultsFor.l1 k m h acc [108, 114, 61] (([108, 114, 61] : List Int).length : Int) (0 + 1)) (fun k => ?_) (Ev.step (fun k => ?_) z))
            · rw [l1_step (c := 108) (b := 0) (l := (m + 1) / 3) k (by omega) (by omega) rfl (weighed_l (by omega) h2) (by omega) (by omega) (by omega) (by omega) (by omega)]
              rw [if_neg (by omega)]
            · rw [l1_step (c := 114) (b := (m + 1) / 3) (l := (m + 1) / 3) k (by omega) (by omega) rfl (weighed_r (by omega) h2) (by omega) (by omega) (by omega) (by omega) (by omega)]
              rw [if_pos (by omega)]
        · obtain ⟨L, hL, h5, h6⟩ := ih (m - 2 * ((m + 1) / 3)) (h - 2 * ((m + 1) / 3)) (by omega) (by omega) (by omega) (by omega)
          refine ⟨61 :: L, by simp; omega, fun hv fr ba e0 e1 e2 e3 => ?_, fun acc ha => ?_⟩
          · have z := h5 hv (fr + 2 * ((m + 1) / 3)) (ba ++ (⟨#[61]⟩ : ByteArray)) (by omega) (by omega) e2 (by rw [sz]; omega)
            have e : ba ++ (⟨#[61]⟩ : ByteArray) ++ strOfNums L = ba ++ strOfNums (61 :: L) := by rw [ba_assoc, show (61 :: L : List Int) = [61] ++ L from rfl, str_app]; rfl
            rw [e] at z
            exact Ev.step (fun k => by rw [hs k hv fr ba e0 e1 e2 e3, if_neg g, if_neg g2]) z
          · have z := h6 (acc ++ [61]) (by simp; omega)
            rw [List.append_assoc] at z
            refine Ev.step (fun k => hi0 k acc) (Ev.step (f := fun k => impl_ResultsFor.l1 k m h acc [108, 114, 61] (([108, 114, 61] : List Int).length : Int) (0 + 1)) (fun k => ?_) (Ev.step (f := fun k => impl_ResultsFor.l1 k m h acc [108, 114, 61] (([108, 114, 61] : List Int).length : Int) (0 + 1 + 1)) (fun k => ?_) (Ev.step (fun k => ?_) z)))
            · rw [l1_step (c := 108) (b := 0) (l := (m + 1) / 3) k (by omega) (by omega) rfl (weighed_l (by omega) h2) (by omega) (by omega) (by omega) (by omega) (by omega)]
              rw [if_neg (by omega)]
            · rw [l1_step (c := 114) (b := (m + 1) / 3) (l := (m + 1) / 3) k (by omega) (by omega) rfl (weighed_r (by omega) h2) (by omega) (by omega) (by omega) (by omega) (by omega)]
              rw [if_neg (by omega)]
            · rw [l1_step (c := 61) (b := 2 * ((m + 1) / 3)) (l := m - 2 * ((m + 1) / 3)) k (by omega) (by omega) rfl (weighed_e (by omega) h2) (by omega) (by omega) (by omega) (by omega) (by omega)]
              rw [if_pos (by omega)]
    · refine ⟨[], by simp, fun hv fr ba e0 e1 e2 e3 => ?_, fun acc ha => ?_⟩
      · rw [str_nil, ba_app_nil]
        exact Ev.step (fun k => by simp only [spec_bxResults.l0]; rw [if_neg hm]) (Ev.now _)
      · rw [List.append_nil]
        exact Ev.step (fun k => by simp only [impl_ResultsFor.l0]; rw [if_neg hm]) (Ev.now _)
theorem weighed_1000 (a : Int) : impl_areWeighed.f a = some (decide (1 ≤ a ∧ a ≤ 1000)) := by
  unfold impl_areWeighed.f
  rw [within_eq]; rfl
theorem bxWeighed_1000 (a : Int) : spec_bxWeighed.f a = some (decide (1 ≤ a ∧ a ≤ 1000)) := by
  unfold spec_bxWeighed.f
  rw [l1In_eq]; rfl
theorem results {a h : Int} (h0 : 0 ≤ h) (h1 : h < a) (h2 : a ≤ 1000) : ∃ r : ByteArray, Ev (fun k => spec_bxResults.f k a h) r ∧ Ev (fun k => impl_ResultsFor.f k a h) (r, true) := by
  obtain ⟨L, _, h5, h6⟩ := both 1000 a h h0 h1 h2 h2
  refine ⟨strOfNums L, ?_, ?_⟩
  · have z := h5 h 0 (⟨#[]⟩ : ByteArray) (by omega) (by omega) (by omega) (by show 0 + 1000 ≤ 1000000; omega)
    rw [ba_nil_app] at z
    exact z
  · have z := h6 [] (by simp)
    rw [List.nil_append] at z
    unfold impl_ResultsFor.f
    rw [weighed_1000, within_eq]
    simp only [Option.bind_some, decide_eq_true_eq]
    refine Ev.step (fun k => ?_) z
    rw [if_pos (by omega), w64 (by omega) (by omega)]
    simp only [impl_ResultsFor.j0]
    rw [if_neg (by simp; omega)]

theorem FnExactResultsFor : laws_FnExactResultsFor.Pure := by
  intro a h _ _
  have key : ∃ r : ByteArray × Bool, Ev (fun k => spec_ResultsFor.f k a h) r ∧ Ev (fun k => impl_ResultsFor.f k a h) r := by
    by_cases g : 1 ≤ a ∧ a ≤ 1000
    · by_cases g2 : 0 ≤ h ∧ h ≤ a - 1
      · obtain ⟨r, h5, h6⟩ := results g2.1 (by omega) g.2
        refine ⟨(r, true), ?_, h6⟩
        obtain ⟨K, h5⟩ := h5
        refine ⟨K, fun k hk => ?_⟩
        unfold spec_ResultsFor.f
        rw [bxWeighed_1000, l1In_eq, w64 (by omega) (by omega)]
        simp only [Option.bind_some, decide_eq_true_eq]
        rw [if_pos g, if_pos g2, show spec_bxResults.f k a h = some r from h5 k hk]; rfl
      · refine ⟨((⟨#[]⟩ : ByteArray), false), ⟨0, fun k _ => ?_⟩, ⟨1, fun k hk => ?_⟩⟩
        · unfold spec_ResultsFor.f
          rw [bxWeighed_1000, l1In_eq, w64 (by omega) (by omega)]
          simp only [Option.bind_some, decide_eq_true_eq]
          rw [if_pos g, if_neg g2]
        · obtain ⟨k, rfl⟩ : ∃ m, k = m + 1 := ⟨k - 1, by omega⟩
          unfold impl_ResultsFor.f
          rw [weighed_1000, within_eq, w64 (by omega) (by omega)]
          simp only [Option.bind_some, decide_eq_true_eq]
          rw [if_pos g]
          simp only [impl_ResultsFor.j0]
          rw [if_pos (by simp; omega)]
    · refine ⟨((⟨#[]⟩ : ByteArray), false), ⟨0, fun k _ => ?_⟩, ⟨1, fun k hk => ?_⟩⟩
      · unfold spec_ResultsFor.f
        rw [bxWeighed_1000]
        simp only [Option.bind_some, decide_eq_true_eq]
        rw [if_neg g]
      · obtain ⟨k, rfl⟩ : ∃ m, k = m + 1 := ⟨k - 1, by omega⟩
        unfold impl_ResultsFor.f
        rw [weighed_1000]
        simp only [Option.bind_some, decide_eq_true_eq]
        rw [if_neg g]
        simp only [impl_ResultsFor.j0, if_true]
  obtain ⟨r, h5, h6⟩ := key
  obtain ⟨k, e1, e2⟩ := two h5 h6
  refine ⟨k, ?_⟩
  unfold laws_FnExactResultsFor.f
  rw [e1, e2]
  simp

end Go.Proofs.Ytipgbhjioffbnaa.Pure
