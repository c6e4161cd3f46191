/- Rows of slices of structs of two whole numbers: what a row's argument reads as, in the words of the print (kinds), and that it is no longer than its weight allows. -/
import Derived.Test.YtnppcpjkjepfeaaWWords
import Derived.Test.YtnppcpjkjepfeaaWSized
import Derived.Deep.SlicePairs
import Derived.ChangeArms
import Derived.SizedLaws
import Derived.Below
namespace Go.Proofs.Ytnppcpjkjepfeaa.Pairs
open Go.ChangeShapes Go.WideShapes Go.RowKit Go.Proofs.YtnppcpjkjepfeaaW.PrintWords
theorem pairs_open {α : Type} (kd : Kd α) (mk : Int → Int → α) (p0 p1 : α → Int) (hk2 : kd.sz = 2) (hk : ∀ w x y, kd.K w (mk x y) [.int .i64 x, .int .i64 y]) (hp0 : ∀ x y, p0 (mk x y) = x) (hp1 : ∀ x y, p1 (mk x y) = y)
    {H : Type} {enc : TypeId × Value → H} {P : Program} {W : World} {base : Nat} {held : Bool} {t e : TypeId} {f0 f1 : Field} {a : Option Addr} {len cap : Nat} {d : DataW H} {ps : List MemPlace} {ts : List TypeId} {ds : List (DataW H)} {j : Nat}
    (hsz : (DataW.weightsEach P ts ds).all (· ≤ reachBytes) = true) (ht : ts[j]? = some t) (hd : ds[j]? = some d) (hu : P.underlying t = some (.slice e)) (he : P.underlying e = some (.struct #[f0, f1]))
    (ce : P.cellsOf e = 2) (o0 : f0.offset = 0) (o1 : f1.offset = 1) (c0 : P.cellsOf f0.type = 1) (c1 : P.cellsOf f1.type = 1) (i0 : P.underlying f0.type = some (.int .i64)) (i1 : P.underlying f1.type = some (.int .i64)) {B : Nat} (hB : P.bytesOf e = B)
    (h : DataW.Trod enc P W base (fun _ => true) held t (.slice a len cap) d ps) :
    ∃ zs : List α, len = zs.length ∧ Kd.C kd W a zs.length zs ∧ zs.length ≤ cap ∧ zs.length ≤ maxLen ∧ zs.length * B ≤ 140737488351232 ∧ ∀ x ∈ zs, (Lit.int .i64 (p0 x)).wf = true ∧ (Lit.int .i64 (p1 x)).wf = true := by
  obtain ⟨fuel, hf⟩ := h
  rcases Go.Deep.open_slice_pairs hu he ce o0 o1 c0 c1 hf with ⟨hcs, _⟩ | ⟨x, l, c, m, n, V0, V1, D0, D1, P0, P1, hcs, _, hl, hm, hmm, hx, hall⟩
  · simp [Value.cells] at hcs
    obtain ⟨rfl, rfl, rfl⟩ := hcs
    exact ⟨[], rfl, ⟨rfl, by simp, fun h0 => absurd h0 (by simp)⟩, Nat.le_refl _, by simp, by simp, fun x hx => absurd hx (by simp)⟩
  · simp [Value.cells] at hcs
    obtain ⟨rfl, rfl, rfl⟩ := hcs
    rw [if_pos rfl] at hmm
    subst hmm
    obtain ⟨hx, _⟩ := Prod.mk.inj hx
    subst hx
    have z := sized_slice hsz ht hd hu
    rw [hB, List.length_map, List.length_range, List.length_map, List.length_range] at z
    have hV : ∀ i, i < m → V0 i = .int .i64 (intOf (V0 i)) ∧ V1 i = .int .i64 (intOf (V1 i)) ∧ (Lit.int .i64 (intOf (V0 i))).wf = true ∧ (Lit.int .i64 (intOf (V1 i))).wf = true := by
      intro i hi
      obtain ⟨_, _, h0, h1⟩ := hall i hi
      obtain ⟨n0, e0, _, w0⟩ := DataW.trod_int i0 h0
      obtain ⟨n1, e1, _, w1⟩ := DataW.trod_int i1 h1
      injection e0 with e0 _
      injection e1 with e1 _
      rw [e0, e1]
      exact ⟨rfl, rfl, w0, w1⟩
    refine ⟨(List.range len).map fun i => mk (intOf (V0 i)) (intOf (V1 i)), by simp, ⟨rfl, by rw [List.length_map, List.length_range]; unfold maxLen at hm; omega, fun _ => ⟨x, rfl, ?_⟩⟩, by simpa using hl, by rw [List.length_map, List.length_range]; omega, ?_, ?_⟩
    · intro j p hj
      rw [List.getElem?_map] at hj
      obtain ⟨i, hi, rfl⟩ := Option.map_eq_some_iff.mp hj
      obtain ⟨hi1, hi2⟩ := List.getElem?_eq_some_iff.mp hi
      rw [List.length_range] at hi1
      rw [List.getElem_range] at hi2
      subst hi2
      refine ⟨_, by rw [hk2]; rfl, hk W _ _, ?_⟩
      intro q u hq
      rw [hk2]
      obtain ⟨h0, h1, _, _⟩ := hall j (by omega)
      obtain ⟨g0, g1, _, _⟩ := hV j (by omega)
      match q, hq with
      | 0, hq => simp at hq; rw [← hq, ← g0]; exact h0
      | 1, hq => simp at hq; rw [← hq, ← g1]; exact h1
    · rw [List.length_map, List.length_range]
      exact Nat.le_trans (Nat.mul_le_mul_right _ (Nat.le_add_right _ _)) z
    · intro x hx
      obtain ⟨i, hi, rfl⟩ := List.mem_map.mp hx
      rw [List.mem_range] at hi
      obtain ⟨_, _, w0, w1⟩ := hV i (by omega)
      rw [hp0, hp1]
      exact ⟨w0, w1⟩
end Go.Proofs.Ytnppcpjkjepfeaa.Pairs
