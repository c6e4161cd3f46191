/- Rows of slices of strings: what a row's argument reads as, in the words of the print (kinds), and that it is no longer than its weight allows. -/
import Derived.Test.YtaocnjaeaiacmaaDoorWWords
import Derived.Test.YtaocnjaeaiacmaaDoorWSized
import Derived.Deep.Strs
import Derived.ChangeArms
import Derived.SizedLaws
import Derived.Below
namespace Go.Proofs.YtaocnjaeaiacmaaDoor.Strs
open Go.ChangeShapes Go.WideShapes Go.RowKit Go.Proofs.YtaocnjaeaiacmaaDoorW.PrintWords
theorem strs_open {H : Type} {enc : TypeId × Value → H} {P : Program} {W : World} {base : Nat} {held : Bool} {t e : TypeId} {a : Option Addr} {len cap : Nat} {d : DataW H} {ps : List MemPlace} {ts : List TypeId} {ds : List (DataW H)} {j : Nat}
    (hsz : (DataW.weightsEach P ts ds).all (· ≤ reachBytes) = true) (ht : ts[j]? = some t) (hd : ds[j]? = some d) (hu : P.underlying t = some (.slice e)) (he : P.underlying e = some .string)
    (ce : P.cellsOf e = 1) {B : Nat} (hB : P.bytesOf e = B)
    (h : DataW.Trod enc P W base (fun _ => true) held t (.slice a len cap) d ps) :
    ∃ zs : List ByteArray, len = zs.length ∧ Kd.string.C W a zs.length zs ∧ zs.length ≤ cap ∧ zs.length ≤ maxLen ∧ zs.length * B ≤ 140737488351232 ∧ ∀ x ∈ zs, x.size ≤ maxLen := by
  obtain ⟨fuel, hf⟩ := h
  rcases Go.Deep.open_strs hu he ce hf with ⟨hcs, _⟩ | ⟨x, l, c, m, Sx, hcs, _, hl, hm, hmm, hx, hall⟩
  · simp [Value.cells] at hcs
    obtain ⟨rfl, rfl, rfl⟩ := hcs
    exact ⟨[], rfl, ⟨rfl, by simp, fun h0 => absurd h0 (by simp)⟩, Nat.le_refl _, by simp, by simp, fun x hx => absurd hx (by simp)⟩
  · simp [Value.cells] at hcs
    obtain ⟨rfl, rfl, rfl⟩ := hcs
    rw [if_pos rfl] at hmm
    subst hmm
    obtain ⟨hx, _⟩ := Prod.mk.inj hx
    subst hx
    have z := sized_slice hsz ht hd hu
    rw [hB, List.length_map, List.length_range, List.length_map, List.length_range] at z
    refine ⟨(List.range len).map Sx, by simp, ⟨rfl, by rw [List.length_map, List.length_range]; unfold maxLen at hm; omega, fun _ => ⟨x, rfl, ?_⟩⟩, by simpa using hl, by rw [List.length_map, List.length_range]; omega, ?_, ?_⟩
    · intro j p hj
      rw [List.getElem?_map] at hj
      obtain ⟨i, hi, rfl⟩ := Option.map_eq_some_iff.mp hj
      obtain ⟨hi1, hi2⟩ := List.getElem?_eq_some_iff.mp hi
      rw [List.length_range] at hi1
      rw [List.getElem_range] at hi2
      subst hi2
      refine ⟨[.string (Sx j)], rfl, rfl, ?_⟩
      intro q u hq
      match q, hq with
      | 0, hq =>
        simp at hq
        subst hq
        show W.cell? (x.add (j * 1 + 0)) = _
        rw [Nat.mul_one, Nat.add_zero]
        exact (hall j (by omega)).1
    · rw [List.length_map, List.length_range]
      exact Nat.le_trans (Nat.mul_le_mul_right _ (Nat.le_add_right _ _)) z
    · intro x hx
      obtain ⟨i, hi, rfl⟩ := List.mem_map.mp hx
      rw [List.mem_range] at hi
      exact (hall i (by omega)).2
end Go.Proofs.YtaocnjaeaiacmaaDoor.Strs
