-- Laid by a program of this session (wip/pp.py) over the seat's translation, with its own texts for some functions.
import Derived.Test.YtghfhcmjnpjgdaaS0
namespace Go.Proofs.Ytghfhcmjnpjgdaa.S
open Go.RowKit Go.Proofs.YtghfhcmjnpjgdaaW.PrintWords Go.Proofs.YtghfhcmjnpjgdaaW.PrintLast Go.Proofs.YtghfhcmjnpjgdaaW.PrintMore
attribute [local go_sem] max2_int min2_int max_two min_two max_three min_three max_four min_four   -- for this text's walks alone
set_option linter.unusedVariables false
set_option linter.unusedSimpArgs false

/-! ### strings_Repeat: function 29 -/
/-! strings.Repeat: the library's own proof, laid at this program's numbers. -/
open Go.Shelf in
shelf_lay Lays.n105 Nm 105 at Try as repLays
theorem repExtra : Go.Proofs.Builder.Extra Try.prog repLays_ren where
  sizeBuilder := by kernel_rfl
  liesBuilder := by kernel_rfl
  t5 := repLays.t5
  a5 := repLays.a5
  z5 := repLays.z5
  v5 := repLays.v5
  infoByte := by kernel_rfl
  cellsByte := by kernel_rfl
  sizeByte := by kernel_rfl
  neB5 := by decide
def strings_Repeat.f (l0 : ByteArray) (a1 : Int) : Option ByteArray :=
  if 0 ≤ a1 ∧ a1 ≤ 1048576 ∧ l0.size ≤ 1048576 then some ⟨(Lib.repeatL l0.data.toList a1.toNat).toArray⟩ else none
theorem strings_Repeat.calls (l0 : ByteArray) (a1 : Int) (r : ByteArray) (w : World) (h : strings_Repeat.f l0 a1 = some r) :
    Calls Try.prog 29 #[.string l0, .int .i64 a1] w fun e w' => e = .returned (.string r) ∧ Below w.heap.size w w' := by
  unfold strings_Repeat.f at h
  split at h
  · rename_i g
    obtain ⟨m, rfl⟩ := Int.eq_ofNat_of_zero_le g.1
    obtain rfl := Option.some.inj h
    have hm : l0.size * m ≤ 1048576 * 1048576 := Nat.mul_le_mul g.2.2 (by omega)
    exact Any.strings_Repeat repLays repExtra l0 m w (by omega) (by omega)
  · cases h

end Go.Proofs.Ytghfhcmjnpjgdaa.S
