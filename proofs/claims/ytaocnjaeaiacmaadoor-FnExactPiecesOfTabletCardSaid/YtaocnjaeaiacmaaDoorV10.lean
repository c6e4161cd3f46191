-- Laid by a program of this session (wip/pp.py) over the seat's translation, with its own texts for some functions.
import Derived.Test.YtaocnjaeaiacmaaDoorV0
import Derived.Test.YtaocnjaeaiacmaaDoorV7
import Derived.Test.YtaocnjaeaiacmaaDoorV8
import Derived.Test.YtaocnjaeaiacmaaDoorV9
namespace Go.Proofs.YtaocnjaeaiacmaaDoor.V
open Go.RowKit Go.Proofs.YtaocnjaeaiacmaaDoorW.PrintWords Go.Proofs.YtaocnjaeaiacmaaDoorW.PrintLast Go.Proofs.YtaocnjaeaiacmaaDoorW.PrintMore
attribute [local go_sem] max2_int min2_int max_two min_two max_three min_three max_four min_four   -- for this text's walks alone
set_option linter.unusedVariables false
set_option linter.unusedSimpArgs false

/-! ### impl_pieces: function 47 -/
def pcSortLays_ren : Go.Shelf.Ren := ⟨fun | 5 => 65 | 8 => 81 | 7 => 80 | 19 => 104 | 20 => 105 | 10 => 95 | 11 => 96 | 12 => 97 | 13 => 98 | 14 => 99 | 15 => 100 | 16 => 101 | 17 => 102 | 18 => 103 | 30 => 116 | 31 => 117 | 32 => 118 | 33 => 119 | 34 => 120 | 35 => 121 | 40 => 127 | n => n, fun | 23 => 35 | 25 => 3 | 3 => 3 | 32 => 93 | 22 => 35 | 0 => 0 | 44 => 112 | 46 => 114 | 4 => 4 | 36 => 106 | 35 => 105 | 41 => 29 | 5 => 5 | 9 => 9 | 53 => 123 | 57 => 127 | 63 => 133 | 64 => 134 | n => n, fun | n => n⟩
theorem pcSortLays : Go.Proofs.SlLaysM.n5 Tryd.prog pcSortLays_ren := {
  mixed := by kernel_rfl
  f5 := ⟨Tryd.f65.name, by decide, Tryd.func65.trans (congrArg some (by kernel_rfl))⟩
  f7 := ⟨Tryd.f80.name, by decide, Tryd.func80.trans (congrArg some (by kernel_rfl))⟩
  f8 := Tryd.func81.trans (congrArg some (by kernel_rfl))
  f10 := ⟨Tryd.f95.name, by decide, Tryd.func95.trans (congrArg some (by kernel_rfl))⟩
  f11 := ⟨Tryd.f96.name, by decide, Tryd.func96.trans (congrArg some (by kernel_rfl))⟩
  f12 := ⟨Tryd.f97.name, by decide, Tryd.func97.trans (congrArg some (by kernel_rfl))⟩
  f13 := ⟨Tryd.f98.name, by decide, Tryd.func98.trans (congrArg some (by kernel_rfl))⟩
  f14 := ⟨Tryd.f99.name, by decide, Tryd.func99.trans (congrArg some (by kernel_rfl))⟩
  f15 := ⟨Tryd.f100.name, by decide, Tryd.func100.trans (congrArg some (by kernel_rfl))⟩
  f16 := ⟨Tryd.f101.name, by decide, Tryd.func101.trans (congrArg some (by kernel_rfl))⟩
  f17 := ⟨Tryd.f102.name, by decide, Tryd.func102.trans (congrArg some (by kernel_rfl))⟩
  f18 := ⟨Tryd.f103.name, by decide, Tryd.func103.trans (congrArg some (by kernel_rfl))⟩
  f19 := Tryd.func104.trans (congrArg some (by kernel_rfl))
  f20 := Tryd.func105.trans (congrArg some (by kernel_rfl))
  f30 := ⟨Tryd.f116.name, by decide, Tryd.func116.trans (congrArg some (by kernel_rfl))⟩
  f31 := Tryd.func117.trans (congrArg some (by kernel_rfl))
  f32 := Tryd.func118.trans (congrArg some (by kernel_rfl))
  f33 := ⟨Tryd.f119.name, by decide, Tryd.func119.trans (congrArg some (by kernel_rfl))⟩
  f34 := ⟨Tryd.f120.name, by decide, Tryd.func120.trans (congrArg some (by kernel_rfl))⟩
  f35 := ⟨Tryd.f121.name, by decide, Tryd.func121.trans (congrArg some (by kernel_rfl))⟩
  f40 := ⟨Tryd.f127.name, by decide, Tryd.func127.trans (congrArg some (by kernel_rfl))⟩
  t0 := Tryd.underlying0
  a0 := Tryd.isAgg0
  z0 := Tryd.sizeOf0
  v0 := Tryd.zeroValue0
  t3 := Tryd.underlying3
  a3 := Tryd.isAgg3
  z3 := Tryd.sizeOf3
  v3 := Tryd.zeroValue3
  t4 := Tryd.underlying4
  a4 := Tryd.isAgg4
  z4 := Tryd.sizeOf4
  v4 := Tryd.zeroValue4
  t5 := Tryd.underlying5
  a5 := Tryd.isAgg5
  z5 := Tryd.sizeOf5
  v5 := Tryd.zeroValue5
  t9 := Tryd.underlying9
  a9 := Tryd.isAgg9
  z9 := Tryd.sizeOf9
  v9 := Tryd.zeroValue9
  t22 := Tryd.underlying35
  a22 := Tryd.isAgg35
  z22 := Tryd.sizeOf35
  v22 := Tryd.zeroValue35
  t23 := Tryd.underlying35
  a23 := Tryd.isAgg35
  z23 := Tryd.sizeOf35
  v23 := Tryd.zeroValue35
  t25 := Tryd.underlying3
  a25 := Tryd.isAgg3
  z25 := Tryd.sizeOf3
  v25 := Tryd.zeroValue3
  t32 := Tryd.underlying93
  a32 := Tryd.isAgg93
  z32 := Tryd.sizeOf93
  v32 := Tryd.zeroValue93
  t35 := Tryd.underlying105
  a35 := Tryd.isAgg105
  z35 := Tryd.sizeOf105
  v35 := Tryd.zeroValue105
  t36 := Tryd.underlying106
  a36 := Tryd.isAgg106
  z36 := Tryd.sizeOf106
  v36 := Tryd.zeroValue106
  t41 := Tryd.underlying29
  a41 := Tryd.isAgg29
  z41 := Tryd.sizeOf29
  v41 := Tryd.zeroValue29
  t44 := Tryd.underlying112
  a44 := Tryd.isAgg112
  z44 := Tryd.sizeOf112
  v44 := Tryd.zeroValue112
  t46 := Tryd.underlying114
  a46 := Tryd.isAgg114
  z46 := Tryd.sizeOf114
  v46 := Tryd.zeroValue114
  t53 := Tryd.underlying123
  a53 := Tryd.isAgg123
  z53 := Tryd.sizeOf123
  v53 := Tryd.zeroValue123
  t57 := Tryd.underlying127
  a57 := Tryd.isAgg127
  z57 := Tryd.sizeOf127
  v57 := Tryd.zeroValue127
  t63 := Tryd.underlying133
  a63 := Tryd.isAgg133
  z63 := Tryd.sizeOf133
  v63 := Tryd.zeroValue133
  t64 := Tryd.underlying134
  a64 := Tryd.isAgg134
  z64 := Tryd.sizeOf134
  v64 := Tryd.zeroValue134 }
def pcRevLays_ren : Go.Shelf.Ren := ⟨fun | 35 => 66 | n => n, fun | 22 => 35 | 23 => 3 | 3 => 3 | 4 => 4 | 0 => 0 | n => n, fun | n => n⟩
theorem pcRevLays : Go.Proofs.SlLaysE.n35 Tryd.prog pcRevLays_ren := {
  mixed := by kernel_rfl
  f35 := ⟨Tryd.f66.name, by decide, Tryd.func66.trans (congrArg some (by kernel_rfl))⟩
  t0 := Tryd.underlying0
  a0 := Tryd.isAgg0
  z0 := Tryd.sizeOf0
  v0 := Tryd.zeroValue0
  t3 := Tryd.underlying3
  a3 := Tryd.isAgg3
  z3 := Tryd.sizeOf3
  v3 := Tryd.zeroValue3
  t4 := Tryd.underlying4
  a4 := Tryd.isAgg4
  z4 := Tryd.sizeOf4
  v4 := Tryd.zeroValue4
  t22 := Tryd.underlying35
  a22 := Tryd.isAgg35
  z22 := Tryd.sizeOf35
  v22 := Tryd.zeroValue35
  a23 := Tryd.isAgg3
  z23 := Tryd.sizeOf3 }
/-- slices.Sort over a row of the call's own. -/
theorem pcSort_calls (v : Value) (out : List Int) (base : Nat) (W : World) (ho : Kd.R (Kd.int .i64) 3 W base (fun _ => True) v out) (hl : out.length ≤ 1000000) :
    Calls Tryd.prog 65 #[v] W fun e w' => e = .returned (.tuple #[]) ∧ Kd.R (Kd.int .i64) 3 w' base (fun _ => True) v (out.mergeSort fun x y => decide (x ≤ y)) ∧ W.grownBy w' v.ownBlock := by
  by_cases h0 : out = []
  · subst h0
    obtain ⟨A, c, rfl⟩ := Kd.R_slice ho
    refine (AnyM.slices_Sort_int_none pcSortLays A c W).mono ?_
    rintro e w' ⟨rfl, rfl⟩
    exact ⟨rfl, by rw [List.mergeSort_nil]; exact ho, ⟨rfl, rfl, rfl, Nat.le_refl _, fun _ _ _ => rfl⟩⟩
  · have hp := List.length_pos_iff.2 h0
    have hown := Kd.own_of_R ho
    rcases hown.2 with ⟨e, hl0⟩ | ⟨g, cap, cur, rfl, hbase, hb, h1, h2, h3, h4⟩
    · omega
    · rw [Nat.mul_one] at h4
      refine (AnyM.slices_Sort_int pcSortLays g 0 cap out W (holds_of_blockI hb (by simpa [encs] using h4)) (Array.getElem?_eq_some_iff.1 hb).1 (by omega)).mono ?_
      rintro e w' ⟨rfl, n, os, rfl⟩
      refine ⟨rfl, Kd.R_of_own ?_ (fun _ _ => trivial), by simpa [Value.ownBlock] using grownBy_sortedI _⟩
      have := ownsRow_sortedI (n := n) (os := os) (ss := out) (ts := out.mergeSort fun x y => decide (x ≤ y)) (List.length_mergeSort _) hbase hb h1 h2 h3
      rw [List.length_mergeSort]
      simpa [encs] using this
/-- slices.Reverse over a row of the call's own. -/
theorem pcRev_calls (v : Value) (out : List Int) (base : Nat) (W : World) (ho : Kd.R (Kd.int .i64) 3 W base (fun _ => True) v out) (hl : out.length ≤ 1000000) :
    Calls Tryd.prog 66 #[v] W fun e w' => e = .returned (.tuple #[]) ∧ Kd.R (Kd.int .i64) 3 w' base (fun _ => True) v out.reverse ∧ W.grownBy w' v.ownBlock := by
  by_cases h0 : out = []
  · subst h0
    obtain ⟨A, c, rfl⟩ := Kd.R_slice ho
    refine (AnyE.slices_Reverse_empty pcRevLays A c W).mono ?_
    rintro e w' ⟨rfl, rfl⟩
    exact ⟨rfl, ho, ⟨rfl, rfl, rfl, Nat.le_refl _, fun _ _ _ => rfl⟩⟩
  · have hp := List.length_pos_iff.2 h0
    have hown := Kd.own_of_R ho
    rcases hown.2 with ⟨e, hl0⟩ | ⟨g, cap, cur, rfl, hbase, hb, h1, h2, h3, h4⟩
    · omega
    · rw [Nat.mul_one] at h4
      refine (AnyE.slices_Reverse pcRevLays (Value.int .i64) (fun _ => rfl) g 0 cap out W (holds_of_blockI hb (by simpa [encs] using h4)) (by omega)).mono ?_
      rintro e w' ⟨rfl, n, rfl⟩
      have hg : Sort.grow (Sort.putRow (Value.int .i64) (Sort.ahead W n) g 0 out.reverse.toArray) #[] = Sort.putRow (Value.int .i64) (Sort.ahead W n) g 0 out.reverse.toArray := by
        unfold Sort.grow
        rw [Array.append_empty]
      refine ⟨rfl, Kd.R_of_own ?_ (fun _ _ => trivial), ?_⟩
      · have := ownsRow_sortedI (n := n) (os := #[]) (ss := out) (ts := out.reverse) (List.length_reverse) hbase hb h1 h2 h3
        rw [hg] at this
        rw [List.length_reverse]
        simpa [encs] using this
      · have := grownBy_sortedI (w := W) (g := g) (n := n) (os := #[]) out.reverse.toArray
        rw [hg] at this
        simpa [Value.ownBlock] using this
theorem pc_add (g i : Nat) : (⟨g, 0, none⟩ : Addr).add i = ⟨g, i, none⟩ := by
  unfold Addr.add
  split
  · rename_i h; rw [h]
  · simp
/-- append(p[:len(p):len(p)], row): always a new row. -/
theorem piece_append (W : World) (g : Nat) (xs : List (List Int)) (hn : 0 < xs.length) (hm : xs.length ≤ 1000000) (hC : Kd.C (Kd.slice 3 (Kd.int .i64)) W (some ⟨g, 0, none⟩) xs.length xs) (a : Nat) (A1 : Option Addr) (c1 : Nat) (p : List Int) (hcell : W.cell? ⟨a, 0, none⟩ = some (.slice A1 p.length c1)) (hp : p.length ≤ c1) (hpC : Kd.C (Kd.int .i64) W A1 p.length p) :
    ∃ (c' : Nat) (w' : World), (Builtin.append_ #[51, 51] 51 #[.slice (some ⟨g, 0, none⟩) xs.length xs.length, .slice (some ⟨a, 0, none⟩) 1 1]).run Tryd.prog W = .ok (.slice (some ⟨W.heap.size, 0, none⟩) (xs ++ [p]).length c') w' ∧
      Below W.heap.size W w' ∧ (xs ++ [p]).length ≤ c' ∧ Kd.C (Kd.slice 3 (Kd.int .i64)) w' (some ⟨W.heap.size, 0, none⟩) (xs ++ [p]).length (xs ++ [p]) := by
  obtain ⟨i0, hi, hz0, hz1, hz2⟩ := info_parts info35
  obtain ⟨olds, hr, hcs⟩ := ReadsRow.inner_ hC
  have hlo : olds.length = xs.length := by have := hr.1; rw [show (Kd.slice 3 (Kd.int .i64)).sz = 1 from rfl, Nat.mul_one] at this; exact this
  have hle := grownCap_ge W (xs.length + 1) xs.length 35
  have hrun := run_append_grow (P := Tryd.prog) W 51 51 35 i0 (.slice none 0 0) Tryd.underlying51 hi hz0 ⟨g, 0, none⟩ xs.length xs.length olds (by rw [hz1, Nat.mul_one]; exact hlo) hcs ⟨a, 0, none⟩ 1 1 [.slice A1 p.length c1] (by rw [hz1]; rfl)
    (fun j u hj => by
      match j, hj with
      | 0, hj => obtain rfl := Option.some.inj hj; exact hcell)
    (by omega) (by omega) (by rw [hz2]; exact growslice_fits_succ (by omega) (by omega))
  obtain ⟨cells, hcells⟩ : ∃ c, c = olds.toArray ++ [Value.slice A1 p.length c1].toArray ++ Builtin.zeroCells (Value.slice none 0 0).cells (grownCap W (xs.length + 1) xs.length 35 - (xs.length + 1)) := ⟨_, rfl⟩
  rw [← hcells] at hrun
  have hB : Below W.heap.size W (W.drew.alloc (.cells cells 35)) := (below_drew1 (Below.refl _ W)).alloc (Nat.le_refl _) _
  have hnew := heap_alloc_new W.drew (.cells cells 35)
  refine ⟨_, _, by rw [List.length_append, List.length_singleton]; exact hrun, hB, by rw [List.length_append, List.length_singleton]; exact hle, ?_⟩
  refine ⟨rfl, by rw [List.length_append, List.length_singleton]; omega, fun _ => ⟨_, rfl, fun j q hj => ?_⟩⟩
  have hcj : ∀ (i : Nat) u, (olds ++ [Value.slice A1 p.length c1])[i]? = some u → (W.drew.alloc (.cells cells 35)).cell? ((⟨W.heap.size, 0, none⟩ : Addr).add i) = some u := by
    intro i u hu
    have e1 : cells[i]? = some u := by
      rw [hcells, ← Array.getElem?_toList, Array.toList_append, Array.toList_append]
      rw [List.getElem?_append_left (by have := (List.getElem?_eq_some_iff.1 hu).1; simpa using this)]
      simpa using hu
    have e2 : (⟨W.heap.size, 0, none⟩ : Addr).add i = ⟨W.heap.size, i, none⟩ := pc_add _ _
    rw [e2]
    have hnew' : (W.drew.alloc (.cells cells 35)).heap[W.heap.size]? = some (.cells cells 35 (0, 0)) := hnew
    unfold World.cell?
    dsimp only
    rw [hnew']
    exact e1
  rcases Nat.lt_or_ge j xs.length with hjl | hjl
  · rw [List.getElem?_append_left hjl] at hj
    have hk := hr.2 j q hj
    rw [show (Kd.slice 3 (Kd.int .i64)).sz = 1 from rfl, Nat.mul_one] at hk
    have h1 : (olds.drop j).take 1 = [olds[j]] := by
      rw [List.drop_eq_getElem_cons (by omega)]; rfl
    rw [h1] at hk
    refine ⟨[olds[j]], rfl, (Kd.slice 3 (Kd.int .i64)).K_below hB hk, fun i u hu => ?_⟩
    match i, hu with
    | 0, hu =>
      obtain rfl := Option.some.inj hu
      rw [Nat.add_zero]
      show _ = _
      rw [show j * (Kd.slice 3 (Kd.int .i64)).sz = j from Nat.mul_one j]
      exact hcj j _ (by rw [List.getElem?_append_left (by omega), List.getElem?_eq_getElem])
  · have hje : j = xs.length := by
      have := (List.getElem?_eq_some_iff.1 hj).1
      rw [List.length_append, List.length_singleton] at this
      omega
    subst hje
    rw [List.getElem?_append_right (Nat.le_refl _), Nat.sub_self] at hj
    obtain rfl := Option.some.inj hj
    refine ⟨[.slice A1 p.length c1], rfl, ⟨A1, c1, rfl, hp, Kd.C_below hpC hB⟩, fun i u hu => ?_⟩
    match i, hu with
    | 0, hu =>
      obtain rfl := Option.some.inj hu
      rw [Nat.add_zero]
      show _ = _
      rw [show xs.length * (Kd.slice 3 (Kd.int .i64)).sz = xs.length from Nat.mul_one _]
      exact hcj xs.length _ (by rw [List.getElem?_append_right (by omega), hlo, Nat.sub_self]; rfl)
/-- The places beside one, one behind another. -/
def bsP (x y : Int) : List Int := [x, wrap64 (y - 1), wrap64 (x + 1), y, x, wrap64 (y + 1), wrap64 (x - 1), y]
theorem besideP_calls (x y : Int) (w : World) :
    Calls Tryd.prog 67 #[.int .i64 x, .int .i64 y] w fun e w' => e = .returned (.slice (some ⟨w.heap.size, 0, none⟩) 4 4) ∧ w' = w.alloc (.cells ((bsP x y).map (Value.int .i64)).toArray 64) := by
  go_enter Tryd.func67, Tryd.ntmps67
  go_wp2
  go_ret
  exact ⟨rfl, rfl⟩
theorem besideP_cells (x y : Int) (w : World) (k : Nat) (hk : k < 8) : (w.alloc (.cells ((bsP x y).map (Value.int .i64)).toArray 64)).cell? ⟨w.heap.size, k, none⟩ = some (.int .i64 ((bsP x y).getD k 0)) := by
  match k, hk with
  | 0, _ => simp [bsP]
  | 1, _ => simp [bsP]
  | 2, _ => simp [bsP]
  | 3, _ => simp [bsP]
  | 4, _ => simp [bsP]
  | 5, _ => simp [bsP]
  | 6, _ => simp [bsP]
  | 7, _ => simp [bsP]
abbrev PcI := List ByteArray × List (List Int)
/-- A place beside is looked at. -/
def pcOne (s : PcI) (x y : Int) : Option PcI :=
  if s.2.length ≤ 200000 ∧ 0 < s.2.length then (impl_has.f s.1 x y).bind fun b => if b = true then (impl_put.f s.1 x y 46).bind fun r => some (r, s.2 ++ [[x, y]]) else some s else none
def pcSide (L : List Int) : Nat → Nat → PcI → Option PcI
  | 0, _, s => some s
  | d + 1, j, s => (pcOne s (L.getD (j * 2) 0) (L.getD (j * 2 + 1) 0)).bind fun s' => pcSide L d (j + 1) s'
/-- A piece grows. -/
def pcGrow : Nat → Nat → PcI → Option PcI
  | 0, _, _ => none
  | k + 1, i, s => if i < s.2.length then (if 1 < (s.2.getD i []).length ∧ s.2.length ≤ 100000 then (pcSide (bsP (rd (s.2.getD i []) 0) (rd (s.2.getD i []) 1)) 4 0 s).bind fun s' => pcGrow k (i + 1) s' else none) else some s
def dscI (l : List Int) : List Int := (l.mergeSort fun x y => decide (x ≤ y)).reverse
def pcOut : Nat → List ByteArray → List Int → Option (List Int)
  | 0, _, _ => none
  | k + 1, rows, out => (impl_spots.f (fun _ _ => some true) k rows 0).bind fun L =>
    match L with
    | [] => if out.length ≤ 100000 then some (dscI out) else none
    | p :: t => if t.length ≤ 100000 ∧ out.length ≤ 100000 then (impl_without.f k rows [p]).bind fun r => (pcGrow k 0 (r, [p])).bind fun s => if s.2.length ≤ 1000000 then pcOut k s.1 (out ++ [(s.2.length : Int)]) else none else none
def impl_pieces.f (k : Nat) (l0 : List ByteArray) : Option (List Int) := pcOut k l0 []
theorem pcGrow_mono : ∀ k i s, LeO (pcGrow k i s) (pcGrow (k + 1) i s) := by
  intro k
  induction k with
  | zero => intro i s; exact LeO.none _
  | succ k ih =>
    intro i s
    unfold pcGrow
    exact LeO.ite (LeO.ite (LeO.bind (LeO.refl _) (fun s' => ih _ _)) (LeO.none _)) (LeO.refl _)
theorem pcOut_mono : ∀ k rows out, LeO (pcOut k rows out) (pcOut (k + 1) rows out) := by
  intro k
  induction k with
  | zero => intro rows out; exact LeO.none _
  | succ k ih =>
    intro rows out
    unfold pcOut
    refine LeO.bind (impl_spots.mono _ _ _ _) (fun L => ?_)
    cases L with
    | nil => exact LeO.refl _
    | cons p t => exact LeO.ite (LeO.bind (impl_without.mono _ _ _) (fun r => LeO.bind (pcGrow_mono _ _ _) (fun s => LeO.ite (ih _ _) (LeO.none _)))) (LeO.none _)
theorem impl_pieces.mono : ∀ a0 k, LeO (impl_pieces.f k a0) (impl_pieces.f (k + 1) a0) := fun a0 k => pcOut_mono k a0 []
def piecesR.T12 : Bool × List (List Nat × List Nat) := (true, [([], []), ([], []), ([0, 1], [0, 1]), ([2], [2]), ([3], [3]), ([4], [4]), ([], []), ([], []), ([6, 7], [6, 7]), ([8], [8]), ([9], [9]), ([10], [10]), ([5, 11], [5, 11]), ([12], [12]), ([], [])])
def piecesR.B12 : List Nat := [0, 0, 3, 7, 15, 31, 0, 0, 192, 448, 960, 1984, 4095, 8191, 0]
theorem piecesR.tab12 : rtab .any (opsOf Tryd.f47 12) = piecesR.T12 := by kernel_rfl
theorem piecesR.bits12 : waitsOk piecesR.T12.2 piecesR.B12 = true := by kernel_rfl
def piecesR.T16 : Bool × List (List Nat × List Nat) := (true, [([], []), ([], []), ([1], [1]), ([], []), ([3], [3]), ([0, 2, 4], [0, 2, 4]), ([], []), ([6], [6]), ([], []), ([8], [8]), ([7, 9], [7, 9]), ([10], [10]), ([5, 11], [5, 11]), ([12, 12, 0, 1, 2, 3, 4, 5, 6, 7, 8, 9, 10, 11, 12], [0, 1, 3, 12])])
def piecesR.B16 : List Nat := [0, 0, 2, 0, 8, 31, 0, 64, 0, 256, 960, 1984, 4095, 8191]
theorem piecesR.tab16 : rtab .any (opsOf Tryd.f47 16) = piecesR.T16 := by kernel_rfl
theorem piecesR.bits16 : waitsOk piecesR.T16.2 piecesR.B16 = true := by kernel_rfl
theorem pc_get {w : World} {A : Option Addr} {n : Nat} {xs : List (List Int)} (h : Kd.C (Kd.slice 3 (Kd.int .i64)) w A n xs) (i : Nat) (hi : i < xs.length) (h1 : (i : Int) < n) : ∃ ad A0 c0, A = some ad ∧ w.cell? (ad.add i) = some (.slice A0 (xs.getD i []).length c0) ∧ (xs.getD i []).length ≤ c0 ∧ (Kd.int .i64).C w A0 (xs.getD i []).length (xs.getD i []) := by
  obtain ⟨ad, c, e, _, hK, hc0⟩ := Kd.C_get h ([] : List Int) (i : Int) (by omega) h1
  have hc : ∀ j u, c[j]? = some u → w.cell? (ad.add (i * 1 + j)) = some u := hc0
  have e2 : xs.getD (i : Int).toNat [] = xs.getD i [] := rfl
  rw [e2] at hK
  obtain ⟨A0, c0, rfl, l0, g0⟩ := hK
  exact ⟨ad, A0, c0, e, by have hq := hc 0 _ rfl; rwa [Nat.mul_one, Nat.add_zero] at hq, l0, g0⟩
set_option maxHeartbeats 1000000 in
theorem pc_all (x y : Int) (W : World) : Calls Tryd.prog 64 #[.int .i64 x, .int .i64 y] W fun e w' => e = .returned (.bool true) ∧ W = w' := by
  go_enter Tryd.func64, Tryd.ntmps64
  go_wp2
  go_ret
  exact ⟨rfl, rfl⟩
/-- What is read while a piece grows: the tablet (a row of the call's own), the piece, the numbers found so far. -/
structure PcW (w : World) (rows : List ByteArray) (piece : List (List Int)) (out : List Int) (v0 v5 v3 : Value) (W : World) : Prop where
  below : Below w.heap.size w W
  rows : Kd.R Kd.string 9 W w.heap.size (fun _ => True) v0 rows
  piece : ∃ g c, v5 = .slice (some ⟨g, 0, none⟩) piece.length c ∧ piece.length ≤ c ∧ Kd.C (Kd.slice 3 (Kd.int .i64)) W (some ⟨g, 0, none⟩) piece.length piece
  out : Kd.R (Kd.int .i64) 3 W w.heap.size (fun _ => True) v3 out
theorem PcW.step {w W W2 : World} {rows : List ByteArray} {piece : List (List Int)} {out : List Int} {v0 v5 v3 : Value} (h : PcW w rows piece out v0 v5 v3 W) (hB : Below W.heap.size W W2) : PcW w rows piece out v0 v5 v3 W2 := by
  obtain ⟨g, c, h1, h2, h3⟩ := h.piece
  exact ⟨h.below.trans (hB.mono h.below.size), Kd.R_below h.rows hB, ⟨g, c, h1, h2, Kd.C_below h3 hB⟩, Kd.R_below h.out hB⟩
theorem pc_cut1 (g n cap : Nat) (h : 1 ≤ cap) (W : World) : (Instr.slice 51 (.slice (some ⟨g, 0, none⟩) n cap) none (some (.int .i64 1)) none).run Tryd.prog W = .ok (.slice (some ⟨g, 0, none⟩) 1 cap) W := by
  obtain ⟨i0, hi, hz0, hz1, hz2⟩ := info_parts info35
  have hel : Tryd.prog.elem 51 = 35 := by simp [Program.elem, Tryd.underlying51]
  have hu : Tryd.prog.underlying 51 = some (.slice (Tryd.prog.elem 51)) := by rw [hel]; exact Tryd.underlying51
  rw [run_slice_h W 51 _ n cap hu .i64 1 (by omega) (by omega), hel]
  simp [sizeOf, typeInfo, hi, hz1, sliced, Result.andThen, Addr.add]
theorem pc_cut3 (g n cap : Nat) (h : n ≤ cap) (W : World) : (Instr.slice 51 (.slice (some ⟨g, 0, none⟩) n cap) none (some (.int .i64 (n : Int))) (some (.int .i64 (n : Int)))).run Tryd.prog W = .ok (.slice (some ⟨g, 0, none⟩) n n) W := by
  obtain ⟨i0, hi, hz0, hz1, hz2⟩ := info_parts info35
  have hel : Tryd.prog.elem 51 = 35 := by simp [Program.elem, Tryd.underlying51]
  have hu : Tryd.prog.underlying 51 = some (.slice (Tryd.prog.elem 51)) := by rw [hel]; exact Tryd.underlying51
  rw [run_slice_hm W 51 _ n cap hu .i64 .i64 (n : Int) (n : Int) (by omega) (by omega) (by omega), hel]
  simp [sizeOf, typeInfo, hi, hz1, sliced, Result.andThen, Addr.add]
/-- An append in a region that draws: what it yields. -/
theorem pc_append_val {P : Program} {oi : Oper} {a : Act} {W w1 : World} {s x : Operand} {t : TypeId} {v vx v1 : Value} (ho : oi.op = .call { callee := .builtin .append, args := #[s, x], argTypes := #[t, t] }) (hs : a.eval s = v) (hx : a.eval x = vx)
    (hr : (Builtin.append_ #[t, t] oi.type #[v, vx]).run P W = .ok v1 w1) : (execOp a.eval oi).run P W = .ok (.value v1) w1 := by
  unfold execOp
  simp only [ho, resolve, invoke, builtin, Sem.run_bind, Sem.run_pure, Result.andThen_ok, List.map_toArray, List.map_cons, List.map_nil, hs, hx, hr]
theorem pc_made (W : World) (X Y : Int) : Below W.heap.size W (W.alloc (.cells #[.int .i64 X, .int .i64 Y] 3)) ∧ Kd.C (Kd.int .i64) (W.alloc (.cells #[.int .i64 X, .int .i64 Y] 3)) (some ⟨W.heap.size, 0, none⟩) [X, Y].length [X, Y] := by
  refine ⟨(Below.refl _ _).alloc (Nat.le_refl _) _, rfl, by simp, fun _ => ⟨_, rfl, fun j p hj => ?_⟩⟩
  match j, hj with
  | 0, hj =>
    obtain rfl := Option.some.inj hj
    refine ⟨[.int .i64 X], rfl, rfl, fun i u hu => ?_⟩
    match i, hu with
    | 0, hu => obtain rfl := Option.some.inj hu; rw [show (0 * (Kd.int .i64).sz + 0) = 0 from rfl, pc_add]; simp
  | 1, hj =>
    obtain rfl := Option.some.inj hj
    refine ⟨[.int .i64 Y], rfl, rfl, fun i u hu => ?_⟩
    match i, hu with
    | 0, hu => obtain rfl := Option.some.inj hu; rw [show (1 * (Kd.int .i64).sz + 0) = 1 from rfl, pc_add]; simp
theorem pc_box (W : World) (v : Value) : Below W.heap.size W (W.alloc (.cells #[v] 35)) ∧ (W.alloc (.cells #[v] 35)).cell? ⟨W.heap.size, 0, none⟩ = some v := ⟨(Below.refl _ _).alloc (Nat.le_refl _) _, by simp⟩
theorem pc_cell {W W2 : World} (h : Below W.heap.size W W2) {a : Addr} {v : Value} (hc : W.cell? a = some v) : W2.cell? a = some v := (h.cell (World.block_lt_of_cell? W _ hc)).trans hc
set_option maxHeartbeats 8000000 in
set_option maxRecDepth 100000 in
theorem impl_pieces.calls (k : Nat) (A0 : Option Addr) (c0 : Nat) (l0 : List ByteArray) (r : List Int) (w : World) (hr0 : Kd.C Kd.string w A0 l0.length l0) (hc0 : l0.length ≤ c0) (h : impl_pieces.f k l0 = some r) :
    Calls Tryd.prog 47 #[.slice A0 l0.length c0] w fun e w' => ∃ v0_ : Value, e = .returned (v0_) ∧ Kd.R (Kd.int .i64) 3 w' w.heap.size (fun _ => True) v0_ r ∧ Below w.heap.size w w' := by
  have HR0 := Aside0.mk hr0
  have HC0 := Aside0.mk hc0
  have HF := Aside0.mk (show pcOut k l0 [] = some r from h)
  clear hr0 hc0 h
  go_enter Tryd.func47, Tryd.ntmps47
  go_wp2_with ((with_reducible refine gate_dst (N := 9) rfl ?_); refine Kd.R_lit (Kd.int .i64) _ 3 ?hg (N := 9) ?hd (xs := ([] : List Int)) (inner := []) (ok := fun _ => True) (okp := fun _ => True) ?hr ?hp (fun _ hk => hk) trivial (Below.refl _ _) (Nat.le_refl _) (by simp) ?_; (case hd => rfl); (case hg => rfl); (case hr => first | (go_simp; done) | (go_simp; rfl)); (case hp => exact (Reps.none _ _)); intro v9 w1 ho hb hg_ hnew_; clear hg_ hnew_; have HO := Aside0.mk ho; have HB1 := Aside0.mk hb; clear ho hb)
  go_loopg [0, 3] k (fun gg s0 s3 wr => ∃ (kq : Nat) (rows : List ByteArray) (A : Option Addr) (c : Nat) (out : List Int), kq ≤ gg ∧ s0 = .slice A rows.length c ∧ Aside0 (rows.length ≤ c) ∧ Aside0 (Kd.C Kd.string wr A rows.length rows) ∧ Aside0 (Kd.R (Kd.int .i64) 3 wr w.heap.size (fun _ => True) s3 out) ∧ Aside0 (Below w.heap.size w wr) ∧ Aside0 (pcOut kq rows out = some r))
  case atStart => exact ⟨k, l0, A0, c0, [], Nat.le_refl _, rfl, HC0, ⟨Kd.C_below HR0.out HB1.out⟩, HO, HB1, HF⟩
  case round =>
    clear HR0 HC0 HF HO HB1
    obtain ⟨kq, rows, A, c, out, hkq, rfl, HC, HR, HO, HB, HF⟩ := hrel
    cases kq with
    | zero => exact absurd HF.out (by simp [pcOut])
    | succ kq =>
      have h := HF.out
      unfold pcOut at h
      obtain ⟨L, hL, h⟩ := Option.bind_eq_some_iff.mp h
      have HSP := Aside0.mk (impl_spots.calls (fun _ _ => some true) 64 #[] (enters_of Tryd.func64 (by kernel_rfl) rfl) kq A c rows 0 L wr (fun W2 x y b _ hb => by
        obtain rfl := Option.some.inj hb
        refine (pc_all x y W2).mono ?_
        rintro e w' ⟨rfl, rfl⟩
        exact ⟨rfl, Below.refl _ _⟩) HR.out HC.out hL)
      clear hL HF
      cases L with
      | nil =>
        dsimp only at h
        split at h
        case isFalse => cases h
        case isTrue hl =>
        have HRES := Aside0.mk (show dscI out = r from Option.some.inj h)
        have HL := Aside0.mk hl
        clear h hl
        go_wp2_with (first
          | (go_at_call 42; (with_reducible refine HSP.out.mono ?_); rintro e w2 ⟨v4, rfl, ho, hb⟩; have HB2 := Aside0.mk (HB.out.trans (hb.mono HB.out.size)); obtain ⟨A4, c4, e4⟩ := Kd.S_slice ho; subst e4; have HO2 := Aside0.mk (Kd.R_below HO.out hb); clear ho hb)
          | (go_at_call 65; (with_reducible refine (pcSort_calls _ out _ _ HO2.out (by have := HL.out; omega)).mono ?_); rintro e w3 ⟨rfl, ho, hg⟩; have HB3 := Aside0.mk (HB2.out.grown hg HB2.out.size (Kd.R_base HO2.out)); have HO3 := Aside0.mk ho; clear ho hg)
          | (go_at_call 66; (with_reducible refine (pcRev_calls _ _ _ _ HO3.out (by rw [List.length_mergeSort]; have := HL.out; omega)).mono ?_); rintro e w4 ⟨rfl, ho, hg⟩; have HB4 := Aside0.mk (HB3.out.grown hg HB3.out.size (Kd.R_base HO3.out)); have HO4 := Aside0.mk ho; clear ho hg))
        go_ret
        have ho := HO4.out
        rw [show (out.mergeSort fun x y => decide (x ≤ y)).reverse = r from HRES.out] at ho
        exact ⟨_, rfl, ho, HB4.out⟩
      | cons p t =>
        dsimp only at h
        split at h
        case isFalse => cases h
        case isTrue gd =>
        obtain ⟨rw1, hw1, h⟩ := Option.bind_eq_some_iff.mp h
        obtain ⟨S, hS, h⟩ := Option.bind_eq_some_iff.mp h
        split at h
        case isFalse => cases h
        case isTrue gs =>
        have HNX := Aside0.mk h
        have HGR := Aside0.mk hS
        have HGD := Aside0.mk (show out.length ≤ 100000 ∧ S.2.length ≤ 1000000 from ⟨gd.2, gs⟩)
        have HWO := Aside0.mk (fun (g ch : Nat) (W : World) (hB : Below wr.heap.size wr W) (hch : 1 ≤ ch) (hC : Kd.C (Kd.slice 3 (Kd.int .i64)) W (some ⟨g, 0, none⟩) 1 [p]) => (show Calls Tryd.prog 49 #[.slice A rows.length c, .slice (some ⟨g, 0, none⟩) 1 ch] W _ from impl_without.calls kq A c rows (some ⟨g, 0, none⟩) ch [p] rw1 W (Kd.C_below HR.out hB) HC.out hC hch hw1))
        clear h hS hw1 gd gs
        go_wp2_with (first
          | (go_at_call 42; (with_reducible refine HSP.out.mono ?_); rintro e w2 ⟨v4, rfl, ho, hb⟩; obtain ⟨g, ch, ev, -, -, -⟩ := Kd.S_form ho (by simp); subst ev; have HB2 := Aside0.mk hb; have HO2 := Aside0.mk (Kd.R_below HO.out hb); have hc4 := (Kd.S_reads' ho).2.1; have HC4 := Aside0.mk (show Kd.C (Kd.slice 3 (Kd.int .i64)) w2 (some ⟨g, 0, none⟩) 1 [p] from Kd.C_take (m := 1) (Kd.S_reads' ho).2.2 (by simp)); generalize hn : (p :: t).length = n at hc4 ⊢; have hn1 : 1 ≤ n := (by rw [← hn]; simp); have hz : ((n : Int) == 0) = false := (beq_eq_false_iff_ne.mpr (by omega)); have hch1 : 1 ≤ ch := (by omega); have hcut := pc_cut1 g n ch hch1; clear ho hb hn hn1 hc4)
          | (go_at_call 49; (with_reducible refine (HWO.out g ch w2 HB2.out hch1 HC4.out).mono ?_); rintro e w3 ⟨v0, rfl, ho, hb⟩; obtain ⟨A3, c3, e3⟩ := Kd.R_slice ho; subst e3; have hw3 := HB.out.trans ((HB2.out.trans (hb.mono HB2.out.size)).mono HB.out.size); have HW := Aside0.mk (show PcW w rw1 [p] out (.slice A3 rw1.length c3) (.slice (some ⟨g, 0, none⟩) 1 ch) u3 w3 from ⟨hw3, Kd.R_lower ho (Nat.le_trans HB.out.size HB2.out.size), ⟨g, ch, rfl, hch1, Kd.C_below HC4.out hb⟩, Kd.R_below HO2.out hb⟩); clear ho hb hw3))
        clear HC HR HO HB HSP HWO HB2 HO2 HC4 hcut hz
        go_loopg [0, 5, 6] kq (fun gg s0 s5 s6 wm => ∃ (kg i : Nat) (rows : List ByteArray) (piece : List (List Int)) (A : Option Addr) (c g cp : Nat), kg ≤ gg ∧ s6 = .int .i64 (i : Int) ∧ s0 = .slice A rows.length c ∧ s5 = .slice (some ⟨g, 0, none⟩) piece.length cp ∧ Aside0 (PcW w rows piece out s0 s5 u3 wm) ∧ Aside0 (pcGrow kg i (rows, piece) = some S))
        case atStart => exact ⟨kq, 0, rw1, [p], A3, c3, g, ch, Nat.le_refl _, rfl, rfl, rfl, HW, HGR⟩
        case round =>
          clear HW HGR
          obtain ⟨kg, i, rows2, piece, A2, c2, g2, cp2, hkg, rfl, rfl, rfl, HW, HG⟩ := hrel
          cases kg with
          | zero => exact absurd HG.out (by simp [pcGrow])
          | succ kg =>
            have h := HG.out
            unfold pcGrow at h
            dsimp only at h
            clear HG
            by_cases hlt : i < piece.length
            · rw [if_pos hlt] at h
              split at h
              case isFalse => cases h
              case isTrue gd =>
              obtain ⟨s', hs', h⟩ := Option.bind_eq_some_iff.mp h
              have HNG := Aside0.mk h
              have HLT := Aside0.mk (show i < piece.length ∧ piece.length ≤ 100000 from ⟨hlt, gd.2⟩)
              have q1 : (i : Int) < (piece.length : Int) := by omega
              have p1 : 0 ≤ (i : Int) := by omega
              obtain ⟨g', cp', e5, hcp, hC⟩ := HW.out.piece
              cases e5
              obtain ⟨ad0, Ai, ci, ea, hcell, hci, hCi⟩ := pc_get hC i hlt q1
              cases ea
              rw [pc_add] at hcell
              have hq1 := gd.1
              obtain ⟨q, hq⟩ : ∃ q, q = piece.getD i [] := ⟨_, rfl⟩
              rw [← hq] at hcell hci hCi hq1 hs'
              clear hq hC hlt gd hcp h
              obtain ⟨ad, e0, hx0⟩ := Kd.at_int hCi 0 (by omega) (by omega)
              obtain ⟨ad', e1, hx1⟩ := Kd.at_int hCi 1 (by omega) (by omega)
              subst e0
              obtain rfl := Option.some.inj e1
              rw [show (0 : Int).toNat = 0 from rfl, Addr.add_zero'] at hx0
              (try simp only [show (1 : Int).toNat = 1 from rfl, Nat.reduceMul, Nat.reduceEqDiff, Go.Addr.add, ↓reduceIte] at hx1)
              obtain ⟨px, hpx⟩ : ∃ u, u = rd q 0 := ⟨_, rfl⟩
              obtain ⟨py, hpy⟩ : ∃ v, v = rd q 1 := ⟨_, rfl⟩
              rw [← hpx] at hx0 hs'
              rw [← hpy] at hx1 hs'
              have HS := Aside0.mk hs'
              have q0 : (0 < q.length) = True := eq_true (by omega)
              have q2 : (1 < q.length) = True := eq_true hq1
              have q2i : ((1 : Int) < (q.length : Int)) = True := eq_true (by omega)
              have HW1 := Aside0.mk (show wrap64 ((i : Int) + 1) = ((i + 1 : Nat) : Int) by have := HLT.out; unfold wrap64; omega)
              replace p1 := eq_true p1
              replace q1 := eq_true q1
              clear hci hCi hq1 hs' hpx hpy e1
              go_wp2
              refine start_ (n := 15) (S := fun w' => w'.cell? ⟨g2, i, none⟩ = some (.slice (some ad) q.length ci) ∧ w'.cell? ad = some (.int .i64 px) ∧ w'.cell? ⟨ad.block, ad.off + 1, none⟩ = some (.int .i64 py)) (ds := []) #[false, false, false, false, false, false, false, false, false, false, false, false, false, false, false] (by kernel_rfl) rfl rfl ⟨hcell, hx0, hx1⟩ (fun hHeld => ?_); refine with_tabW piecesR.tab12 piecesR.bits12 (fun HT_ HW_ => ?_)
              have HD := Aside0.mk (below_drew1 (Below.refl wr.heap.size wr))
              clear hcell hx0 hx1
              generalize wr.drew = w4 at HD hHeld ⊢
              refine pure_ (i := 0) (N := some 31) (v := ?_) (a' := ?_) #[true, false, false, false, false, false, false, false, false, false, false, false, false, false, false] rfl rfl (any_of HT_.out (by kernel_rfl)) (fun _ _ _ h => h) (Or.inl ⟨by rfl, ?_⟩) ?_ ?_
              rotate_left
              · intro w'
                go_simp
                with_reducible rfl
              rotate_left
              · simp only [Act.put, List.setIfInBounds_toArray, List.set_cons_zero, List.set_cons_succ, i64_w, i32_w]
                rfl
              refine pure_ (i := 1) (N := some 32) (v := ?_) (a' := ?_) #[true, true, false, false, false, false, false, false, false, false, false, false, false, false, false] rfl rfl (any_of HT_.out (by kernel_rfl)) (fun _ _ _ h => h) (Or.inl ⟨by rfl, ?_⟩) ?_ ?_
              rotate_left
              · intro w'
                go_simp
                with_reducible rfl
              rotate_left
              · simp only [Act.put, List.setIfInBounds_toArray, List.set_cons_zero, List.set_cons_succ, i64_w, i32_w]
                rfl
              refine pure_ (i := 2) (N := some 33) (v := ?_) (a' := ?_) #[true, true, true, false, false, false, false, false, false, false, false, false, false, false, false] rfl rfl (any_of HT_.out (by kernel_rfl)) (fun _ _ _ h => h) (Or.inl ⟨by rfl, ?_⟩) ?_ ?_
              rotate_left
              · intro w'
                go_simp
                with_reducible rfl
              rotate_left
              · simp only [Act.put, List.setIfInBounds_toArray, List.set_cons_zero, List.set_cons_succ, i64_w, i32_w]
                rfl
              refine take_ (i := 3) (N := some 34) (v := ?_) (a' := ?_) #[true, true, true, true, false, false, false, false, false, false, false, false, false, false, false] rfl rfl (take_ofW HT_.out HW_.out (by kernel_rfl)) (fun _ _ _ h => h) (Or.inl ⟨by rfl, ?_⟩) hHeld ?_ ?_
              rotate_left
              · rintro w' ⟨s0_, s1_, s2_⟩
                go_simp
                with_reducible rfl
              rotate_left
              · simp only [Act.put, List.setIfInBounds_toArray, List.set_cons_zero, List.set_cons_succ, i64_w, i32_w]
                rfl
              refine pure_ (i := 4) (N := some 35) (v := ?_) (a' := ?_) #[true, true, true, true, true, false, false, false, false, false, false, false, false, false, false] rfl rfl (any_of HT_.out (by kernel_rfl)) (fun _ _ _ h => h) (Or.inl ⟨by rfl, ?_⟩) ?_ ?_
              rotate_left
              · intro w'
                go_simp
                with_reducible rfl
              rotate_left
              · simp only [Act.put, List.setIfInBounds_toArray, List.set_cons_zero, List.set_cons_succ, i64_w, i32_w]
                rfl
              refine take_ (i := 5) (N := some 36) (v := ?_) (a' := ?_) #[true, true, true, true, true, true, false, false, false, false, false, false, false, false, false] rfl rfl (take_ofW HT_.out HW_.out (by kernel_rfl)) (fun _ _ _ h => h) (Or.inl ⟨by rfl, ?_⟩) hHeld ?_ ?_
              rotate_left
              · rintro w' ⟨s0_, s1_, s2_⟩
                go_simp
                with_reducible rfl
              rotate_left
              · simp only [Act.put, List.setIfInBounds_toArray, List.set_cons_zero, List.set_cons_succ, i64_w, i32_w]
                rfl
              refine pure_ (i := 6) (N := some 37) (v := ?_) (a' := ?_) #[true, true, true, true, true, true, true, false, false, false, false, false, false, false, false] rfl rfl (any_of HT_.out (by kernel_rfl)) (fun _ _ _ h => h) (Or.inl ⟨by rfl, ?_⟩) ?_ ?_
              rotate_left
              · intro w'
                go_simp
                with_reducible rfl
              rotate_left
              · simp only [Act.put, List.setIfInBounds_toArray, List.set_cons_zero, List.set_cons_succ, i64_w, i32_w]
                rfl
              refine pure_ (i := 7) (N := some 38) (v := ?_) (a' := ?_) #[true, true, true, true, true, true, true, true, false, false, false, false, false, false, false] rfl rfl (any_of HT_.out (by kernel_rfl)) (fun _ _ _ h => h) (Or.inl ⟨by rfl, ?_⟩) ?_ ?_
              rotate_left
              · intro w'
                go_simp
                with_reducible rfl
              rotate_left
              · simp only [Act.put, List.setIfInBounds_toArray, List.set_cons_zero, List.set_cons_succ, i64_w, i32_w]
                rfl
              refine pure_ (i := 8) (N := some 39) (v := ?_) (a' := ?_) #[true, true, true, true, true, true, true, true, true, false, false, false, false, false, false] rfl rfl (any_of HT_.out (by kernel_rfl)) (fun _ _ _ h => h) (Or.inl ⟨by rfl, ?_⟩) ?_ ?_
              rotate_left
              · intro w'
                go_simp
                with_reducible rfl
              rotate_left
              · simp only [Act.put, List.setIfInBounds_toArray, List.set_cons_zero, List.set_cons_succ, i64_w, i32_w]
                rfl
              refine take_ (i := 9) (N := some 40) (v := ?_) (a' := ?_) #[true, true, true, true, true, true, true, true, true, true, false, false, false, false, false] rfl rfl (take_ofW HT_.out HW_.out (by kernel_rfl)) (fun _ _ _ h => h) (Or.inl ⟨by rfl, ?_⟩) hHeld ?_ ?_
              rotate_left
              · rintro w' ⟨s0_, s1_, s2_⟩
                go_simp
                with_reducible rfl
              rotate_left
              · simp only [Act.put, List.setIfInBounds_toArray, List.set_cons_zero, List.set_cons_succ, i64_w, i32_w]
                rfl
              refine pure_ (i := 10) (N := some 41) (v := ?_) (a' := ?_) #[true, true, true, true, true, true, true, true, true, true, true, false, false, false, false] rfl rfl (any_of HT_.out (by kernel_rfl)) (fun _ _ _ h => h) (Or.inl ⟨by rfl, ?_⟩) ?_ ?_
              rotate_left
              · intro w'
                go_simp
                with_reducible rfl
              rotate_left
              · simp only [Act.put, List.setIfInBounds_toArray, List.set_cons_zero, List.set_cons_succ, i64_w, i32_w]
                rfl
              refine take_ (i := 11) (N := some 42) (v := ?_) (a' := ?_) #[true, true, true, true, true, true, true, true, true, true, true, true, false, false, false] rfl rfl (take_ofW HT_.out HW_.out (by kernel_rfl)) (fun _ _ _ h => h) (Or.inl ⟨by rfl, ?_⟩) hHeld ?_ ?_
              rotate_left
              · rintro w' ⟨s0_, s1_, s2_⟩
                go_simp
                with_reducible rfl
              rotate_left
              · simp only [Act.put, List.setIfInBounds_toArray, List.set_cons_zero, List.set_cons_succ, i64_w, i32_w]
                rfl
              refine pure_ (i := 14) (N := some 45) (v := ?_) (a' := ?_) #[true, true, true, true, true, true, true, true, true, true, true, true, false, false, true] rfl rfl (any_of HT_.out (by kernel_rfl)) (fun _ _ _ h => h) (Or.inl ⟨by rfl, ?_⟩) ?_ ?_
              rotate_left
              · intro w'
                go_simp
                with_reducible rfl
              rotate_left
              · simp only [Act.put, List.setIfInBounds_toArray, List.set_cons_zero, List.set_cons_succ, i64_w, i32_w]
                rfl
              refine one_ (i := 12) (N := some 43) #[true, true, true, true, true, true, true, true, true, true, true, true, true, false, true] rfl rfl (one_of HT_.out (by kernel_rfl)) (by decide) (fun K hK => ?_)
              refine goes_ Tryd.func67 (by kernel_rfl) rfl #[.int .i64 px, .int .i64 py] (by rfl) rfl rfl (by (try simp only [List.map_toArray, List.map_cons, List.map_nil]); first | done | rfl) ?_
              refine (besideP_calls px py w4).mono ?_
              rintro e w5 ⟨rfl, hw5⟩
              refine ⟨_, rfl, ?_⟩
              have hb5 : Below w4.heap.size w4 w5 := by rw [hw5]; exact (Below.refl _ _).alloc (Nat.le_refl _) _
              have HD5 := Aside0.mk (show Below wr.heap.size wr w5 from HD.out.trans (hb5.mono HD.out.size))
              have HX5 := Aside0.mk (show ∀ k, k < 8 → w5.cell? ⟨w4.heap.size, k, none⟩ = some (.int .i64 ((bsP px py).getD k 0)) from fun k hk => by rw [hw5]; exact besideP_cells px py w4 k hk)
              have hHeld5 := Aside0.mk (show _ ∧ _ ∧ _ from ⟨(hb5.cell (World.block_lt_of_cell? w4 _ hHeld.1)).trans hHeld.1, (hb5.cell (World.block_lt_of_cell? w4 _ hHeld.2.1)).trans hHeld.2.1, (hb5.cell (World.block_lt_of_cell? w4 _ hHeld.2.2)).trans hHeld.2.2⟩)
              refine hK.out _ _ hHeld5.out (fun _ => ?_)
              clear hK K hHeld hw5 hb5
              refine norm_ (a' := ?_) ?_ ?_
              rotate_left
              · show Act.put _ (some 43) _ = _
                simp only [Act.put, List.setIfInBounds_toArray, List.set_cons_zero, List.set_cons_succ, i64_w, i32_w]
                rfl
              have hHeld := hHeld5.out
              refine pure_ (i := 13) (N := some 44) (v := ?_) (a' := ?_) #[true, true, true, true, true, true, true, true, true, true, true, true, true, true, true] rfl rfl (any_of HT_.out (by kernel_rfl)) (fun _ _ _ h => h) (Or.inl ⟨by rfl, ?_⟩) ?_ ?_
              rotate_left
              · intro w'
                go_simp
                with_reducible rfl
              rotate_left
              · simp only [Act.put, List.setIfInBounds_toArray, List.set_cons_zero, List.set_cons_succ, i64_w, i32_w]
                rfl
              refine done_ (done_of HT_.out (by kernel_rfl)) ?_
              have HW5 := Aside0.mk (HW.out.step HD5.out)
              clear HW HD HD5 hHeld5 hHeld p1 q1 q0 q2 q2i
              generalize w4.heap.size = bb at HX5 ⊢
              go_wp2
              go_loopg [0, 5, 45] 4 (fun gg s0 s5 s45 wi => ∃ (j : Nat) (rows : List ByteArray) (piece : List (List Int)) (A : Option Addr) (c g cp : Nat), j ≤ 4 ∧ 4 - j ≤ gg ∧ s45 = .int .i64 (j : Int) ∧ s0 = .slice A rows.length c ∧ s5 = .slice (some ⟨g, 0, none⟩) piece.length cp ∧ Aside0 (PcW w rows piece out s0 s5 u3 wi) ∧ Aside0 (∀ k, k < 8 → wi.cell? ⟨bb, k, none⟩ = some (.int .i64 ((bsP px py).getD k 0))) ∧ Aside0 (pcSide (bsP px py) (4 - j) j (rows, piece) = some s'))
              case atStart => exact ⟨0, rows2, piece, A2, c2, g2, cp2, by omega, by omega, rfl, rfl, rfl, HW5, HX5, HS⟩
              case round =>
                clear HW5 HX5 HS
                obtain ⟨j, rows3, piece3, A3, c3, g3, cp3, hj, hg, rfl, rfl, rfl, HW3, HX, HS⟩ := hrel
                by_cases hlt : j < 4
                · have h := HS.out
                  rw [show 4 - j = (3 - j) + 1 by omega] at h
                  unfold pcSide at h
                  obtain ⟨s2, h1, h2⟩ := Option.bind_eq_some_iff.mp h
                  unfold pcOne at h1
                  split at h1
                  case isFalse => cases h1
                  case isTrue gd =>
                  obtain ⟨b, hb, h1⟩ := Option.bind_eq_some_iff.mp h1
                  dsimp only at hb h1 gd
                  have hx0 := HX.out (j * 2) (by omega)
                  have hx1 := HX.out (j * 2 + 1) (by omega)
                  obtain ⟨X, hX⟩ : ∃ u, u = (bsP px py).getD (j * 2) 0 := ⟨_, rfl⟩
                  obtain ⟨Y, hY⟩ : ∃ u, u = (bsP px py).getD (j * 2 + 1) 0 := ⟨_, rfl⟩
                  rw [← hX] at hb h1 hx0
                  rw [← hY] at hb h1 hx1
                  have HHAS := Aside0.mk hb
                  have HCR := Aside0.mk (Kd.R_reads' HW3.out.rows).2
                  have HN2 := Aside0.mk h2
                  have HPL := Aside0.mk gd
                  have q1 : (j : Int) < 4 := by omega
                  have q1b : decide ((j : Int) < 4) = true := decide_eq_true q1
                  clear hb h2 gd hX hY h
                  cases b with
                  | false =>
                    rw [if_neg (by simp)] at h1
                    obtain rfl := Option.some.inj h1
                    go_wp2_with (go_at_call 56; (with_reducible refine (impl_has.calls A3 c3 rows3 X Y false _ ?hr HCR.out.1 HHAS.out).mono ?_); (case hr => exact Kd.C_below HCR.out.2 (below_alloc (Below.refl _ _) _)); rintro e w' ⟨rfl, ⟨nd, rfl⟩⟩)
                    go_roundg (4 - (j + 1))
                    case measure => omega
                    case rel =>
                      refine ⟨j + 1, rows3, piece3, A3, c3, g3, cp3, by omega, by omega, by go_num, rfl, rfl, ⟨HW3.out.step ?_⟩, ⟨fun k hk => ?_⟩, ⟨by rw [show 4 - (j + 1) = 3 - j by omega]; exact HN2.out⟩⟩
                      · exact pw_below_drewN (below_alloc (Below.refl _ _) _) _
                      · have h := HX.out k hk
                        exact (((Below.refl _ wr).alloc (Nat.le_refl _) _).cell (World.block_lt_of_cell? wr _ h)).trans h
                  | true =>
                    rw [if_pos rfl] at h1
                    obtain ⟨rr, hput, h1⟩ := Option.bind_eq_some_iff.mp h1
                    obtain rfl := Option.some.inj h1
                    have HPUT := Aside0.mk hput
                    clear hput h1
                    go_wp2_with (go_at_call 56; (with_reducible refine (impl_has.calls A3 c3 rows3 X Y true _ ?hr HCR.out.1 HHAS.out).mono ?_); (case hr => exact Kd.C_below HCR.out.2 (below_alloc (Below.refl _ _) _)); rintro e w' ⟨rfl, ⟨nd, rfl⟩⟩)
                    have hcut := fun W => pc_cut3 g3 piece3.length cp3 (by obtain ⟨_, _, e5, h5, _⟩ := HW3.out.piece; cases e5; exact h5) W
                    clear hx0 hx1 q1 q1b
                    refine start_ (n := 14) (S := fun w' => w'.cell? ⟨wr.heap.size, 0, none⟩ = some (.int .i64 X) ∧ w'.cell? ⟨wr.heap.size, 1, none⟩ = some (.int .i64 Y)) (ds := []) #[false, false, false, false, false, false, false, false, false, false, false, false, false, false] (by kernel_rfl) rfl rfl ⟨by simp, by simp⟩ (fun hHeld => ?_); refine with_tabW piecesR.tab16 piecesR.bits16 (fun HT_ HW_ => ?_)
                    have HD := Aside0.mk (below_drew1 (pw_below_drewN (below_alloc (Below.refl wr.heap.size wr) (.cells #[.int .i64 X, .int .i64 Y] 64)) nd))
                    generalize ((wr.alloc (.cells #[.int .i64 X, .int .i64 Y] 64)).drewN nd).drew = w7 at HD hHeld ⊢
                    generalize hbp : wr.heap.size = bp at hHeld ⊢
                    refine pure_ (i := 0) (N := some 55) (v := ?_) (a' := ?_) #[true, false, false, false, false, false, false, false, false, false, false, false, false, false] rfl rfl (any_of HT_.out (by kernel_rfl)) (fun _ _ _ h => h) (Or.inl ⟨by rfl, ?_⟩) ?_ ?_
                    rotate_left
                    · intro w'
                      go_simp
                      with_reducible rfl
                    rotate_left
                    · simp only [Act.put, List.setIfInBounds_toArray, List.set_cons_zero, List.set_cons_succ, i64_w, i32_w]
                      rfl
                    refine pure_ (i := 1) (N := some 56) (v := ?_) (a' := ?_) #[true, true, false, false, false, false, false, false, false, false, false, false, false, false] rfl rfl (any_of HT_.out (by kernel_rfl)) (fun _ _ _ h => h) (Or.inl ⟨by rfl, ?_⟩) ?_ ?_
                    rotate_left
                    · intro w'
                      go_simp
                      with_reducible rfl
                    rotate_left
                    · simp only [Act.put, List.setIfInBounds_toArray, List.set_cons_zero, List.set_cons_succ, i64_w, i32_w]
                      rfl
                    refine pure_ (i := 2) (N := some 57) (v := ?_) (a' := ?_) #[true, true, true, false, false, false, false, false, false, false, false, false, false, false] rfl rfl (any_of HT_.out (by kernel_rfl)) (fun _ _ _ h => h) (Or.inl ⟨by rfl, ?_⟩) ?_ ?_
                    rotate_left
                    · intro w'
                      go_simp
                      with_reducible rfl
                    rotate_left
                    · simp only [Act.put, List.setIfInBounds_toArray, List.set_cons_zero, List.set_cons_succ, i64_w, i32_w]
                      rfl
                    refine pure_ (i := 3) (N := some 58) (v := ?_) (a' := ?_) #[true, true, true, true, false, false, false, false, false, false, false, false, false, false] rfl rfl (any_of HT_.out (by kernel_rfl)) (fun _ _ _ h => h) (Or.inl ⟨by rfl, ?_⟩) ?_ ?_
                    rotate_left
                    · intro w'
                      go_simp
                      with_reducible rfl
                    rotate_left
                    · simp only [Act.put, List.setIfInBounds_toArray, List.set_cons_zero, List.set_cons_succ, i64_w, i32_w]
                      rfl
                    refine pure_ (i := 4) (N := some 59) (v := ?_) (a' := ?_) #[true, true, true, true, true, false, false, false, false, false, false, false, false, false] rfl rfl (any_of HT_.out (by kernel_rfl)) (fun _ _ _ h => h) (Or.inl ⟨by rfl, ?_⟩) ?_ ?_
                    rotate_left
                    · intro w'
                      go_simp
                      with_reducible rfl
                    rotate_left
                    · simp only [Act.put, List.setIfInBounds_toArray, List.set_cons_zero, List.set_cons_succ, i64_w, i32_w]
                      rfl
                    refine pure_ (i := 5) (N := some 60) (v := ?_) (a' := ?_) #[true, true, true, true, true, true, false, false, false, false, false, false, false, false] rfl rfl (any_of HT_.out (by kernel_rfl)) (fun _ _ _ h => h) (Or.inl ⟨by rfl, ?_⟩) ?_ ?_
                    rotate_left
                    · intro w'
                      go_simp
                      with_reducible rfl
                    rotate_left
                    · simp only [Act.put, List.setIfInBounds_toArray, List.set_cons_zero, List.set_cons_succ, i64_w, i32_w]
                      rfl
                    refine pure_ (i := 6) (N := some 61) (v := ?_) (a' := ?_) #[true, true, true, true, true, true, true, false, false, false, false, false, false, false] rfl rfl (any_of HT_.out (by kernel_rfl)) (fun _ _ _ h => h) (Or.inl ⟨by rfl, ?_⟩) ?_ ?_
                    rotate_left
                    · intro w'
                      go_simp
                      with_reducible rfl
                    rotate_left
                    · simp only [Act.put, List.setIfInBounds_toArray, List.set_cons_zero, List.set_cons_succ, i64_w, i32_w]
                      rfl
                    refine take_ (i := 7) (N := some 62) (v := ?_) (a' := ?_) #[true, true, true, true, true, true, true, true, false, false, false, false, false, false] rfl rfl (take_ofW HT_.out HW_.out (by kernel_rfl)) (fun _ _ _ h => h) (Or.inl ⟨by rfl, ?_⟩) hHeld ?_ ?_
                    rotate_left
                    · rintro w' ⟨s0_, s1_⟩
                      go_simp
                      with_reducible rfl
                    rotate_left
                    · simp only [Act.put, List.setIfInBounds_toArray, List.set_cons_zero, List.set_cons_succ, i64_w, i32_w]
                      rfl
                    refine pure_ (i := 8) (N := some 63) (v := ?_) (a' := ?_) #[true, true, true, true, true, true, true, true, true, false, false, false, false, false] rfl rfl (any_of HT_.out (by kernel_rfl)) (fun _ _ _ h => h) (Or.inl ⟨by rfl, ?_⟩) ?_ ?_
                    rotate_left
                    · intro w'
                      go_simp
                      with_reducible rfl
                    rotate_left
                    · simp only [Act.put, List.setIfInBounds_toArray, List.set_cons_zero, List.set_cons_succ, i64_w, i32_w]
                      rfl
                    refine take_ (i := 9) (N := some 64) (v := ?_) (a' := ?_) #[true, true, true, true, true, true, true, true, true, true, false, false, false, false] rfl rfl (take_ofW HT_.out HW_.out (by kernel_rfl)) (fun _ _ _ h => h) (Or.inl ⟨by rfl, ?_⟩) hHeld ?_ ?_
                    rotate_left
                    · rintro w' ⟨s0_, s1_⟩
                      go_simp
                      with_reducible rfl
                    rotate_left
                    · simp only [Act.put, List.setIfInBounds_toArray, List.set_cons_zero, List.set_cons_succ, i64_w, i32_w]
                      rfl
                    refine one_ (i := 10) (N := some 65) #[true, true, true, true, true, true, true, true, true, true, true, false, false, false] rfl rfl (one_of HT_.out (by kernel_rfl)) (by decide) (fun K hK => ?_)
                    refine value_ (v := .slice (some ⟨w7.heap.size, 0, none⟩) 2 2) (w1 := w7.alloc (.cells #[.int .i64 X, .int .i64 Y] 3)) (by rfl) rfl ?hrun ?_
                    (case hrun => first | (go_simp; done) | (go_simp; rfl))
                    obtain ⟨hb8, hC8⟩ := pc_made w7 X Y
                    have h8 := Aside0.mk (show _ ∧ _ from ⟨pc_cell hb8 hHeld.1, pc_cell hb8 hHeld.2⟩)
                    have HD8 := Aside0.mk (HD.out.trans (hb8.mono HD.out.size))
                    have HC8 := Aside0.mk hC8
                    clear hHeld HD hb8 hC8
                    generalize (w7.alloc (.cells #[.int .i64 X, .int .i64 Y] 3)) = w8 at h8 HD8 HC8 ⊢
                    generalize w7.heap.size = b8 at HC8 ⊢
                    refine hK.out _ _ h8.out (fun _ => ?_)
                    clear hK K
                    refine norm_ (a' := ?_) ?_ ?_
                    rotate_left
                    · show Act.put _ (some 65) _ = _
                      simp only [Act.put, List.setIfInBounds_toArray, List.set_cons_zero, List.set_cons_succ, i64_w, i32_w]
                      rfl
                    have hHeld := h8.out
                    refine one_ (i := 11) (N := some 66) #[true, true, true, true, true, true, true, true, true, true, true, true, false, false] rfl rfl (one_of HT_.out (by kernel_rfl)) (by decide) (fun K hK => ?_)
                    refine value_ (v := .slice (some ⟨w8.heap.size, 0, none⟩) 1 1) (w1 := w8.alloc (.cells #[.slice (some ⟨b8, 0, none⟩) 2 2] 35)) (by rfl) rfl ?hrun ?_
                    (case hrun => first | (go_simp; done) | (go_simp; rfl))
                    obtain ⟨hb9, hc9⟩ := pc_box w8 (.slice (some ⟨b8, 0, none⟩) 2 2)
                    have h9 := Aside0.mk (show _ ∧ _ from ⟨pc_cell hb9 hHeld.1, pc_cell hb9 hHeld.2⟩)
                    have HD9 := Aside0.mk (HD8.out.trans (hb9.mono HD8.out.size))
                    have HC9 := Aside0.mk (Kd.C_below HC8.out hb9)
                    have HX9 := Aside0.mk hc9
                    clear hHeld HD8 hb9 hc9 HC8 h8
                    generalize (w8.alloc (.cells #[.slice (some ⟨b8, 0, none⟩) 2 2] 35)) = w9 at h9 HD9 HC9 HX9 ⊢
                    generalize w8.heap.size = b9 at HX9 ⊢
                    refine hK.out _ _ h9.out (fun _ => ?_)
                    clear hK K
                    refine norm_ (a' := ?_) ?_ ?_
                    rotate_left
                    · show Act.put _ (some 66) _ = _
                      simp only [Act.put, List.setIfInBounds_toArray, List.set_cons_zero, List.set_cons_succ, i64_w, i32_w]
                      rfl
                    have hHeld := h9.out
                    refine one_ (i := 12) (N := some 67) #[true, true, true, true, true, true, true, true, true, true, true, true, true, false] rfl rfl (one_of HT_.out (by kernel_rfl)) (by decide) (fun K hK => ?_)
                    obtain ⟨g', cp', e5, hcp, hCP⟩ := (HW3.out.step HD9.out).piece
                    cases e5
                    obtain ⟨cA, wA, hrunA, hbA, hcA, hCA⟩ := piece_append w9 g3 piece3 HPL.out.2 (by have := HPL.out; omega) hCP b9 (some ⟨b8, 0, none⟩) 2 [X, Y] HX9.out (by simp) HC9.out
                    obtain ⟨pA, hpA⟩ : ∃ p, p = piece3 ++ [[X, Y]] := ⟨_, rfl⟩
                    rw [← hpA] at hrunA hcA hCA
                    refine value_ (v := .slice (some ⟨w9.heap.size, 0, none⟩) pA.length cA) (w1 := wA) (by rfl) rfl ?hrun ?_
                    (case hrun => exact pc_append_val rfl rfl rfl hrunA)
                    have hA := Aside0.mk (show _ ∧ _ from ⟨pc_cell hbA hHeld.1, pc_cell hbA hHeld.2⟩)
                    have HDA := Aside0.mk (HD9.out.trans (hbA.mono HD9.out.size))
                    have HCA := Aside0.mk (show pA.length ≤ cA ∧ Kd.C (Kd.slice 3 (Kd.int .i64)) wA (some ⟨w9.heap.size, 0, none⟩) pA.length pA from ⟨hcA, hCA⟩)
                    have HPA := Aside0.mk hpA
                    clear hHeld HD9 hbA HC9 HX9 h9 hrunA hcA hCA hCP hcp hpA
                    generalize w9.heap.size = gA at HCA ⊢
                    refine hK.out _ _ hA.out (fun _ => ?_)
                    clear hK K
                    refine norm_ (a' := ?_) ?_ ?_
                    rotate_left
                    · show Act.put _ (some 67) _ = _
                      simp only [Act.put, List.setIfInBounds_toArray, List.set_cons_zero, List.set_cons_succ, i64_w, i32_w]
                      rfl
                    refine pure_ (i := 13) (N := some 5) (v := ?_) (a' := ?_) #[true, true, true, true, true, true, true, true, true, true, true, true, true, true] rfl rfl (any_of HT_.out (by kernel_rfl)) (fun _ _ _ h => h) (Or.inl ⟨by rfl, ?_⟩) ?_ ?_
                    rotate_left
                    · intro w'
                      go_simp
                      with_reducible rfl
                    rotate_left
                    · simp only [Act.put, List.setIfInBounds_toArray, List.set_cons_zero, List.set_cons_succ, i64_w, i32_w]
                      rfl
                    refine done_ (done_of HT_.out (by kernel_rfl)) ?_
                    have HWA := Aside0.mk (HW3.out.step HDA.out)
                    have hp0 := hA.out.1
                    have hp1 := hA.out.2
                    clear hcut
                    go_wp2_with (go_at_call 44; (with_reducible refine (impl_put.calls A3 c3 rows3 X Y 46 rr _ (Kd.R_reads' HWA.out.rows).2.2 HCR.out.1 HPUT.out).mono ?_); rintro e wB ⟨v0, rfl, ho, hb⟩; obtain ⟨A4, c4, e4⟩ := Kd.R_slice ho; subst e4; have HOB := Aside0.mk ho; have HBB := Aside0.mk hb; clear ho hb)
                    go_roundg (4 - (j + 1))
                    case measure => omega
                    case rel =>
                      have hst := HWA.out.step HBB.out
                      refine ⟨j + 1, rr, pA, A4, c4, gA, cA, by omega, by omega, by go_num, rfl, rfl, ⟨⟨hst.below, Kd.R_lower HOB.out HWA.out.below.size, ⟨gA, cA, rfl, HCA.out.1, Kd.C_below HCA.out.2 HBB.out⟩, hst.out⟩⟩, ⟨fun k hk => pc_cell HBB.out (pc_cell HDA.out (HX.out k hk))⟩, ⟨by rw [show 4 - (j + 1) = 3 - j by omega, HPA.out]; exact HN2.out⟩⟩
                · obtain rfl : j = 4 := by omega
                  have hs := HS.out
                  rw [show 4 - 4 = 0 from rfl] at hs
                  unfold pcSide at hs
                  obtain rfl := Option.some.inj hs
                  clear hs
                  go_wp2
                  go_roundg kg
                  case measure => omega
                  case rel => exact ⟨kg, i + 1, rows3, piece3, A3, c3, g3, cp3, Nat.le_refl _, by rw [HW1.out], rfl, rfl, HW3, HNG⟩
            · rw [if_neg hlt] at h
              obtain rfl := Option.some.inj h
              have q1 : ((i : Int) < (piece.length : Int)) = False := eq_false (by omega)
              clear h
              go_wp2_with ((with_reducible refine gate_builtin (b := .append) (xs := #[.tmp 75, .tmp 78]) rfl ?_); at_builtin; refine Kd.R_append (Kd.int .i64) (w0 := w) w.heap.size rfl (.tmp 75) (.tmp 78) 35 3 (.int .i64 0) 8 rfl Tryd.underlying35 info3 rfl (by decide) (by omega) u3 out (piece.length : Int) [.int .i64 (piece.length : Int)] (fun _ => True) (fun _ => False) rfl rfl ?aP (fun _ hk => hk.elim) ?aF ?aO ?aB ?aS ?aL ?_; (case aP => exact rfl); (case aB => exact HW.out.below); (case aF => exact (fun _ _ => trivial)); (case aO => exact HW.out.out); (case aS => exact HW.out.below.size); (case aL => have := HGD.out; omega); intro v79 w9 ho hb hg hat; have HO9 := Aside0.mk ho; have HB9 := Aside0.mk hb; have HR9 := Aside0.mk (Kd.R_over' HW.out.rows (Kd.R_typed HW.out.out) (by decide) hg); clear ho hb hg hat)
              go_roundg kq
              case measure => omega
              case rel => exact ⟨kq, rows2, A2, c2, out ++ [(piece.length : Int)], Nat.le_refl _, rfl, ⟨(Kd.R_reads' HR9.out).2.1⟩, ⟨(Kd.R_reads' HR9.out).2.2⟩, HO9, HB9, HNX⟩

end Go.Proofs.YtaocnjaeaiacmaaDoor.V
