-- Laid by a program of this session (wip/pp.py) over the seat's translation, with its own texts for some functions.
import Derived.Test.YtaocnjaeaiacmaaDoorR0
import Derived.Test.YtaocnjaeaiacmaaDoorR6
import Derived.Test.YtaocnjaeaiacmaaDoorR7
import Derived.Test.YtaocnjaeaiacmaaDoorR9
namespace Go.Proofs.YtaocnjaeaiacmaaDoor.R
open Go.RowKit Go.Proofs.YtaocnjaeaiacmaaDoorW.PrintWords Go.Proofs.YtaocnjaeaiacmaaDoorW.PrintLast Go.Proofs.YtaocnjaeaiacmaaDoorW.PrintMore
attribute [local go_sem] max2_int min2_int max_two min_two max_three min_three max_four min_four   -- for this text's walks alone
set_option linter.unusedVariables false
set_option linter.unusedSimpArgs false

/-! ### impl_shone: function 33 -/
def shone.T2 : Bool × List (List Nat × List Nat) := (true, [([], []), ([], []), ([], []), ([1, 2], [1, 2]), ([0, 3, 3], [0, 3]), ([4, 4, 0, 1, 2, 3, 4], [4])])
def shone.B2 : List Nat := [0, 0, 0, 6, 15, 31]
theorem shone.tab2 : rtab .any (opsOf Tryd.f33 2) = shone.T2 := by kernel_rfl
theorem shone.bits2 : waitsOk shone.T2.2 shone.B2 = true := by kernel_rfl
def shoneC.T2 : Bool × List (List Nat × List Nat) := (true, [([], []), ([], []), ([1], [1]), ([0, 2], [0, 2]), ([], []), ([], []), ([5], [5]), ([4, 6], [4, 6]), ([3, 0, 1, 2, 3], [0, 3]), ([7, 8, 0, 1, 2, 3, 4, 5, 6, 7, 8], [4, 7])])
def shoneC.B2 : List Nat := [0, 0, 2, 7, 0, 0, 32, 112, 15, 511]
theorem shoneC.tab2 : rtab .any (opsOf Tryd.f54 2) = shoneC.T2 := by kernel_rfl
theorem shoneC.bits2 : waitsOk shoneC.T2.2 shoneC.B2 = true := by kernel_rfl
theorem wayKeyed : Maps.Keyed Tryd.prog 9 := Maps.string_keyed Tryd.underlying9
theorem wayKey (s : ByteArray) (hs : s.size ≤ maxLen) : ∃ l, keyOf Tryd.prog 9 (.string s) = some l := ⟨_, Go.WideMaps.keyOf_string_mk Tryd.underlying9 hs⟩
/-- Block m is a map from texts to what is listed. -/
def WayAt (W : World) (m : Nat) (L : List (ByteArray × Value)) : Prop :=
  (∀ p ∈ L, p.1.size ≤ maxLen) ∧ ∃ es clock, W.heap[m]? = some (.map es clock) ∧ es.toList.map (fun e => (e.key, e.val)) = L.map (fun p => (Value.string p.1, p.2))
theorem way_keys {es : Array MapEntry} {L : List (ByteArray × Value)} (h : es.toList.map (fun e => (e.key, e.val)) = L.map (fun p => (Value.string p.1, p.2))) {e : MapEntry} (he : e ∈ es.toList) : ∃ p ∈ L, e.key = .string p.1 ∧ e.val = p.2 := by
  have h1 : (e.key, e.val) ∈ L.map (fun p => (Value.string p.1, p.2)) := by rw [← h]; exact List.mem_map.2 ⟨e, he, rfl⟩
  obtain ⟨p, hp, h2⟩ := List.mem_map.1 h1
  simp only [Prod.mk.injEq] at h2
  exact ⟨p, hp, h2.1.symm, h2.2.symm⟩
theorem way_put {W : World} {m : Nat} {L : List (ByteArray × Value)} (h : WayAt W m L) (k : ByteArray) (hsz : k.size ≤ maxLen) (v : Value) (hk : ∀ p ∈ L, p.1 ≠ k) :
    ∃ W', (Instr.mapUpdate 65 (.map (some m)) (.string k) v).run Tryd.prog W = .ok () W' ∧ WayAt W' m (L ++ [(k, v)]) ∧ W.grownBy W' (some m) ∧ W'.heap.size = W.heap.size := by
  obtain ⟨hLs, es, clock, hb, hes⟩ := h
  obtain ⟨l, hl⟩ := wayKey k hsz
  have hks : ∀ e ∈ es.toList, ∃ l, keyOf Tryd.prog 9 e.key = some l := by
    intro e he
    obtain ⟨p, hp, h1, _⟩ := way_keys hes he
    rw [h1]; exact wayKey p.1 (hLs p hp)
  rcases wayKeyed.find W hl es.toList hks with ⟨h1, _⟩ | ⟨q, e0, h1, h2, h3⟩
  · refine ⟨{ W with heap := W.heap.setIfInBounds m (.map (es.push { key := .string k, val := v, born := clock }) (clock + 1)) }, by simp [Instr.mapUpdate, run_underlying Tryd.underlying65, MapKept.run_getObj_map hb, wayKeyed.check W _ hl, h1, MapKept.run_setObj_map _ hb, Result.andThen], ⟨fun p hp => ?_, _, _, (MapKept.heap_set hb).1, ?_⟩, ⟨rfl, rfl, rfl, by simp, fun r' _ hr => (MapKept.heap_set hb).2 r' (fun e => hr (by rw [e]))⟩, by simp⟩
    · rcases List.mem_append.1 hp with h | h
      · exact hLs p h
      · rw [List.mem_singleton.1 h]; exact hsz
    · rw [Array.toList_push, List.map_append, hes, List.map_append]
      rfl
  · obtain ⟨p, hp, h4, _⟩ := way_keys hes (List.mem_of_getElem? h2)
    rw [h3] at h4
    injection h4 with h4
    exact absurd h4.symm (hk p hp)
set_option maxRecDepth 100000 in
theorem way_get {W : World} {m : Nat} {L : List (ByteArray × Value)} (h : WayAt W m L) (k : ByteArray) (hsz : k.size ≤ maxLen) (v : Value) (hk : ∃ p ∈ L, p.1 = k) (hv : ∀ p ∈ L, p.1 = k → p.2 = v) :
    (Instr.lookup 65 (.map (some m)) (.string k) false).run Tryd.prog W = .ok v W := by
  obtain ⟨hLs, es, clock, hb, hes⟩ := h
  obtain ⟨l, hl⟩ := wayKey k hsz
  have hks : ∀ e ∈ es.toList, ∃ l, keyOf Tryd.prog 9 e.key = some l := by
    intro e he
    obtain ⟨p, hp, h1, _⟩ := way_keys hes he
    rw [h1]; exact wayKey p.1 (hLs p hp)
  have hz : (zeroValue 64).run Tryd.prog W = .ok (.agg #[.int .i64 0, .int .i64 0]) W := by kernel_rfl
  rcases wayKeyed.find W hl es.toList hks with ⟨h1, h2⟩ | ⟨q, e0, h1, h2, h3⟩
  · obtain ⟨p, hp, hpk⟩ := hk
    have h4 : (Value.string p.1, p.2) ∈ es.toList.map (fun e => (e.key, e.val)) := by rw [hes]; exact List.mem_map.2 ⟨p, hp, rfl⟩
    obtain ⟨e, he, h5⟩ := List.mem_map.1 h4
    simp only [Prod.mk.injEq] at h5
    exact absurd (by rw [h5.1, hpk]) (h2 e he)
  · obtain ⟨p, hp, h4, h5⟩ := way_keys hes (List.mem_of_getElem? h2)
    rw [h3] at h4
    injection h4 with h4
    have h6 := hv p hp h4.symm
    rw [h5, h6] at h1
    simp [Instr.lookup, run_underlying Tryd.underlying65, MapKept.run_getObj_map hb, wayKeyed.check W _ hl, h1, hz, Result.andThen]
/-- Nothing lies on a ray that goes on from a place. -/
def rayF (l0 : List ByteArray) (d : Int × Int) : Nat → Int → Int → Option Bool
  | 0, _, _ => none
  | k + 1, x, y => (impl_within.f x 0 (wrap64 (((rdOf ByteArray.empty l0 0).size : Int) - 1))).bind fun b1 => if b1 = true then (impl_within.f y 0 (wrap64 ((l0.length : Int) - 1))).bind fun b2 => (if b2 = true then (impl_has.f l0 (wrap64 (x + d.1)) (wrap64 (y + d.2))).bind fun h => (if h = true then some false else rayF l0 d k (wrap64 (x + d.1)) (wrap64 (y + d.2))) else some true) else some true
set_option maxHeartbeats 4000000 in
set_option maxRecDepth 100000 in
theorem shone_pred (A0 : Option Addr) (c0 : Nat) (l0 : List ByteArray) (d : Int × Int) (k : Nat) (x y : Int) (b : Bool) (b1 b2 : Nat) (W : World) (h1 : W.cell? ⟨b1, 0, none⟩ = some (.slice A0 l0.length c0)) (h2 : W.cell? ⟨b2, 0, none⟩ = some (.int .i64 d.1)) (h3 : W.cell? ⟨b2, 1, none⟩ = some (.int .i64 d.2))
    (hr : Kd.string.C W A0 l0.length l0) (hc : l0.length ≤ c0) (h0 : 0 < l0.length) (h : rayF l0 d k x y = some b) :
    Calls Tryd.prog 54 #[.int .i64 x, .int .i64 y, .pointer (some ⟨b1, 0, none⟩), .pointer (some ⟨b2, 0, none⟩)] W fun e w' => e = .returned (.bool b) ∧ Below W.heap.size W w' := by
  obtain ⟨ad, e1, hx⟩ := Kd.at_string hr (0 : Int) (by omega) (by omega)
  subst e1
  rw [show (0 : Int).toNat = 0 from rfl, Addr.add_zero'] at hx
  obtain ⟨row, hrow⟩ : ∃ row, row = rdOf ByteArray.empty l0 0 := ⟨_, rfl⟩
  rw [← hrow] at hx
  have HROW := Aside0.mk hrow
  have HRAY := Aside0.mk h
  have H1 := Aside0.mk h1
  have H2 := Aside0.mk h2
  have H3 := Aside0.mk h3
  have HX := Aside0.mk hx
  have HR := Aside0.mk hr
  have HC := Aside0.mk hc
  have q0 : (0 < l0.length) = True := eq_true h0
  clear h1 h2 h3 hx hr hc h hrow
  go_enter Tryd.func54, Tryd.ntmps54
  go_wp2
  go_loopg [0, 1] k (fun gg s0 s1 wr => ∃ (kq : Nat) (x1 y1 : Int), kq ≤ gg ∧ s0 = .int .i64 x1 ∧ s1 = .int .i64 y1 ∧ Aside0 (rayF l0 d kq x1 y1 = some b) ∧ Aside0 (Below W.heap.size W wr))
  case atStart => exact ⟨k, x, y, Nat.le_refl _, rfl, rfl, HRAY, ⟨Below.refl _ _⟩⟩
  case round =>
    clear HRAY
    obtain ⟨kq, x1, y1, hk, rfl, rfl, HL, HB⟩ := hrel
    cases kq with
    | zero => exact absurd HL.out (by simp [rayF])
    | succ kq =>
      have h := HL.out
      simp only [rayF] at h
      rw [← HROW.out] at h
      obtain ⟨c1, hw1, h⟩ := Option.bind_eq_some_iff.mp h
      have hb1 := (HB.out.cell (World.block_lt_of_cell? W _ H1.out)).trans H1.out
      have hx0 := (HB.out.cell (World.block_lt_of_cell? W _ HX.out)).trans HX.out
      have HW1 := Aside0.mk hw1
      have HBX := Aside0.mk (fun (n : Nat) => (show (wr.drewN n).cell? ⟨b1, 0, none⟩ = some (.slice (some ad) l0.length c0) from hb1))
      clear hw1 HL
      cases c1 with
      | false =>
        rw [if_neg (by simp)] at h
        obtain rfl := Option.some.inj h
        go_wp2_with (go_at_call 55; (with_reducible refine (impl_within.calls _ _ _ false _ HW1.out).mono ?_); rintro e w' ⟨rfl, ⟨nd, rfl⟩⟩)
        go_ret
        exact ⟨rfl, pw_below_drewN HB.out _⟩
      | true =>
        rw [if_pos rfl] at h
        obtain ⟨c2, hw2, h⟩ := Option.bind_eq_some_iff.mp h
        have HW2 := Aside0.mk hw2
        clear hw2
        cases c2 with
        | false =>
          rw [if_neg (by simp)] at h
          obtain rfl := Option.some.inj h
          go_wp2_with (first | (go_at_call 55; (with_reducible refine (impl_within.calls _ _ _ true _ HW1.out).mono ?_); rintro e w' ⟨rfl, ⟨nd, rfl⟩⟩; have hb1' := HBX.out nd) | (go_at_call 55; (with_reducible refine (impl_within.calls _ _ _ false _ HW2.out).mono ?_); rintro e w' ⟨rfl, ⟨nd2, rfl⟩⟩))
          go_ret
          exact ⟨rfl, by repeat (first | exact HB.out | apply pw_below_drewN)⟩
        | true =>
          rw [if_pos rfl] at h
          obtain ⟨hb, hh, h⟩ := Option.bind_eq_some_iff.mp h
          have HHAS := Aside0.mk hh
          have HNX := Aside0.mk h
          clear hh h
          go_wp2_with (first | (go_at_call 55; (with_reducible refine (impl_within.calls _ _ _ true _ HW1.out).mono ?_); rintro e w' ⟨rfl, ⟨nd, rfl⟩⟩; have hb1' := HBX.out nd) | (go_at_call 55; (with_reducible refine (impl_within.calls _ _ _ true _ HW2.out).mono ?_); rintro e w' ⟨rfl, ⟨nd2, rfl⟩⟩))
          have HB2 := Aside0.mk (show Below W.heap.size W (wr.drewN (nd + nd2)) from pw_below_drewN HB.out _)
          clear hb1' hb1 hx0 HB HBX
          generalize wr.drewN (nd + nd2) = w2 at HB2 ⊢
          have hy0 := (HB2.out.cell (World.block_lt_of_cell? W _ H2.out)).trans H2.out
          have hy1 := (HB2.out.cell (World.block_lt_of_cell? W ⟨b2, 1, none⟩ H3.out)).trans H3.out
          refine start_ (n := 10) (S := fun w' => w'.cell? ⟨b2, 0, none⟩ = some (.int .i64 d.1) ∧ w'.cell? ⟨b2, 1, none⟩ = some (.int .i64 d.2)) (ds := []) #[false, false, false, false, false, false, false, false, false, false] (by kernel_rfl) rfl rfl ⟨hy0, hy1⟩ (fun hHeld => ?_); refine with_tabW shoneC.tab2 shoneC.bits2 (fun HT_ HW_ => ?_)
          have HB3 := Aside0.mk (below_drew1 HB2.out)
          clear hy0 hy1 HB2
          generalize w2.drew = w3 at HB3 hHeld ⊢
          refine pure_ (i := 0) (N := some 21) (v := ?_) (a' := ?_) #[true, false, false, false, false, false, false, false, false, false] rfl rfl (any_of HT_.out (by kernel_rfl)) (fun _ _ _ h => h) (Or.inl ⟨by rfl, ?_⟩) ?_ ?_
          rotate_left
          · intro w'
            go_simp
            with_reducible rfl
          rotate_left
          · simp only [Act.put, List.setIfInBounds_toArray, List.set_cons_zero, List.set_cons_succ, i64_w, i32_w]
            rfl
          refine pure_ (i := 1) (N := some 22) (v := ?_) (a' := ?_) #[true, true, false, false, false, false, false, false, false, false] rfl rfl (any_of HT_.out (by kernel_rfl)) (fun _ _ _ h => h) (Or.inl ⟨by rfl, ?_⟩) ?_ ?_
          rotate_left
          · intro w'
            go_simp
            with_reducible rfl
          rotate_left
          · simp only [Act.put, List.setIfInBounds_toArray, List.set_cons_zero, List.set_cons_succ, i64_w, i32_w]
            rfl
          refine take_ (i := 2) (N := some 23) (v := ?_) (a' := ?_) #[true, true, true, false, false, false, false, false, false, false] rfl rfl (take_ofW HT_.out HW_.out (by kernel_rfl)) (fun _ _ _ h => h) (Or.inl ⟨by rfl, ?_⟩) hHeld ?_ ?_
          rotate_left
          · rintro w' ⟨s0_, s1_⟩
            go_simp
            with_reducible rfl
          rotate_left
          · simp only [Act.put, List.setIfInBounds_toArray, List.set_cons_zero, List.set_cons_succ, i64_w, i32_w]
            rfl
          refine pure_ (i := 3) (N := some 24) (v := ?_) (a' := ?_) #[true, true, true, true, false, false, false, false, false, false] rfl rfl (any_of HT_.out (by kernel_rfl)) (fun _ _ _ h => h) (Or.inl ⟨by rfl, ?_⟩) ?_ ?_
          rotate_left
          · intro w'
            go_simp
            with_reducible rfl
          rotate_left
          · simp only [Act.put, List.setIfInBounds_toArray, List.set_cons_zero, List.set_cons_succ, i64_w, i32_w]
            rfl
          refine pure_ (i := 4) (N := some 25) (v := ?_) (a' := ?_) #[true, true, true, true, true, false, false, false, false, false] rfl rfl (any_of HT_.out (by kernel_rfl)) (fun _ _ _ h => h) (Or.inl ⟨by rfl, ?_⟩) ?_ ?_
          rotate_left
          · intro w'
            go_simp
            with_reducible rfl
          rotate_left
          · simp only [Act.put, List.setIfInBounds_toArray, List.set_cons_zero, List.set_cons_succ, i64_w, i32_w]
            rfl
          refine pure_ (i := 5) (N := some 26) (v := ?_) (a' := ?_) #[true, true, true, true, true, true, false, false, false, false] rfl rfl (any_of HT_.out (by kernel_rfl)) (fun _ _ _ h => h) (Or.inl ⟨by rfl, ?_⟩) ?_ ?_
          rotate_left
          · intro w'
            go_simp
            with_reducible rfl
          rotate_left
          · simp only [Act.put, List.setIfInBounds_toArray, List.set_cons_zero, List.set_cons_succ, i64_w, i32_w]
            rfl
          refine take_ (i := 6) (N := some 27) (v := ?_) (a' := ?_) #[true, true, true, true, true, true, true, false, false, false] rfl rfl (take_ofW HT_.out HW_.out (by kernel_rfl)) (fun _ _ _ h => h) (Or.inl ⟨by rfl, ?_⟩) hHeld ?_ ?_
          rotate_left
          · rintro w' ⟨s0_, s1_⟩
            go_simp
            with_reducible rfl
          rotate_left
          · simp only [Act.put, List.setIfInBounds_toArray, List.set_cons_zero, List.set_cons_succ, i64_w, i32_w]
            rfl
          refine pure_ (i := 7) (N := some 28) (v := ?_) (a' := ?_) #[true, true, true, true, true, true, true, true, false, false] rfl rfl (any_of HT_.out (by kernel_rfl)) (fun _ _ _ h => h) (Or.inl ⟨by rfl, ?_⟩) ?_ ?_
          rotate_left
          · intro w'
            go_simp
            with_reducible rfl
          rotate_left
          · simp only [Act.put, List.setIfInBounds_toArray, List.set_cons_zero, List.set_cons_succ, i64_w, i32_w]
            rfl
          refine pure_ (i := 8) (N := some 0) (v := ?_) (a' := ?_) #[true, true, true, true, true, true, true, true, true, false] rfl rfl (any_of HT_.out (by kernel_rfl)) (fun _ _ _ h => h) (Or.inl ⟨by rfl, ?_⟩) ?_ ?_
          rotate_left
          · intro w'
            go_simp
            with_reducible rfl
          rotate_left
          · simp only [Act.put, List.setIfInBounds_toArray, List.set_cons_zero, List.set_cons_succ, i64_w, i32_w]
            rfl
          refine pure_ (i := 9) (N := some 1) (v := ?_) (a' := ?_) #[true, true, true, true, true, true, true, true, true, true] rfl rfl (any_of HT_.out (by kernel_rfl)) (fun _ _ _ h => h) (Or.inl ⟨by rfl, ?_⟩) ?_ ?_
          rotate_left
          · intro w'
            go_simp
            with_reducible rfl
          rotate_left
          · simp only [Act.put, List.setIfInBounds_toArray, List.set_cons_zero, List.set_cons_succ, i64_w, i32_w]
            rfl
          refine done_ (done_of HT_.out (by kernel_rfl)) ?_
          clear hHeld
          have hb1 := (HB3.out.cell (World.block_lt_of_cell? W _ H1.out)).trans H1.out
          have HCALL := Aside0.mk (impl_has.calls (some ad) c0 l0 (wrap64 (x1 + d.1)) (wrap64 (y1 + d.2)) hb w3 (Kd.C_below HR.out HB3.out) HC.out HHAS.out)
          cases hb with
          | true =>
            have hn := HNX.out
            rw [if_pos rfl] at hn
            obtain rfl := Option.some.inj hn
            go_wp2_with (go_at_call 56; (with_reducible refine HCALL.out.mono ?_); rintro e w' ⟨rfl, ⟨nd3, rfl⟩⟩)
            go_ret
            exact ⟨rfl, pw_below_drewN HB3.out _⟩
          | false =>
            have hn := HNX.out
            rw [if_neg (by simp)] at hn
            have HN2 := Aside0.mk hn
            clear hn
            go_wp2_with (go_at_call 56; (with_reducible refine HCALL.out.mono ?_); rintro e w' ⟨rfl, ⟨nd3, rfl⟩⟩)
            go_roundg kq
            case measure => omega
            case rel => exact ⟨kq, _, _, Nat.le_refl _, rfl, rfl, HN2, ⟨pw_below_drewN HB3.out _⟩⟩
def wayOf (s : ByteArray) : Option (Int × Int) :=
  if s = (⟨#[117]⟩ : ByteArray) then some (0, -1) else if s = (⟨#[100]⟩ : ByteArray) then some (0, 1) else if s = (⟨#[108]⟩ : ByteArray) then some (-1, 0) else if s = (⟨#[114]⟩ : ByteArray) then some (1, 0) else none
theorem one_sz (b : UInt8) : (⟨#[b]⟩ : ByteArray).size ≤ maxLen := by show 1 ≤ maxLen; unfold maxLen; omega
theorem way_chain (W : World) (m : Nat) (h : WayAt W m []) (side : ByteArray) (d : Int × Int) (hd : wayOf side = some d) :
    ∃ W2 W3 W4 W5 : World, (Instr.mapUpdate 65 (.map (some m)) (.string (⟨#[117]⟩ : ByteArray)) (.agg #[.int .i64 0, .int .i64 (-1)])).run Tryd.prog W = .ok () W2 ∧ (Instr.mapUpdate 65 (.map (some m)) (.string (⟨#[100]⟩ : ByteArray)) (.agg #[.int .i64 0, .int .i64 1])).run Tryd.prog W2 = .ok () W3 ∧ (Instr.mapUpdate 65 (.map (some m)) (.string (⟨#[108]⟩ : ByteArray)) (.agg #[.int .i64 (-1), .int .i64 0])).run Tryd.prog W3 = .ok () W4 ∧ (Instr.mapUpdate 65 (.map (some m)) (.string (⟨#[114]⟩ : ByteArray)) (.agg #[.int .i64 1, .int .i64 0])).run Tryd.prog W4 = .ok () W5 ∧ (Instr.lookup 65 (.map (some m)) (.string side) false).run Tryd.prog W5 = .ok (.agg #[.int .i64 d.1, .int .i64 d.2]) W5 ∧
      W5.heap.size = W.heap.size ∧ (∀ (B : Nat) (a : World), B ≤ m → B ≤ W.heap.size → Below B a W → Below B a W5) ∧ ∀ b, b ≠ m → b < W.heap.size → W5.heap[b]? = W.heap[b]? := by
  obtain ⟨W2, r2, a2, g2, z2⟩ := way_put h (⟨#[117]⟩ : ByteArray) (one_sz _) (.agg #[.int .i64 0, .int .i64 (-1)]) (by simp)
  obtain ⟨W3, r3, a3, g3, z3⟩ := way_put a2 (⟨#[100]⟩ : ByteArray) (one_sz _) (.agg #[.int .i64 0, .int .i64 1]) (by intro p hp; simp at hp; rw [hp]; show (⟨#[117]⟩ : ByteArray) ≠ ⟨#[100]⟩; decide)
  obtain ⟨W4, r4, a4, g4, z4⟩ := way_put a3 (⟨#[108]⟩ : ByteArray) (one_sz _) (.agg #[.int .i64 (-1), .int .i64 0]) (by
    intro p hp
    simp at hp
    rcases hp with rfl | rfl
    · show (⟨#[117]⟩ : ByteArray) ≠ ⟨#[108]⟩; decide
    · show (⟨#[100]⟩ : ByteArray) ≠ ⟨#[108]⟩; decide)
  obtain ⟨W5, r5, a5, g5, z5⟩ := way_put a4 (⟨#[114]⟩ : ByteArray) (one_sz _) (.agg #[.int .i64 1, .int .i64 0]) (by
    intro p hp
    simp at hp
    rcases hp with rfl | rfl | rfl
    · show (⟨#[117]⟩ : ByteArray) ≠ ⟨#[114]⟩; decide
    · show (⟨#[100]⟩ : ByteArray) ≠ ⟨#[114]⟩; decide
    · show (⟨#[108]⟩ : ByteArray) ≠ ⟨#[114]⟩; decide)
  refine ⟨W2, W3, W4, W5, r2, r3, r4, r5, ?_, by omega, ?_, ?_⟩
  · have hget : ∀ (c : UInt8) (v : Value), ((⟨#[c]⟩ : ByteArray), v) ∈ [((⟨#[117]⟩ : ByteArray), Value.agg #[.int .i64 0, .int .i64 (-1)]), ((⟨#[100]⟩ : ByteArray), Value.agg #[.int .i64 0, .int .i64 1]), ((⟨#[108]⟩ : ByteArray), Value.agg #[.int .i64 (-1), .int .i64 0]), ((⟨#[114]⟩ : ByteArray), Value.agg #[.int .i64 1, .int .i64 0])] →
        (∀ p ∈ [((⟨#[117]⟩ : ByteArray), Value.agg #[.int .i64 0, .int .i64 (-1)]), ((⟨#[100]⟩ : ByteArray), Value.agg #[.int .i64 0, .int .i64 1]), ((⟨#[108]⟩ : ByteArray), Value.agg #[.int .i64 (-1), .int .i64 0]), ((⟨#[114]⟩ : ByteArray), Value.agg #[.int .i64 1, .int .i64 0])], p.1 = (⟨#[c]⟩ : ByteArray) → p.2 = v) →
        (Instr.lookup 65 (.map (some m)) (.string (⟨#[c]⟩ : ByteArray)) false).run Tryd.prog W5 = .ok v W5 :=
      fun c v h1 h2 => way_get a5 _ (one_sz _) v ⟨_, h1, rfl⟩ h2
    unfold wayOf at hd
    split at hd
    · rename_i e
      obtain rfl := Option.some.inj hd
      subst e
      refine hget 117 _ (by simp) (fun p hp e => ?_)
      simp only [List.mem_cons, List.not_mem_nil, or_false] at hp
      rcases hp with rfl | rfl | rfl | rfl
      · rfl
      · exact absurd e (by decide)
      · exact absurd e (by decide)
      · exact absurd e (by decide)
    · split at hd
      · rename_i e
        obtain rfl := Option.some.inj hd
        subst e
        refine hget 100 _ (by simp) (fun p hp e => ?_)
        simp only [List.mem_cons, List.not_mem_nil, or_false] at hp
        rcases hp with rfl | rfl | rfl | rfl
        · exact absurd e (by decide)
        · rfl
        · exact absurd e (by decide)
        · exact absurd e (by decide)
      · split at hd
        · rename_i e
          obtain rfl := Option.some.inj hd
          subst e
          refine hget 108 _ (by simp) (fun p hp e => ?_)
          simp only [List.mem_cons, List.not_mem_nil, or_false] at hp
          rcases hp with rfl | rfl | rfl | rfl
          · exact absurd e (by decide)
          · exact absurd e (by decide)
          · rfl
          · exact absurd e (by decide)
        · split at hd
          · rename_i e
            obtain rfl := Option.some.inj hd
            subst e
            refine hget 114 _ (by simp) (fun p hp e => ?_)
            simp only [List.mem_cons, List.not_mem_nil, or_false] at hp
            rcases hp with rfl | rfl | rfl | rfl
            · exact absurd e (by decide)
            · exact absurd e (by decide)
            · exact absurd e (by decide)
            · rfl
          · cases hd
  · intro B a hBm hBW hB
    have e2 := hB.grown g2 hBW (fun k e => by injection e with e; omega)
    have e3 := e2.grown g3 (by omega) (fun k e => by injection e with e; omega)
    have e4 := e3.grown g4 (by omega) (fun k e => by injection e with e; omega)
    exact e4.grown g5 (by omega) (fun k e => by injection e with e; omega)
  · intro b hb hlt
    have hne : ∀ (r : Option Nat), r = some m → r ≠ some b := fun r e1 e2 => by rw [e1] at e2; injection e2 with e2; omega
    exact (g5.block b (by omega) (fun e => hb (by injection e))).trans ((g4.block b (by omega) (fun e => hb (by injection e))).trans ((g3.block b (by omega) (fun e => hb (by injection e))).trans (g2.block b (by omega) (fun e => hb (by injection e)))))
def impl_shone.f (k : Nat) (l0 : List ByteArray) (a1 : ByteArray) : Option (List ByteArray) :=
  if 0 < l0.length then (wayOf a1).bind fun d => (impl_spots.f (rayF l0 d 12) k l0 0).bind fun L => impl_without.f k l0 L else none
theorem impl_shone.mono : ∀ a0 a1 k, LeO (impl_shone.f k a0 a1) (impl_shone.f (k + 1) a0 a1) := fun _ _ _ => LeO.ite (LeO.bind (LeO.refl _) (fun d => LeO.bind (impl_spots.mono _ _ _ _) (fun L => impl_without.mono _ _ _))) (LeO.refl _)
set_option maxHeartbeats 4000000 in
set_option maxRecDepth 100000 in
theorem impl_shone.calls (k : Nat) (A0 : Option Addr) (c0 : Nat) (l0 : List ByteArray) (a1 : ByteArray) (r : List ByteArray) (w : World) (hr0 : Kd.string.C w A0 l0.length l0) (hc0 : l0.length ≤ c0) (h : impl_shone.f k l0 a1 = some r) :
    Calls Tryd.prog 33 #[.slice A0 l0.length c0, .string a1] w fun e w' => ∃ v0_ : Value, e = .returned (v0_) ∧ Kd.R Kd.string 9 w' w.heap.size (fun _ => True) v0_ r ∧ Below w.heap.size w w' := by
  unfold impl_shone.f at h
  split at h
  case isFalse => cases h
  case isTrue h0 =>
  obtain ⟨d, hd, h⟩ := Option.bind_eq_some_iff.mp h
  obtain ⟨L, hL, h⟩ := Option.bind_eq_some_iff.mp h
  have hmk : ∀ W : World, (Instr.makeMap 65 none).run Tryd.prog W = .ok (.map (some W.heap.size)) (W.alloc (.map #[] 0)) := fun W => run_makeMap _ W
  have hW : WayAt ((w.alloc (.cells #[.slice A0 l0.length c0] 22)).alloc (.map #[] 0)) (w.heap.size + 1) [] := ⟨by simp, #[], 0, by
    have e : (w.alloc (.cells #[.slice A0 l0.length c0] 22)).heap.size = w.heap.size + 1 := by simp
    show ((w.alloc (.cells #[.slice A0 l0.length c0] 22)).heap.push (.map #[] 0))[w.heap.size + 1]? = _
    rw [← e]
    exact Array.getElem?_push_size, rfl⟩
  obtain ⟨W2, W3, W4, W5, r2, r3, r4, r5, rl, hz, hBB, hcell⟩ := way_chain _ _ hW a1 d hd
  have hz' : W5.heap.size = w.heap.size + 2 := by rw [hz]; simp
  have hb1 : Below w.heap.size w W5 := hBB w.heap.size w (by omega) (by simp; omega) (((Below.refl _ w).alloc (Nat.le_refl _) _).alloc (by simp) _)
  have hbox : W5.cell? ⟨w.heap.size, 0, none⟩ = some (.slice A0 l0.length c0) := (World.cell?_of_block (a := ⟨w.heap.size, 0, none⟩) (hcell w.heap.size (by omega) (by simp; omega))).trans (by simp)
  have HB5 := Aside0.mk (show Below w.heap.size w (W5.alloc (.cells #[.int .i64 d.1, .int .i64 d.2] 64)) from hb1.alloc (by omega) _)
  have HX5 := Aside0.mk (show (W5.alloc (.cells #[.int .i64 d.1, .int .i64 d.2] 64)).cell? ⟨w.heap.size, 0, none⟩ = some (.slice A0 l0.length c0) from (((Below.refl _ W5).alloc (Nat.le_refl _) _).cell (World.block_lt_of_cell? W5 _ hbox)).trans hbox)
  have HY5 := Aside0.mk (show (W5.alloc (.cells #[.int .i64 d.1, .int .i64 d.2] 64)).cell? ⟨W5.heap.size, 0, none⟩ = some (.int .i64 d.1) ∧ (W5.alloc (.cells #[.int .i64 d.1, .int .i64 d.2] 64)).cell? ⟨W5.heap.size, 1, none⟩ = some (.int .i64 d.2) by constructor <;> simp)
  have HR0 := Aside0.mk hr0
  have HC0 := Aside0.mk hc0
  have HL0 := Aside0.mk h0
  have HLL := Aside0.mk hL
  have HRES := Aside0.mk h
  have HZ := Aside0.mk hz'
  clear hr0 hc0 h0 hL h hz hz' hBB hcell hb1 hbox hW hd
  go_enter Tryd.func33, Tryd.ntmps33
  go_wp2
  clear r2 r3 r4 r5 rl hmk
  refine start_ (n := 6) (S := fun w' => w'.cell? ⟨w.heap.size, 0, none⟩ = some (.slice A0 l0.length c0)) (ds := []) #[false, false, false, false, false, false] (by kernel_rfl) rfl rfl HX5.out (fun hHeld => ?_); refine with_tabW shone.tab2 shone.bits2 (fun HT_ HW_ => ?_)
  have HBd := Aside0.mk (below_drew1 HB5.out)
  have HXd := Aside0.mk (show ((W5.alloc (.cells #[.int .i64 d.1, .int .i64 d.2] 64)).drew).cell? ⟨w.heap.size, 0, none⟩ = some (.slice A0 l0.length c0) from HX5.out)
  have HYd := Aside0.mk (show ((W5.alloc (.cells #[.int .i64 d.1, .int .i64 d.2] 64)).drew).cell? ⟨W5.heap.size, 0, none⟩ = some (.int .i64 d.1) ∧ ((W5.alloc (.cells #[.int .i64 d.1, .int .i64 d.2] 64)).drew).cell? ⟨W5.heap.size, 1, none⟩ = some (.int .i64 d.2) from HY5.out)
  clear HB5 HX5 HY5
  generalize (W5.alloc (.cells #[.int .i64 d.1, .int .i64 d.2] 64)).drew = w3 at HBd HXd HYd hHeld ⊢
  refine take_ (i := 0) (N := some 14) (v := ?_) (a' := ?_) #[true, false, false, false, false, false] rfl rfl (take_ofW HT_.out HW_.out (by kernel_rfl)) (fun _ _ _ h => h) (Or.inl ⟨by rfl, ?_⟩) hHeld ?_ ?_
  rotate_left
  · rintro w' s0_
    go_simp
    with_reducible rfl
  rotate_left
  · simp only [Act.put, List.setIfInBounds_toArray, List.set_cons_zero, List.set_cons_succ, i64_w, i32_w]
    rfl
  refine take_ (i := 1) (N := some 15) (v := ?_) (a' := ?_) #[true, true, false, false, false, false] rfl rfl (take_ofW HT_.out HW_.out (by kernel_rfl)) (fun _ _ _ h => h) (Or.inl ⟨by rfl, ?_⟩) hHeld ?_ ?_
  rotate_left
  · rintro w' s0_
    go_simp
    with_reducible rfl
  rotate_left
  · simp only [Act.put, List.setIfInBounds_toArray, List.set_cons_zero, List.set_cons_succ, i64_w, i32_w]
    rfl
  refine pure_ (i := 2) (N := some 16) (v := ?_) (a' := ?_) #[true, true, true, false, false, false] rfl rfl (any_of HT_.out (by kernel_rfl)) (fun _ _ _ h => h) (Or.inl ⟨by rfl, ?_⟩) ?_ ?_
  rotate_left
  · intro w'
    go_simp
    with_reducible rfl
  rotate_left
  · simp only [Act.put, List.setIfInBounds_toArray, List.set_cons_zero, List.set_cons_succ, i64_w, i32_w]
    rfl
  refine one_ (i := 3) (N := some 17) #[true, true, true, true, false, false] rfl rfl (one_of HT_.out (by kernel_rfl)) (by decide) (fun K hK => ?_)
  refine goes_ Tryd.func42 (by kernel_rfl) rfl #[.slice A0 l0.length c0, .func (.func 54) #[] #[.pointer (some ⟨w.heap.size, 0, none⟩), .pointer (some ⟨W5.heap.size, 0, none⟩)]] (by rfl) rfl rfl (by (try simp only [List.map_toArray, List.map_cons, List.map_nil]); first | done | rfl) ?_
  refine (impl_spots.calls (rayF l0 d 12) 54 #[.pointer (some ⟨w.heap.size, 0, none⟩), .pointer (some ⟨W5.heap.size, 0, none⟩)] (enters_of Tryd.func54 (by kernel_rfl) rfl) k A0 c0 l0 0 L w3
    (fun W x y b hW hp => shone_pred A0 c0 l0 d 12 x y b _ _ W ((hW.cell (World.block_lt_of_cell? w3 _ HXd.out)).trans HXd.out) ((hW.cell (World.block_lt_of_cell? w3 ⟨W5.heap.size, 0, none⟩ HYd.out.1)).trans HYd.out.1) ((hW.cell (World.block_lt_of_cell? w3 ⟨W5.heap.size, 1, none⟩ HYd.out.2)).trans HYd.out.2) (Kd.C_below (Kd.C_below HR0.out HBd.out) hW) HC0.out HL0.out hp)
    (Kd.C_below HR0.out HBd.out) HC0.out HLL.out).mono ?_
  rintro e w4 ⟨v17, rfl, ho4, hb4⟩
  refine ⟨_, rfl, ?_⟩
  obtain ⟨Ah, ch, eh⟩ := Kd.S_slice ho4
  subst eh
  have HB4 := Aside0.mk (HBd.out.trans (hb4.mono HBd.out.size))
  have HWO := Aside0.mk (impl_without.calls k A0 c0 l0 Ah ch L r w4 (Kd.C_below HR0.out HB4.out) HC0.out (Kd.S_reads' ho4).2.2 (Kd.S_reads' ho4).2.1 HRES.out)
  have hHeld4 := Aside0.mk ((hb4.cell (World.block_lt_of_cell? w3 _ hHeld)).trans hHeld)
  clear ho4 hb4
  refine hK.out _ _ hHeld4.out (fun _ => ?_)
  clear hK K hHeld
  refine norm_ (a' := ?_) ?_ ?_
  rotate_left
  · show Act.put _ (some 17) _ = _
    simp only [Act.put, List.setIfInBounds_toArray, List.set_cons_zero, List.set_cons_succ, i64_w, i32_w]
    rfl
  have hHeld := hHeld4.out
  refine one_ (i := 4) (N := some 18) #[true, true, true, true, true, false] rfl rfl (one_of HT_.out (by kernel_rfl)) (by decide) (fun K hK => ?_)
  refine goes_ Tryd.func49 (by kernel_rfl) rfl #[.slice A0 l0.length c0, .slice Ah L.length ch] (by rfl) rfl rfl (by (try simp only [List.map_toArray, List.map_cons, List.map_nil]); first | done | rfl) ?_
  refine HWO.out.mono ?_
  rintro e w5 ⟨v18, rfl, ho5, hb5⟩
  refine ⟨_, rfl, ?_⟩
  have HB6 := Aside0.mk (HB4.out.trans (hb5.mono HB4.out.size))
  have HO5 := Aside0.mk (Kd.R_lower ho5 HB4.out.size)
  refine hK.out _ _ ((hb5.cell (World.block_lt_of_cell? w4 _ hHeld)).trans hHeld) (fun _ => ?_)
  clear hK K hHeld ho5 hb5
  refine norm_ (a' := ?_) ?_ ?_
  rotate_left
  · show Act.put _ (some 18) _ = _
    simp only [Act.put, List.setIfInBounds_toArray, List.set_cons_zero, List.set_cons_succ, i64_w, i32_w]
    rfl
  refine pure_ (i := 5) (N := some 4) (v := ?_) (a' := ?_) #[true, true, true, true, true, true] rfl rfl (any_of HT_.out (by kernel_rfl)) (fun _ _ _ h => h) (Or.inl ⟨by rfl, ?_⟩) ?_ ?_
  rotate_left
  · intro w'
    go_simp
    with_reducible rfl
  rotate_left
  · simp only [Act.put, List.setIfInBounds_toArray, List.set_cons_zero, List.set_cons_succ, i64_w, i32_w]
    rfl
  refine done_ (done_of HT_.out (by kernel_rfl)) ?_
  go_wp2
  go_ret
  exact ⟨_, rfl, HO5.out, HB6.out⟩

end Go.Proofs.YtaocnjaeaiacmaaDoor.R
