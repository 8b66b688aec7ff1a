/- put, Encode, the reference's Encode, Told. -/
import Derived.Test.YtgfkcbckddpbaaaDoorUtfE
import Derived.Test.YtgfkcbckddpbaaaDoorLib2
namespace Go.Proofs.YtgfkcbckddpbaaaDoor
open Go.RowKit
set_option linter.unusedSimpArgs false
set_option linter.unusedVariables false

theorem U.or192 : ∀ x : Fin 32, bits BinOp.or IntKind.u8 192 ((x.val : Nat) : Int) = 192 + ((x.val : Nat) : Int) := by decide +kernel
theorem U.or224 : ∀ x : Fin 16, bits BinOp.or IntKind.u8 224 ((x.val : Nat) : Int) = 224 + ((x.val : Nat) : Int) := by decide +kernel
theorem U.or240 : ∀ x : Fin 8, bits BinOp.or IntKind.u8 240 ((x.val : Nat) : Int) = 240 + ((x.val : Nat) : Int) := by decide +kernel
theorem U.or0 : ∀ x : Fin 128, bits BinOp.or IntKind.u8 0 ((x.val : Nat) : Int) = ((x.val : Nat) : Int) := by decide +kernel
theorem U.or128 : ∀ x : Fin 64, bits BinOp.or IntKind.u8 128 ((x.val : Nat) : Int) = 128 + ((x.val : Nat) : Int) := by decide +kernel
theorem U.or192i (x : Int) (h1 : 0 ≤ x) (h2 : x < 32) : bits BinOp.or IntKind.u8 192 x = 192 + x := by
  obtain ⟨n, rfl⟩ := Int.eq_ofNat_of_zero_le h1
  exact U.or192 ⟨n, by omega⟩
theorem U.or224i (x : Int) (h1 : 0 ≤ x) (h2 : x < 16) : bits BinOp.or IntKind.u8 224 x = 224 + x := by
  obtain ⟨n, rfl⟩ := Int.eq_ofNat_of_zero_le h1
  exact U.or224 ⟨n, by omega⟩
theorem U.or240i (x : Int) (h1 : 0 ≤ x) (h2 : x < 8) : bits BinOp.or IntKind.u8 240 x = 240 + x := by
  obtain ⟨n, rfl⟩ := Int.eq_ofNat_of_zero_le h1
  exact U.or240 ⟨n, by omega⟩
theorem U.or0i (x : Int) (h1 : 0 ≤ x) (h2 : x < 128) : bits BinOp.or IntKind.u8 0 x = x := by
  obtain ⟨n, rfl⟩ := Int.eq_ofNat_of_zero_le h1
  exact U.or0 ⟨n, by omega⟩
theorem U.or128i (x : Int) (h1 : 0 ≤ x) (h2 : x < 64) : bits BinOp.or IntKind.u8 128 x = 128 + x := by
  obtain ⟨n, rfl⟩ := Int.eq_ofNat_of_zero_le h1
  exact U.or128 ⟨n, by omega⟩
theorem U.wrapB (x : Int) (h1 : 0 ≤ x) (h2 : x < 256) : IntKind.u8.wrap x = x := by
  exact IntWalk.u8_in x (by omega)

def bytesV (l : List UInt8) : List Value := l.map fun b => Value.int .u8 (b.toNat : Int)

set_option maxRecDepth 100000 in
set_option maxHeartbeats 1000000 in
theorem U.put_1 (c : Int) (v : Value) (n base : Nat) (xs : List Value) (w : World) (h1 : 0 ≤ c) (h2 : c < 128) (hc : U.isC c = true) (hH : Heads w) (hown : w.ownsRow base 5 1 v n xs) (hn : n ≤ 1000000000000) (hbase : base ≤ w.heap.size) :
    Calls Tryd.prog 49 #[v, .int .i32 c] w fun e w' => ∃ v', e = .returned v' ∧ w'.ownsRow base 5 1 v' (n + 1) (xs ++ [.int .u8 (c)]) ∧ Below base w w' := by
  have hw : U.width c = 1 := by unfold U.width; grind
  have HW := Lib.hid hw
  clear hw hc
  have m0 := hH.cell 0
  have m1 := hH.cell 1
  have m2 := hH.cell 2
  simp [U.row] at m0 m1 m2
  obtain ⟨i0, hi, hz0, hz1, hz2⟩ := info_parts infoByte
  go_enter Tryd.func49, Tryd.ntmps49
  go_wp2_with fail
  refine (U.width_any _ _ (by omega) (by omega) hH).mono ?_
  rintro e w' ⟨rfl, rfl⟩
  rw [HW.out]
  go_wp2
  have hwr := U.wrapB (c) (by omega) (by omega)
  have hor := U.or0i (c) (by omega) (by omega)
  have ew1 : IntKind.i64.wrap 0 = 0 := by decide
  have ew6 : IntKind.i64.wrap 0 = 0 := by decide
  have hne : v.ownBlock ≠ some w.heap.size := fun h => by have := (hown.lt _ h).2; omega
  go_region_held3 (fun w' => w'.cell? ⟨w.heap.size, 0, none⟩ = some (.int .u8 0)) (first | go_keep | (rw [hgrow.cell_far _ (by simp; omega) (Ne.symm hne)]; assumption))
    ((refine step_push1 _ rfl _ _ _ rfl base 5 i0 _ 1 Tryd.underlying23 hi hz0 hz1 hz2 rfl v n xs rfl (((hown.alloc _).alloc _).drew) _ rfl (w.heap.size + 1) rfl (cell1 _ _ _ _ (size_alloc1 _ _)) (by simp only [maxLen]; omega) (by omega) (by simp; omega) ?_; intro v1 w1 hown1 hbel1 hgrow))
  have hb1 : Below base w w1 := (((Below.refl _ _).alloc hbase _).alloc (by simp; omega) _).drew.trans hbel1
  have hs1 := hb1.size
  clear hgrow hbel1 hwr hor ew1 ew6
  go_wp2
  go_loopw [7, 0] (fun i v wr => Below base w wr ∧ ((i = .int .i64 (-1) ∧ wr.ownsRow base 5 1 v (n + 1) (xs ++ [.int .u8 (c)])))) (fun i _ _ => (intOf i + 1).toNat)
  case atStart => exact ⟨hb1, ⟨rfl, hown1⟩⟩
  case round =>
    obtain ⟨hbel, hrel⟩ := hrel
    have hsz := hbel.size
    rcases hrel with ⟨rfl, hownr⟩
    · go_wp2
      go_ret
      exact ⟨_, rfl, hownr, hbel⟩

set_option maxRecDepth 100000 in
set_option maxHeartbeats 1000000 in
theorem U.put_2 (c : Int) (v : Value) (n base : Nat) (xs : List Value) (w : World) (h1 : 128 ≤ c) (h2 : c < 2048) (hc : U.isC c = true) (hH : Heads w) (hown : w.ownsRow base 5 1 v n xs) (hn : n ≤ 1000000000000) (hbase : base ≤ w.heap.size) :
    Calls Tryd.prog 49 #[v, .int .i32 c] w fun e w' => ∃ v', e = .returned v' ∧ w'.ownsRow base 5 1 v' (n + 2) (xs ++ [.int .u8 (192 + c / 64), .int .u8 (128 + c % 64)]) ∧ Below base w w' := by
  have hw : U.width c = 2 := by unfold U.width; grind
  have HW := Lib.hid hw
  clear hw hc
  have m0 := hH.cell 3
  have m1 := hH.cell 4
  have m2 := hH.cell 5
  simp [U.row] at m0 m1 m2
  obtain ⟨i0, hi, hz0, hz1, hz2⟩ := info_parts infoByte
  go_enter Tryd.func49, Tryd.ntmps49
  go_wp2_with fail
  refine (U.width_any _ _ (by omega) (by omega) hH).mono ?_
  rintro e w' ⟨rfl, rfl⟩
  rw [HW.out]
  go_wp2
  have hwr := U.wrapB (c / 64) (by omega) (by omega)
  have hor := U.or192i (c / 64) (by omega) (by omega)
  have ew1 : IntKind.i64.wrap 1 = 1 := by decide
  have ew6 : IntKind.i64.wrap 6 = 6 := by decide
  have hne : v.ownBlock ≠ some w.heap.size := fun h => by have := (hown.lt _ h).2; omega
  go_region_held3 (fun w' => w'.cell? ⟨w.heap.size, 0, none⟩ = some (.int .u8 192)) (first | go_keep | (rw [hgrow.cell_far _ (by simp; omega) (Ne.symm hne)]; assumption))
    ((refine step_push1 _ rfl _ _ _ rfl base 5 i0 _ 1 Tryd.underlying23 hi hz0 hz1 hz2 rfl v n xs rfl (((hown.alloc _).alloc _).drew) _ rfl (w.heap.size + 1) rfl (cell1 _ _ _ _ (size_alloc1 _ _)) (by simp only [maxLen]; omega) (by omega) (by simp; omega) ?_; intro v1 w1 hown1 hbel1 hgrow))
  have hb1 : Below base w w1 := (((Below.refl _ _).alloc hbase _).alloc (by simp; omega) _).drew.trans hbel1
  have hs1 := hb1.size
  clear hgrow hbel1 hwr hor ew1 ew6
  go_wp2
  go_loopw [7, 0] (fun i v wr => Below base w wr ∧ ((i = .int .i64 0 ∧ wr.ownsRow base 5 1 v (n + 1) (xs ++ [.int .u8 (192 + c / 64)])) ∨ (i = .int .i64 (-1) ∧ wr.ownsRow base 5 1 v (n + 2) (xs ++ [.int .u8 (192 + c / 64), .int .u8 (128 + c % 64)])))) (fun i _ _ => (intOf i + 1).toNat)
  case atStart => exact ⟨hb1, .inl ⟨rfl, hown1⟩⟩
  case round =>
    obtain ⟨hbel, hrel⟩ := hrel
    have hsz := hbel.size
    rcases hrel with ⟨rfl, hownr⟩ | ⟨rfl, hownr⟩
    · go_wp2_with (at_builtin; refine wpList_push1 _ rfl _ _ _ rfl base 5 i0 _ 1 Tryd.underlying23 hi hz0 hz1 hz2 rfl _ (n + 1) _ rfl hownr _ rfl rfl (by simp only [maxLen]; omega) (by omega) (by omega) ?_; intro v1 w2 hown2 hb2)
      rw [List.append_assoc] at hown2
      exact ⟨⟨hbel.trans hb2, .inr (⟨rfl, hown2⟩)⟩, by simp [intOf]⟩
    · go_wp2
      go_ret
      exact ⟨_, rfl, hownr, hbel⟩

set_option maxRecDepth 100000 in
set_option maxHeartbeats 1000000 in
theorem U.put_3 (c : Int) (v : Value) (n base : Nat) (xs : List Value) (w : World) (h1 : 2048 ≤ c) (h2 : c < 65536) (hc : U.isC c = true) (hH : Heads w) (hown : w.ownsRow base 5 1 v n xs) (hn : n ≤ 1000000000000) (hbase : base ≤ w.heap.size) :
    Calls Tryd.prog 49 #[v, .int .i32 c] w fun e w' => ∃ v', e = .returned v' ∧ w'.ownsRow base 5 1 v' (n + 3) (xs ++ [.int .u8 (224 + c / 4096), .int .u8 (128 + c / 64 % 64), .int .u8 (128 + c % 64)]) ∧ Below base w w' := by
  have hw : U.width c = 3 := by unfold U.width; grind
  have HW := Lib.hid hw
  clear hw hc
  have m0 := hH.cell 6
  have m1 := hH.cell 7
  have m2 := hH.cell 8
  simp [U.row] at m0 m1 m2
  obtain ⟨i0, hi, hz0, hz1, hz2⟩ := info_parts infoByte
  go_enter Tryd.func49, Tryd.ntmps49
  go_wp2_with fail
  refine (U.width_any _ _ (by omega) (by omega) hH).mono ?_
  rintro e w' ⟨rfl, rfl⟩
  rw [HW.out]
  go_wp2
  have hwr := U.wrapB (c / 4096) (by omega) (by omega)
  have hor := U.or224i (c / 4096) (by omega) (by omega)
  have ew1 : IntKind.i64.wrap 2 = 2 := by decide
  have ew6 : IntKind.i64.wrap 12 = 12 := by decide
  have hne : v.ownBlock ≠ some w.heap.size := fun h => by have := (hown.lt _ h).2; omega
  go_region_held3 (fun w' => w'.cell? ⟨w.heap.size, 0, none⟩ = some (.int .u8 224)) (first | go_keep | (rw [hgrow.cell_far _ (by simp; omega) (Ne.symm hne)]; assumption))
    ((refine step_push1 _ rfl _ _ _ rfl base 5 i0 _ 1 Tryd.underlying23 hi hz0 hz1 hz2 rfl v n xs rfl (((hown.alloc _).alloc _).drew) _ rfl (w.heap.size + 1) rfl (cell1 _ _ _ _ (size_alloc1 _ _)) (by simp only [maxLen]; omega) (by omega) (by simp; omega) ?_; intro v1 w1 hown1 hbel1 hgrow))
  have hb1 : Below base w w1 := (((Below.refl _ _).alloc hbase _).alloc (by simp; omega) _).drew.trans hbel1
  have hs1 := hb1.size
  clear hgrow hbel1 hwr hor ew1 ew6
  go_wp2
  go_loopw [7, 0] (fun i v wr => Below base w wr ∧ ((i = .int .i64 1 ∧ wr.ownsRow base 5 1 v (n + 1) (xs ++ [.int .u8 (224 + c / 4096)])) ∨ (i = .int .i64 0 ∧ wr.ownsRow base 5 1 v (n + 2) (xs ++ [.int .u8 (224 + c / 4096), .int .u8 (128 + c / 64 % 64)])) ∨ (i = .int .i64 (-1) ∧ wr.ownsRow base 5 1 v (n + 3) (xs ++ [.int .u8 (224 + c / 4096), .int .u8 (128 + c / 64 % 64), .int .u8 (128 + c % 64)])))) (fun i _ _ => (intOf i + 1).toNat)
  case atStart => exact ⟨hb1, .inl ⟨rfl, hown1⟩⟩
  case round =>
    obtain ⟨hbel, hrel⟩ := hrel
    have hsz := hbel.size
    rcases hrel with ⟨rfl, hownr⟩ | ⟨rfl, hownr⟩ | ⟨rfl, hownr⟩
    · go_wp2_with (at_builtin; refine wpList_push1 _ rfl _ _ _ rfl base 5 i0 _ 1 Tryd.underlying23 hi hz0 hz1 hz2 rfl _ (n + 1) _ rfl hownr _ rfl rfl (by simp only [maxLen]; omega) (by omega) (by omega) ?_; intro v1 w2 hown2 hb2)
      rw [List.append_assoc] at hown2
      exact ⟨⟨hbel.trans hb2, .inr (.inl ⟨rfl, hown2⟩)⟩, by simp [intOf]⟩
    · go_wp2_with (at_builtin; refine wpList_push1 _ rfl _ _ _ rfl base 5 i0 _ 1 Tryd.underlying23 hi hz0 hz1 hz2 rfl _ (n + 2) _ rfl hownr _ rfl rfl (by simp only [maxLen]; omega) (by omega) (by omega) ?_; intro v1 w2 hown2 hb2)
      rw [List.append_assoc] at hown2
      exact ⟨⟨hbel.trans hb2, .inr (.inr (⟨rfl, hown2⟩))⟩, by simp [intOf]⟩
    · go_wp2
      go_ret
      exact ⟨_, rfl, hownr, hbel⟩

set_option maxRecDepth 100000 in
set_option maxHeartbeats 1000000 in
theorem U.put_4 (c : Int) (v : Value) (n base : Nat) (xs : List Value) (w : World) (h1 : 65536 ≤ c) (h2 : c ≤ 1114111) (hc : U.isC c = true) (hH : Heads w) (hown : w.ownsRow base 5 1 v n xs) (hn : n ≤ 1000000000000) (hbase : base ≤ w.heap.size) :
    Calls Tryd.prog 49 #[v, .int .i32 c] w fun e w' => ∃ v', e = .returned v' ∧ w'.ownsRow base 5 1 v' (n + 4) (xs ++ [.int .u8 (240 + c / 262144), .int .u8 (128 + c / 4096 % 64), .int .u8 (128 + c / 64 % 64), .int .u8 (128 + c % 64)]) ∧ Below base w w' := by
  have hw : U.width c = 4 := by unfold U.width; grind
  have HW := Lib.hid hw
  clear hw hc
  have m0 := hH.cell 9
  have m1 := hH.cell 10
  have m2 := hH.cell 11
  simp [U.row] at m0 m1 m2
  obtain ⟨i0, hi, hz0, hz1, hz2⟩ := info_parts infoByte
  go_enter Tryd.func49, Tryd.ntmps49
  go_wp2_with fail
  refine (U.width_any _ _ (by omega) (by omega) hH).mono ?_
  rintro e w' ⟨rfl, rfl⟩
  rw [HW.out]
  go_wp2
  have hwr := U.wrapB (c / 262144) (by omega) (by omega)
  have hor := U.or240i (c / 262144) (by omega) (by omega)
  have ew1 : IntKind.i64.wrap 3 = 3 := by decide
  have ew6 : IntKind.i64.wrap 18 = 18 := by decide
  have hne : v.ownBlock ≠ some w.heap.size := fun h => by have := (hown.lt _ h).2; omega
  go_region_held3 (fun w' => w'.cell? ⟨w.heap.size, 0, none⟩ = some (.int .u8 240)) (first | go_keep | (rw [hgrow.cell_far _ (by simp; omega) (Ne.symm hne)]; assumption))
    ((refine step_push1 _ rfl _ _ _ rfl base 5 i0 _ 1 Tryd.underlying23 hi hz0 hz1 hz2 rfl v n xs rfl (((hown.alloc _).alloc _).drew) _ rfl (w.heap.size + 1) rfl (cell1 _ _ _ _ (size_alloc1 _ _)) (by simp only [maxLen]; omega) (by omega) (by simp; omega) ?_; intro v1 w1 hown1 hbel1 hgrow))
  have hb1 : Below base w w1 := (((Below.refl _ _).alloc hbase _).alloc (by simp; omega) _).drew.trans hbel1
  have hs1 := hb1.size
  clear hgrow hbel1 hwr hor ew1 ew6
  go_wp2
  go_loopw [7, 0] (fun i v wr => Below base w wr ∧ ((i = .int .i64 2 ∧ wr.ownsRow base 5 1 v (n + 1) (xs ++ [.int .u8 (240 + c / 262144)])) ∨ (i = .int .i64 1 ∧ wr.ownsRow base 5 1 v (n + 2) (xs ++ [.int .u8 (240 + c / 262144), .int .u8 (128 + c / 4096 % 64)])) ∨ (i = .int .i64 0 ∧ wr.ownsRow base 5 1 v (n + 3) (xs ++ [.int .u8 (240 + c / 262144), .int .u8 (128 + c / 4096 % 64), .int .u8 (128 + c / 64 % 64)])) ∨ (i = .int .i64 (-1) ∧ wr.ownsRow base 5 1 v (n + 4) (xs ++ [.int .u8 (240 + c / 262144), .int .u8 (128 + c / 4096 % 64), .int .u8 (128 + c / 64 % 64), .int .u8 (128 + c % 64)])))) (fun i _ _ => (intOf i + 1).toNat)
  case atStart => exact ⟨hb1, .inl ⟨rfl, hown1⟩⟩
  case round =>
    obtain ⟨hbel, hrel⟩ := hrel
    have hsz := hbel.size
    rcases hrel with ⟨rfl, hownr⟩ | ⟨rfl, hownr⟩ | ⟨rfl, hownr⟩ | ⟨rfl, hownr⟩
    · go_wp2_with (at_builtin; refine wpList_push1 _ rfl _ _ _ rfl base 5 i0 _ 1 Tryd.underlying23 hi hz0 hz1 hz2 rfl _ (n + 1) _ rfl hownr _ rfl rfl (by simp only [maxLen]; omega) (by omega) (by omega) ?_; intro v1 w2 hown2 hb2)
      rw [List.append_assoc] at hown2
      exact ⟨⟨hbel.trans hb2, .inr (.inl ⟨rfl, hown2⟩)⟩, by simp [intOf]⟩
    · go_wp2_with (at_builtin; refine wpList_push1 _ rfl _ _ _ rfl base 5 i0 _ 1 Tryd.underlying23 hi hz0 hz1 hz2 rfl _ (n + 2) _ rfl hownr _ rfl rfl (by simp only [maxLen]; omega) (by omega) (by omega) ?_; intro v1 w2 hown2 hb2)
      rw [List.append_assoc] at hown2
      exact ⟨⟨hbel.trans hb2, .inr (.inr (.inl ⟨rfl, hown2⟩))⟩, by simp [intOf]⟩
    · go_wp2_with (at_builtin; refine wpList_push1 _ rfl _ _ _ rfl base 5 i0 _ 1 Tryd.underlying23 hi hz0 hz1 hz2 rfl _ (n + 3) _ rfl hownr _ rfl rfl (by simp only [maxLen]; omega) (by omega) (by omega) ?_; intro v1 w2 hown2 hb2)
      rw [List.append_assoc] at hown2
      exact ⟨⟨hbel.trans hb2, .inr (.inr (.inr (⟨rfl, hown2⟩)))⟩, by simp [intOf]⟩
    · go_wp2
      go_ret
      exact ⟨_, rfl, hownr, hbel⟩

theorem U.u8v (x : Int) (h0 : 0 ≤ x) (h1 : x < 256) : Value.int .u8 (((U.u8 x).toNat : Nat) : Int) = .int .u8 x := by rw [U.u8_toNat x h0 h1]

theorem U.put_any (c : Int) (v : Value) (n base : Nat) (xs : List Value) (w : World) (hc : U.isC c = true) (hH : Heads w) (hown : w.ownsRow base 5 1 v n xs) (hn : n ≤ 1000000000000) (hbase : base ≤ w.heap.size) :
    Calls Tryd.prog 49 #[v, .int .i32 c] w fun e w' => ∃ v', e = .returned v' ∧ w'.ownsRow base 5 1 v' (n + (U.enc c).length) (xs ++ bytesV (U.enc c)) ∧ Below base w w' := by
  obtain ⟨h1, h2, h3⟩ := (U.isC_iff c).1 hc
  unfold U.enc bytesV
  by_cases c1 : c < 128
  · rw [if_pos c1]
    simp only [List.map_cons, List.map_nil, List.length_cons, List.length_nil]
    rw [U.u8v c (by omega) (by omega)]
    exact U.put_1 c v n base xs w h1 c1 hc hH hown hn hbase
  · by_cases c2 : c < 2048
    · rw [if_neg c1, if_pos c2]
      simp only [List.map_cons, List.map_nil, List.length_cons, List.length_nil]
      rw [U.u8v (192 + c / 64) (by omega) (by omega), U.u8v (128 + c % 64) (by omega) (by omega)]
      exact U.put_2 c v n base xs w (by omega) c2 hc hH hown hn hbase
    · by_cases c3 : c < 65536
      · rw [if_neg c1, if_neg c2, if_pos c3]
        simp only [List.map_cons, List.map_nil, List.length_cons, List.length_nil]
        rw [U.u8v (224 + c / 4096) (by omega) (by omega), U.u8v (128 + c / 64 % 64) (by omega) (by omega), U.u8v (128 + c % 64) (by omega) (by omega)]
        exact U.put_3 c v n base xs w (by omega) c3 hc hH hown hn hbase
      · rw [if_neg c1, if_neg c2, if_neg c3]
        simp only [List.map_cons, List.map_nil, List.length_cons, List.length_nil]
        rw [U.u8v (240 + c / 262144) (by omega) (by omega), U.u8v (128 + c / 4096 % 64) (by omega) (by omega), U.u8v (128 + c / 64 % 64) (by omega) (by omega), U.u8v (128 + c % 64) (by omega) (by omega)]
        exact U.put_4 c v n base xs w (by omega) h2 hc hH hown hn hbase
end Go.Proofs.YtgfkcbckddpbaaaDoor
