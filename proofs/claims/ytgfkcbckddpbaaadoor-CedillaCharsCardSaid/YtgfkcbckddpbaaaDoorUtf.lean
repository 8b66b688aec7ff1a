/- The layer utf: what each function answers, by walking its text. The table 'heads' is a premise on the world. -/
import Derived.Test.YtgfkcbckddpbaaaDoorLib
import Derived.Test.YtgfkcbckddpbaaaDoorUtfPlain
import Derived.BigQuiet
import Derived.Deep.QuietTactic
namespace Go.Proofs.YtgfkcbckddpbaaaDoor
open Go.RowKit
set_option linter.unusedSimpArgs false
set_option linter.unusedVariables false

def U.row : Array Value := #[.int .u8 0, .int .u8 127, .int .i32 0, .int .u8 192, .int .u8 31, .int .i32 128, .int .u8 224, .int .u8 15, .int .i32 2048, .int .u8 240, .int .u8 7, .int .i32 65536]
def Heads (w : World) : Prop := ∃ t fr, w.heap[0]? = some (.cells U.row t fr)
theorem Heads.lt {w : World} (h : Heads w) : 0 < w.heap.size := by
  obtain ⟨t, fr, h⟩ := h
  rcases Nat.lt_or_ge 0 w.heap.size with hlt | hge
  · exact hlt
  · rw [Array.getElem?_eq_none hge] at h; cases h
theorem Heads.below {w w' : World} {B : Nat} (h : Heads w) (hb : Below B w w') (hB : 0 < B) : Heads w' := by
  obtain ⟨t, fr, h⟩ := h
  exact ⟨t, fr, (hb.block _ hB).trans h⟩
theorem Heads.next {w w' : World} (h : Heads w) (hb : Below w.heap.size w w') : Heads w' := h.below hb h.lt
theorem Heads.cell {w : World} (h : Heads w) (i : Nat) : w.cell? ⟨0, i, none⟩ = U.row[i]? := by
  obtain ⟨t, fr, h⟩ := h
  simp [World.cell?, h]

set_option maxRecDepth 100000 in
set_option maxHeartbeats 400000 in
theorem U.is_any (c : Int) (w : World) (h1 : -2147483648 ≤ c) (h2 : c ≤ 2147483647) :
    Calls Tryd.prog 48 #[.int .i32 c] w fun e w' => e = .returned (.bool (U.isC c)) ∧ w = w' := by
  have hd : ∀ x : Bool, (x = true ↔ (0 ≤ c ∧ c ≤ 1114111 ∧ (c < 55296 ∨ 57343 < c))) → U.isC c = x := by
    intro x hx
    rw [Bool.eq_iff_iff, U.isC_iff, hx]
  have HD := Lib.hid hd
  clear hd
  go_enter Tryd.func48, Tryd.ntmps48
  go_wp2
  all_goals
    go_ret
    refine ⟨ret_bool (HD.out _ ?_).symm, rfl⟩
    simp
    try omega

theorem U.and0 : ∀ n : Fin 256, bits BinOp.andNot IntKind.u8 ((n.val : Nat) : Int) 127 = (if ((n.val : Nat) : Int) < 128 then 0 else 128) := by decide +kernel
theorem U.and1 : ∀ n : Fin 256, (bits BinOp.andNot IntKind.u8 ((n.val : Nat) : Int) 31 = 192) ↔ (192 ≤ ((n.val : Nat) : Int) ∧ ((n.val : Nat) : Int) < 224) := by decide +kernel
theorem U.and2 : ∀ n : Fin 256, (bits BinOp.andNot IntKind.u8 ((n.val : Nat) : Int) 15 = 224) ↔ (224 ≤ ((n.val : Nat) : Int) ∧ ((n.val : Nat) : Int) < 240) := by decide +kernel
theorem U.and3 : ∀ n : Fin 256, (bits BinOp.andNot IntKind.u8 ((n.val : Nat) : Int) 7 = 240) ↔ (240 ≤ ((n.val : Nat) : Int) ∧ ((n.val : Nat) : Int) < 248) := by decide +kernel
theorem U.ands (b : Int) (h1 : 0 ≤ b) (h2 : b < 256) : (bits BinOp.andNot IntKind.u8 b 127 == 0) = decide (b < 128) ∧ (bits BinOp.andNot IntKind.u8 b 31 == 192) = decide (192 ≤ b ∧ b < 224) ∧
    (bits BinOp.andNot IntKind.u8 b 15 == 224) = decide (224 ≤ b ∧ b < 240) ∧ (bits BinOp.andNot IntKind.u8 b 7 == 240) = decide (240 ≤ b ∧ b < 248) := by
  obtain ⟨n, rfl⟩ := Int.eq_ofNat_of_zero_le h1
  have hn : n < 256 := by omega
  refine ⟨?_, ?_, ?_, ?_⟩
  · have := U.and0 ⟨n, hn⟩
    simp only [] at this
    rw [this]
    by_cases h : (n : Int) < 128 <;> simp [h]
  · rw [Bool.eq_iff_iff, beq_iff_eq, decide_eq_true_eq]; exact U.and1 ⟨n, hn⟩
  · rw [Bool.eq_iff_iff, beq_iff_eq, decide_eq_true_eq]; exact U.and2 ⟨n, hn⟩
  · rw [Bool.eq_iff_iff, beq_iff_eq, decide_eq_true_eq]; exact U.and3 ⟨n, hn⟩

set_option maxRecDepth 100000 in
set_option maxHeartbeats 400000 in
theorem U.size_any (b : Int) (w : World) (h1 : 0 ≤ b) (h2 : b < 256) (hH : Heads w) :
    Calls Tryd.prog 55 #[.int .u8 b] w fun e w' => e = .returned (.int .i64 (U.sizeK b)) ∧ Below w.heap.size w w' := by
  obtain ⟨e0, e1, e2, e3⟩ := U.ands b h1 h2
  obtain ⟨t, fr, hg⟩ := hH
  have i0 : ∀ w, (Instr.index 96 (.agg U.row) (.int .i64 0)).run Tryd.prog w = .ok (.agg #[.int .u8 0, .int .u8 127, .int .i32 0]) w := fun _ => by kernel_rfl
  have i1 : ∀ w, (Instr.index 96 (.agg U.row) (.int .i64 1)).run Tryd.prog w = .ok (.agg #[.int .u8 192, .int .u8 31, .int .i32 128]) w := fun _ => by kernel_rfl
  have i2 : ∀ w, (Instr.index 96 (.agg U.row) (.int .i64 2)).run Tryd.prog w = .ok (.agg #[.int .u8 224, .int .u8 15, .int .i32 2048]) w := fun _ => by kernel_rfl
  have i3 : ∀ w, (Instr.index 96 (.agg U.row) (.int .i64 3)).run Tryd.prog w = .ok (.agg #[.int .u8 240, .int .u8 7, .int .i32 65536]) w := fun _ => by kernel_rfl
  go_enter Tryd.func55, Tryd.ntmps55
  go_wp2_with (refine wpList_load_row rfl _ _ rfl 0 rfl t _ fr _ hg Tryd.underlying96 rfl (by kernel_rfl) ?_)
  clear hg
  go_loopw [6] (fun i wr => Below w.heap.size w wr ∧ (i = .int .i64 0 ∨ (i = .int .i64 1 ∧ 128 ≤ b) ∨ (i = .int .i64 2 ∧ 128 ≤ b ∧ ¬ (192 ≤ b ∧ b < 224)) ∨ (i = .int .i64 3 ∧ 128 ≤ b ∧ ¬ (192 ≤ b ∧ b < 240)) ∨ (i = .int .i64 4 ∧ 128 ≤ b ∧ ¬ (192 ≤ b ∧ b < 248)))) (fun i _ => 4 - (intOf i).toNat)
  case atStart => exact ⟨Below.refl _ _, .inl rfl⟩
  case round =>
    obtain ⟨hb, hr⟩ := hrel
    have hsz := hb.size
    rcases hr with rfl | ⟨rfl, hr⟩ | ⟨rfl, hr, hr1⟩ | ⟨rfl, hr, hr1⟩ | ⟨rfl, hr, hr1⟩
    · by_cases hlt : b < 128
      · go_wp2
        go_ret
        exact ⟨ret_int (by unfold U.sizeK; rw [if_pos hlt]; rfl), hb.alloc hsz _⟩
      · go_wp2
        exact ⟨⟨hb.alloc hsz _, .inr (.inl ⟨rfl, by omega⟩)⟩, by simp [intOf]⟩
    · by_cases hlt : 192 ≤ b ∧ b < 224
      · have hd : decide (192 ≤ b ∧ b < 224) = true := decide_eq_true hlt
        obtain ⟨_, _⟩ := hlt
        go_wp2
        go_ret
        exact ⟨ret_int (by unfold U.sizeK; rw [if_neg (by omega), if_neg (by omega), if_pos (by omega)]; rfl), hb.alloc hsz _⟩
      · have hd : decide (192 ≤ b ∧ b < 224) = false := decide_eq_false hlt
        rw [hd] at e1
        have HL := Lib.hid hlt
        clear hd hlt
        go_wp2
        exact ⟨⟨hb.alloc hsz _, .inr (.inr (.inl ⟨rfl, hr, HL.out⟩))⟩, by simp [intOf]⟩
    · by_cases hlt : 224 ≤ b ∧ b < 240
      · have hd : decide (224 ≤ b ∧ b < 240) = true := decide_eq_true hlt
        obtain ⟨_, _⟩ := hlt
        clear hr1
        go_wp2
        go_ret
        exact ⟨ret_int (by unfold U.sizeK; rw [if_neg (by omega), if_neg (by omega), if_neg (by omega), if_pos (by omega)]; rfl), hb.alloc hsz _⟩
      · have hd : decide (224 ≤ b ∧ b < 240) = false := decide_eq_false hlt
        rw [hd] at e2
        have HL := Lib.hid hlt
        have HR := Lib.hid hr1
        clear hd hlt hr1
        go_wp2
        exact ⟨⟨hb.alloc hsz _, .inr (.inr (.inr (.inl ⟨rfl, hr, by have h1 := HL.out; have h2 := HR.out; omega⟩)))⟩, by simp [intOf]⟩
    · by_cases hlt : 240 ≤ b ∧ b < 248
      · have hd : decide (240 ≤ b ∧ b < 248) = true := decide_eq_true hlt
        obtain ⟨_, _⟩ := hlt
        clear hr1
        go_wp2
        go_ret
        exact ⟨ret_int (by unfold U.sizeK; rw [if_neg (by omega), if_neg (by omega), if_neg (by omega), if_neg (by omega), if_pos (by omega)]; rfl), hb.alloc hsz _⟩
      · have hd : decide (240 ≤ b ∧ b < 248) = false := decide_eq_false hlt
        rw [hd] at e3
        have HL := Lib.hid hlt
        have HR := Lib.hid hr1
        clear hd hlt hr1
        go_wp2
        exact ⟨⟨hb.alloc hsz _, .inr (.inr (.inr (.inr ⟨rfl, hr, by have h1 := HL.out; have h2 := HR.out; omega⟩)))⟩, by simp [intOf]⟩
    · have HR := Lib.hid hr1
      clear hr1
      go_wp2
      go_ret
      refine ⟨ret_int ?_, hb⟩
      have h1 := HR.out
      unfold U.sizeK
      by_cases hb : b < 192
      · rw [if_neg (by omega), if_pos hb]; rfl
      · rw [if_neg (by omega), if_neg (by omega), if_neg (by omega), if_neg (by omega), if_neg (by omega)]; rfl

set_option maxRecDepth 100000 in
set_option maxHeartbeats 400000 in
theorem U.width_any (c : Int) (w : World) (h1 : -2147483648 ≤ c) (h2 : c ≤ 2147483647) (hH : Heads w) :
    Calls Tryd.prog 26 #[.int .i32 c] w fun e w' => e = .returned (.int .i64 (U.width c)) ∧ w = w' := by
  have c1 := hH.cell 5
  have c2 := hH.cell 8
  have c3 := hH.cell 11
  change _ = some (Value.int .i32 128) at c1
  change _ = some (Value.int .i32 2048) at c2
  change _ = some (Value.int .i32 65536) at c3
  clear hH
  by_cases hc : U.isC c = true
  · have HC := Lib.hid hc
    have hw : ∀ n : Nat, n = (if c < 128 then 1 else if c < 2048 then 2 else if c < 65536 then 3 else 4) → U.width c = n := by
      intro n hn
      unfold U.width
      rw [if_pos HC.out, hn]
    have HW := Lib.hid hw
    clear hw
    go_enter Tryd.func26, Tryd.ntmps26
    go_wp2_with (go_at_call 48; refine (U.is_any _ _ h1 h2).mono ?_; rintro e w' ⟨rfl, rfl⟩)
    go_loop [3] (fun n => n = .int .i64 1 ∨ (n = .int .i64 2 ∧ 128 ≤ c) ∨ (n = .int .i64 3 ∧ 2048 ≤ c) ∨ (n = .int .i64 4 ∧ 65536 ≤ c)) (fun n => 5 - (intOf n).toNat)
    case atStart => exact .inl rfl
    case round =>
      rcases hrel with rfl | ⟨rfl, hr⟩ | ⟨rfl, hr⟩ | ⟨rfl, hr⟩
      · by_cases hlt : 128 ≤ c
        · go_wp2
          exact ⟨.inr (.inl ⟨rfl, hlt⟩), by simp [intOf]⟩
        · go_wp2
          go_ret
          exact ⟨ret_int (by rw [HW.out 1 (by rw [if_pos (by omega)])]; rfl), rfl⟩
      · by_cases hlt : 2048 ≤ c
        · go_wp2
          exact ⟨.inr (.inr (.inl ⟨rfl, hlt⟩)), by simp [intOf]⟩
        · go_wp2
          go_ret
          exact ⟨ret_int (by rw [HW.out 2 (by rw [if_neg (by omega), if_pos (by omega)])]; rfl), rfl⟩
      · by_cases hlt : 65536 ≤ c
        · go_wp2
          exact ⟨.inr (.inr (.inr ⟨rfl, hlt⟩)), by simp [intOf]⟩
        · go_wp2
          go_ret
          exact ⟨ret_int (by rw [HW.out 3 (by rw [if_neg (by omega), if_neg (by omega), if_pos (by omega)])]; rfl), rfl⟩
      · go_wp2
        go_ret
        exact ⟨ret_int (by rw [HW.out 4 (by rw [if_neg (by omega), if_neg (by omega), if_neg (by omega)])]; rfl), rfl⟩
  · have hc' : U.isC c = false := by simpa using hc
    have HC := Lib.hid hc
    clear hc
    go_enter Tryd.func26, Tryd.ntmps26
    go_wp2_with (go_at_call 48; refine (U.is_any _ _ h1 h2).mono ?_; rintro e w' ⟨rfl, rfl⟩)
    go_ret
    exact ⟨ret_int (by unfold U.width; rw [if_neg HC.out]; rfl), rfl⟩
end Go.Proofs.YtgfkcbckddpbaaaDoor
