/- The layer cpset in plain Lean, more: range by range. -/
import Derived.Test.YtamcpdggpdaioaaRwRow
import Derived.Test.YtamcpdggpdaioaaMdLook
import Derived.Test.YtamcpdggpdaioaaHangul
import Derived.BigQuiet
import Derived.Deep.QuietTactic
namespace Go.Proofs.Ytamcpdggpdaioaa
set_option linter.unusedSimpArgs false
set_option linter.unusedVariables false

/-- The members of the first ranges. -/
def C.part : List Int → Nat → Int
  | _, 0 => 0
  | x :: y :: t, i + 1 => y - x + C.part t i
  | _, _ => 0
theorem C.part0 (l : List Int) : C.part l 0 = 0 := by unfold C.part; rfl
theorem C.ok_tail {x y : Int} {t : List Int} (h : C.ok (x :: y :: t)) : C.ok t :=
  ⟨C.srt_tail (C.srt_tail h.1), fun z hz => h.2.1 z (by simp [hz]), by have := h.2.2; simp at this; omega⟩
theorem C.part_step : ∀ {l : List Int} {i : Nat} {r : Int × Int}, C.ok l → (C.rngs l)[i]? = some r → C.part l (i + 1) = C.part l i + (r.2 - r.1 + 1)
  | [], i, r, _, h => by simp [C.rngs] at h
  | [x], i, r, _, h => by simp [C.rngs] at h
  | x :: y :: t, 0, r, _, h => by
    simp [C.rngs] at h
    subst h
    show y - x + C.part t 0 = 0 + (y - 1 - x + 1)
    rw [show C.part t 0 = 0 by cases t <;> rfl]
    omega
  | x :: y :: t, i + 1, r, hk, h => by
    have := C.part_step (C.ok_tail hk) (show (C.rngs t)[i]? = some r from h)
    show y - x + C.part t (i + 1) = y - x + C.part t i + _
    rw [this]; omega
theorem C.part_all : ∀ l : List Int, C.part l (C.rngs l).length = C.count l
  | [] => rfl
  | [x] => rfl
  | x :: y :: t => by
    show y - x + C.part t (C.rngs t).length = y - x + C.count t
    rw [C.part_all t]
theorem C.part_bd : ∀ {l : List Int} (_ : C.ok l) (i : Nat), 0 ≤ C.part l i ∧ C.part l i ≤ C.count l
  | [], _, i => by cases i <;> exact ⟨Int.le_refl _, Int.le_refl _⟩
  | [x], h, _ => by have := h.2.2; simp at this
  | x :: y :: t, h, 0 => ⟨Int.le_refl _, (C.count_bd h).1⟩
  | x :: y :: t, h, i + 1 => by
    have hxy := C.srt_head h.1 y (by simp)
    have := C.part_bd (C.ok_tail h) i
    show 0 ≤ y - x + C.part t i ∧ y - x + C.part t i ≤ y - x + C.count t
    omega
theorem C.rng_bd : ∀ {l : List Int} {i : Nat} {r : Int × Int}, C.ok l → (C.rngs l)[i]? = some r → 0 ≤ r.1 ∧ r.1 ≤ r.2 ∧ r.2 ≤ 1114111 ∧ r.1 ≤ 1114111
  | [], i, r, _, h => by simp [C.rngs] at h
  | [x], i, r, _, h => by simp [C.rngs] at h
  | x :: y :: t, 0, r, hk, h => by
    simp [C.rngs] at h
    subst h
    have hxy := C.srt_head hk.1 y (by simp)
    have h1 := hk.2.1 x (by simp)
    have h2 := hk.2.1 y (by simp)
    dsimp only
    omega
  | x :: y :: t, i + 1, r, hk, h => C.rng_bd (C.ok_tail hk) (show (C.rngs t)[i]? = some r from h)

/-- Members less than d, in the first ranges. -/
def C.idxP : List Int → Int → Nat → Int
  | _, _, 0 => 0
  | x :: y :: t, d, i + 1 => (if x < d then min d y - x else 0) + C.idxP t d i
  | _, _, _ => 0
theorem C.idxP0 (l : List Int) (d : Int) : C.idxP l d 0 = 0 := by unfold C.idxP; rfl
theorem C.idxP_all : ∀ (l : List Int) (d : Int), C.idxP l d (C.rngs l).length = C.idx l d
  | [], _ => rfl
  | [x], _ => rfl
  | x :: y :: t, d => by
    show (if x < d then min d y - x else 0) + C.idxP t d (C.rngs t).length = (if x < d then min d y - x else 0) + C.idx t d
    rw [C.idxP_all t d]
theorem C.idxP_in : ∀ {l : List Int} {d : Int} {i : Nat} {r : Int × Int}, C.ok l → (C.rngs l)[i]? = some r → r.1 < d → C.idxP l d (i + 1) = C.idxP l d i + (min (d - 1) r.2 - r.1 + 1)
  | [], d, i, r, _, h, _ => by simp [C.rngs] at h
  | [x], d, i, r, _, h, _ => by simp [C.rngs] at h
  | x :: y :: t, d, 0, r, _, h, hd => by
    simp [C.rngs] at h
    subst h
    show (if x < d then min d y - x else 0) + C.idxP t d 0 = 0 + (min (d - 1) (y - 1) - x + 1)
    rw [C.idxP0, if_pos hd]
    omega
  | x :: y :: t, d, i + 1, r, hk, h, hd => by
    have := C.idxP_in (C.ok_tail hk) (show (C.rngs t)[i]? = some r from h) hd
    show _ + C.idxP t d (i + 1) = _ + C.idxP t d i + _
    rw [this]; omega
theorem C.idxP_out : ∀ {l : List Int} {d : Int} {i : Nat} {r : Int × Int}, C.ok l → (C.rngs l)[i]? = some r → ¬ r.1 < d → C.idxP l d (i + 1) = C.idxP l d i
  | [], d, i, r, _, h, _ => by simp [C.rngs] at h
  | [x], d, i, r, _, h, _ => by simp [C.rngs] at h
  | x :: y :: t, d, 0, r, _, h, hd => by
    simp [C.rngs] at h
    subst h
    show (if x < d then min d y - x else 0) + C.idxP t d 0 = 0
    rw [C.idxP0, if_neg hd]
    rfl
  | x :: y :: t, d, i + 1, r, hk, h, hd => by
    have := C.idxP_out (C.ok_tail hk) (show (C.rngs t)[i]? = some r from h) hd
    show _ + C.idxP t d (i + 1) = _ + C.idxP t d i
    rw [this]
theorem C.idxP_bd : ∀ {l : List Int} (_ : C.ok l) (d : Int) (i : Nat), 0 ≤ C.idxP l d i ∧ C.idxP l d i ≤ C.count l
  | [], _, d, i => by cases i <;> exact ⟨Int.le_refl _, Int.le_refl _⟩
  | [x], h, _, _ => by have := h.2.2; simp at this
  | x :: y :: t, h, d, 0 => ⟨Int.le_refl _, (C.count_bd h).1⟩
  | x :: y :: t, h, d, i + 1 => by
    have hxy := C.srt_head h.1 y (by simp)
    have := C.idxP_bd (C.ok_tail h) d i
    show 0 ≤ (if x < d then min d y - x else 0) + C.idxP t d i ∧ (if x < d then min d y - x else 0) + C.idxP t d i ≤ y - x + C.count t
    split <;> omega
/-- The one of a number. -/
def C.at (l : List Int) (q : Int) : Int × Bool := if q < 0 then (0, false) else C.atK l q
theorem C.at_neg (l : List Int) {q : Int} (h : q < 0) : C.at l q = (0, false) := if_pos h
theorem C.at_pos (l : List Int) {q : Int} (h : ¬ q < 0) : C.at l q = C.atK l q := if_neg h
theorem C.rngs_drop : ∀ {l : List Int} {i : Nat} {r : Int × Int}, (C.rngs l)[i]? = some r → ∃ t, l.drop (2 * i) = r.1 :: (r.2 + 1) :: t ∧ l.drop (2 * (i + 1)) = t
  | [], i, r, h => by simp [C.rngs] at h
  | [x], i, r, h => by simp [C.rngs] at h
  | x :: y :: t, 0, r, h => by
    simp [C.rngs] at h
    subst h
    exact ⟨t, by simp, rfl⟩
  | x :: y :: t, i + 1, r, h => by
    obtain ⟨t', h1, h2⟩ := C.rngs_drop (show (C.rngs t)[i]? = some r from h)
    exact ⟨t', by rw [show 2 * (i + 1) = 2 * i + 1 + 1 by omega]; exact h1, by rw [show 2 * (i + 1 + 1) = 2 * (i + 1) + 1 + 1 by omega]; exact h2⟩
end Go.Proofs.Ytamcpdggpdaioaa

/- The layer cpset in plain Lean, more: places found. -/
namespace Go.Proofs.Ytamcpdggpdaioaa
set_option linter.unusedSimpArgs false
set_option linter.unusedVariables false

/-- How many are less; is one of them it? -/
def C.ltN : List Int → Int → Nat
  | [], _ => 0
  | x :: t, d => if x < d then C.ltN t d + 1 else 0
def C.hit (l : List Int) (d : Int) : Bool := l[C.ltN l d]? == some d
theorem C.ltN_le : ∀ (l : List Int) (d : Int), C.ltN l d ≤ l.length
  | [], _ => Nat.le_refl _
  | x :: t, d => by
    show (if x < d then C.ltN t d + 1 else 0) ≤ t.length + 1
    have := C.ltN_le t d
    split <;> omega
theorem C.ltN_lt : ∀ {l : List Int} (_ : C.srt l) {k : Nat} {x : Int}, l[k]? = some x → ∀ d, (x < d ↔ k < C.ltN l d)
  | [], _, k, x, h, d => by simp at h
  | y :: t, hs, 0, x, h, d => by
    simp at h
    subst h
    show _ ↔ 0 < (if y < d then C.ltN t d + 1 else 0)
    split <;> simp_all
  | y :: t, hs, k + 1, x, h, d => by
    have h' : t[k]? = some x := by simpa using h
    have := C.ltN_lt (C.srt_tail hs) h' d
    have hy := C.srt_head hs x (List.mem_of_getElem? h')
    show _ ↔ k + 1 < (if y < d then C.ltN t d + 1 else 0)
    split
    · rw [this]; omega
    · constructor
      · intro hx; omega
      · intro hx; omega
/-- A member: the number of places up to it is odd. -/
theorem C.mem_par : ∀ {l : List Int} (_ : C.srt l) (d : Int), C.mem l d = (((C.ltN l d + (if C.hit l d = true then 1 else 0)) % 2) == 1)
  | [], _, d => rfl
  | x :: t, hs, d => by
    have ih := C.mem_par (C.srt_tail hs) d
    rw [C.mem_cons]
    rcases Int.lt_trichotomy x d with h | h | h
    · have e1 : C.ltN (x :: t) d = C.ltN t d + 1 := by show (if x < d then _ else _) = _; rw [if_pos h]
      have e2 : C.hit (x :: t) d = C.hit t d := by unfold C.hit; rw [e1]; simp
      rw [decide_eq_true (by omega), e1, e2, ih]
      generalize (if C.hit t d = true then 1 else 0) = q
      rcases Nat.mod_two_eq_zero_or_one (C.ltN t d + q) with h0 | h0
      · rw [h0, show (C.ltN t d + 1 + q) % 2 = 1 by omega]; rfl
      · rw [h0, show (C.ltN t d + 1 + q) % 2 = 0 by omega]; rfl
    · subst h
      have e1 : C.ltN (x :: t) x = 0 := by show (if x < x then _ else _) = _; rw [if_neg (by omega)]
      have e2 : C.hit (x :: t) x = true := by unfold C.hit; rw [e1]; simp
      rw [decide_eq_true (by omega), C.mem_low' hs (by omega), e1, e2]; rfl
    · have e1 : C.ltN (x :: t) d = 0 := by show (if x < d then _ else _) = _; rw [if_neg (by omega)]
      have e2 : C.hit (x :: t) d = false := by unfold C.hit; rw [e1]; simp; omega
      rw [decide_eq_false (by omega), e1, e2]; rfl
end Go.Proofs.Ytamcpdggpdaioaa

/- The layer cpset: place, Has, by walking their texts. -/
namespace Go.Proofs.Ytamcpdggpdaioaa
open Go.RowKit
set_option linter.unusedSimpArgs false
set_option linter.unusedVariables false

theorem C.nanC_any (x : Int) (w : World) : Calls Try.prog 77 #[.int .i32 x] w fun e w' => e = .returned (.bool false) ∧ w = w' := by
  go_enter Try.func77, Try.ntmps77
  go_wp2
  go_ret
  exact ⟨by simp, rfl⟩
theorem C.nanS_any (x : Int) (w : World) : Calls Try.prog 78 #[.int .i32 x] w fun e w' => e = .returned (.bool false) ∧ w = w' := by
  go_enter Try.func78, Try.ntmps78
  go_wp2
  go_ret
  exact ⟨by simp, rfl⟩

set_option maxRecDepth 100000 in
theorem C.lessR_any (x y : Int) (w : World) : Calls Try.prog 66 #[.int .i32 x, .int .i32 y] w fun e w' => e = .returned (.bool (decide (x < y))) ∧ w = w' := by
  go_enter Try.func66, Try.ntmps66
  go_wp2_with fail
  refine (C.nanC_any _ _).mono ?_
  rintro e w1 ⟨rfl, rfl⟩
  go_wp2
  go_ret
  exact ⟨rfl, rfl⟩

set_option maxRecDepth 100000 in
set_option maxHeartbeats 2000000 in
theorem C.search_any (A : Option Addr) (c n B : Nat) (l : List Int) (d : Int) (w : World) (hn : l.length = n) (hn' : n ≤ 1000000) (hs : C.srt l) (hA : Sl w B A (l.map (Value.int .i32))) :
    Calls Try.prog 71 #[.slice A n c, .int .i32 d] w (fun e w' => e = .returned (.tuple #[.int .i64 (C.ltN l d : Nat), .bool (C.hit l d)]) ∧ Below w.heap.size w w') := by
  have HN := Lib.hid hn
  have HS := Lib.hid hs
  have hP := C.ltN_le l d
  rw [hn] at hP
  obtain ⟨P, hp⟩ : ∃ P, C.ltN l d = P := ⟨_, rfl⟩
  rw [hp] at hP
  have HP := Lib.hid hp
  clear hn hs hp
  go_enter Try.func71, Try.ntmps71
  go_wp2
  go_loop [7, 8] (fun vi vj => ∃ i j : Nat, i ≤ P ∧ P ≤ j ∧ j ≤ n ∧ vi = .int .i64 i ∧ vj = .int .i64 j) (fun vi vj => (intOf vj).toNat - (intOf vi).toNat)
  case atStart => exact ⟨0, n, by omega, hP, Nat.le_refl _, rfl, rfl⟩
  case round =>
    obtain ⟨i, j, hi, hj, hjn, rfl, rfl⟩ := hrel
    by_cases hlt : (i : Int) < j
    · obtain ⟨x, hx⟩ : ∃ x, l[(i + j) / 2]? = some x := ⟨_, List.getElem?_eq_getElem (by rw [HN.out]; omega)⟩
      obtain ⟨b, o, rfl, hlb, hc, _⟩ := hA.ints hx
      have hcmp := C.ltN_lt HS.out hx d
      rw [HP.out] at hcmp
      have m0 : (0 : Int) ≤ (((i + j) / 2 : Nat) : Int) := by omega
      have m1 : (((i + j) / 2 : Nat) : Int) < n := by omega
      go_wp2_with fail
      refine (C.lessR_any _ _ _).mono ?_
      rintro e w1 ⟨rfl, rfl⟩
      by_cases hd : x < d
      · have hk := hcmp.1 hd
        have hdd : decide (x < d) = true := decide_eq_true hd
        clear hcmp
        go_wp2
        exact ⟨⟨(i + j) / 2 + 1, j, by omega, by omega, by omega, by go_num, by go_num⟩, by simp [intOf]; omega⟩
      · have hk : ¬ (i + j) / 2 < P := fun h => hd (hcmp.2 h)
        have hdd : decide (x < d) = false := decide_eq_false hd
        clear hcmp
        go_wp2
        exact ⟨⟨i, (i + j) / 2, by omega, by omega, by omega, by go_num, by go_num⟩, by simp [intOf]; omega⟩
    · obtain rfl : i = P := by omega
      obtain rfl : i = j := by omega
      by_cases hin : (i : Int) < n
      · obtain ⟨x, hx⟩ : ∃ x, l[i]? = some x := ⟨_, List.getElem?_eq_getElem (by rw [HN.out]; omega)⟩
        obtain ⟨b, o, rfl, hlb, hc, _⟩ := hA.ints hx
        have hh : C.hit l d = (x == d) := by unfold C.hit; rw [HP.out, hx]; rfl
        have HH := Lib.hid hh
        clear hx hh
        have m0 : (0 : Int) ≤ (i : Int) := by omega
        rcases hxd : (x == d) with _ | _
        · go_wp2
          go_ret2
          rw [HP.out, HH.out, hxd]
          exact ⟨rfl, Below.refl _ _⟩
        · go_wp2
          go_ret2
          rw [HP.out, HH.out, hxd]
          exact ⟨rfl, Below.refl _ _⟩
      · have hh : C.hit l d = false := by
          unfold C.hit
          rw [HP.out, List.getElem?_eq_none (by rw [HN.out]; omega)]
          rfl
        have HH := Lib.hid hh
        clear hh
        go_wp2
        go_ret2
        rw [HP.out, HH.out]
        exact ⟨rfl, Below.refl _ _⟩

def C.plc (l : List Int) (d : Int) : Nat := C.ltN l d + (if C.hit l d = true then 1 else 0)

set_option maxRecDepth 100000 in
set_option maxHeartbeats 1000000 in
theorem C.place_any (A : Option Addr) (c n B : Nat) (l : List Int) (d : Int) (w : World) (hn : l.length = n) (hn' : n ≤ 1000000) (hs : C.srt l) (hB : B ≤ w.heap.size) (hA : Sl w B A (l.map (Value.int .i32))) :
    Calls Try.prog 59 #[.agg #[.slice A n c], .int .i32 d] w (fun e w' => e = .returned (.int .i64 (C.plc l d : Nat)) ∧ Below w.heap.size w w') := by
  have HF := Lib.hid (C.search_any A c n B l d)
  have HN := Lib.hid hn
  have HS := Lib.hid hs
  have hP := C.ltN_le l d
  rw [hn] at hP
  have hpl : C.plc l d = C.ltN l d + (if C.hit l d = true then 1 else 0) := rfl
  obtain ⟨P, hp⟩ : ∃ P, C.ltN l d = P := ⟨_, rfl⟩
  obtain ⟨q, hq⟩ : ∃ q, C.hit l d = q := ⟨_, rfl⟩
  rw [hp, hq] at hpl
  rw [hp] at hP
  rw [hp, hq] at HF
  have HPL := Lib.hid hpl
  clear hn hs hp hq hpl
  go_enter Try.func59, Try.ntmps59
  go_wp2_with fail
  have hal : Below w.heap.size w (w.alloc (.cells #[.slice A n c] 49)) := (Below.refl _ _).alloc (Nat.le_refl _) _
  refine (HF.out _ HN.out hn' HS.out (hA.belowN hal hB (Nat.le_refl _))).mono ?_
  rintro e w1 ⟨rfl, hbel⟩
  have hb1 := hal.trans (hbel.mono (by simp))
  rcases q with _ | _
  · go_wp2
    go_ret
    exact ⟨by rw [HPL.out]; rfl, hb1⟩
  · go_wp2
    go_ret
    exact ⟨by rw [HPL.out]; rfl, hb1⟩

set_option maxRecDepth 100000 in
set_option maxHeartbeats 1000000 in
theorem C.has_any (A : Option Addr) (c n B : Nat) (l : List Int) (d : Int) (w : World) (hn : l.length = n) (hn' : n ≤ 1000000) (hs : C.srt l) (hB : B ≤ w.heap.size) (hA : Sl w B A (l.map (Value.int .i32))) :
    Calls Try.prog 53 #[.agg #[.slice A n c], .int .i32 d] w (fun e w' => e = .returned (.bool (C.mem l d)) ∧ Below w.heap.size w w') := by
  have HF := Lib.hid (C.place_any A c n B l d)
  have hP := C.ltN_le l d
  rw [hn] at hP
  have HN := Lib.hid hn
  have HS := Lib.hid hs
  have hm := C.mem_par hs d
  have hpl : C.plc l d ≤ n + 1 := by unfold C.plc; split <;> omega
  change C.mem l d = ((C.plc l d % 2) == 1) at hm
  obtain ⟨q, hq⟩ : ∃ q, C.plc l d = q := ⟨_, rfl⟩
  rw [hq] at HF hm hpl
  have HM := Lib.hid hm
  have hb := C.and_one q (by omega)
  clear hn hs hq hm
  go_enter Try.func53, Try.ntmps53
  go_wp2_with fail
  have hal : Below w.heap.size w (w.alloc (.cells #[.slice A n c] 49)) := (Below.refl _ _).alloc (Nat.le_refl _) _
  refine (HF.out _ HN.out hn' HS.out (by simp <;> omega) (hA.belowN hal hB (Nat.le_refl _))).mono ?_
  rintro e w1 ⟨rfl, hbel⟩
  have hb1 := hal.trans (hbel.mono (by simp))
  go_wp2
  go_ret
  refine ⟨?_, hb1⟩
  rw [HM.out]
  refine ret_bool ?_
  rw [Bool.eq_iff_iff]
  simp
  omega
end Go.Proofs.Ytamcpdggpdaioaa

/- Regions that draw their order and hold calls that make memory but answer one thing: walked once, in the order of the text. -/
namespace Go.Proofs.Ytamcpdggpdaioaa
open Go.RowKit
set_option linter.unusedSimpArgs false
set_option linter.unusedVariables false

/-- A world in which all that there was is as it was. -/
structure Ext (w : World) where
  val : World
  below : Below w.heap.size w val
instance (w : World) : Nonempty (Ext w) := ⟨⟨w, Below.refl _ _⟩⟩
theorem Ext.cell {w : World} (x : Ext w) {b : Nat} (o : Nat) (hb : b < w.heap.size) : x.val.cell? ⟨b, o, none⟩ = w.cell? ⟨b, o, none⟩ := (bcell x.below).1 b o hb
theorem Ext.cells {w : World} {b o : Nat} {v : Value} (h : w.cell? ⟨b, o, none⟩ = some v) (hb : b < w.heap.size) : ∀ x : Ext w, x.val.cell? ⟨b, o, none⟩ = some v := fun x => (x.cell o hb).trans h
theorem Ext.call {P : Program} {f : FuncId} {args : Array Value} {w : World} {v : Value} (h : ∀ W, Below w.heap.size w W → Calls P f args W fun e w' => e = .returned v ∧ Below W.heap.size W w') (x : Ext w) :
    Calls P f args x.val fun e w'' => e = .returned v ∧ ∃ y : Ext w, w'' = y.val :=
  (h x.val x.below).mono fun _ w' ⟨he, hb⟩ => ⟨he, ⟨w', x.below.trans (hb.mono x.below.size)⟩, rfl⟩
theorem Ext.same {P : Program} {f : FuncId} {args : Array Value} {w : World} {v : Value} (h : ∀ W, Below w.heap.size w W → Calls P f args W fun e w' => e = .returned v ∧ W = w') (x : Ext w) :
    Calls P f args x.val fun e w'' => e = .returned v ∧ ∃ y : Ext w, w'' = y.val :=
  (h x.val x.below).mono fun _ w' ⟨he, hb⟩ => ⟨he, x, hb.symm⟩
theorem wp_region_ext {P : Program} {id : Nat} {Q : Exit → Act → World → Prop} {a : Act} {w : World} {l : List Oper} (hm : P.follows .mixedOrders = true) (hB : Region.lexB .any l.toArray = true)
    (h : wpQuiet P l.toArray (fun w' => ∃ x : Ext w, w' = x.val) (fun a' => ∀ x : Ext w, Q .normal a' x.val) l a) : (Code.region id l.toArray true).wp P Q a w := by
  refine wp_region_quiet (C := fun w' => ∃ x : Ext w, w' = x.val) hm hB ⟨⟨_, (Below.refl _ _).drew⟩, rfl⟩ ?_
  have : (fun a' => ∀ x : Ext w, Q .normal a' x.val) = (fun a' => ∀ w', (∃ x : Ext w, w' = x.val) → Q .normal a' w') := by
    funext a'
    exact propext ⟨fun h w' ⟨x, hx⟩ => by rw [hx]; exact h x, fun h x => h _ ⟨x, rfl⟩⟩
  rw [← this]
  simpa using h
end Go.Proofs.Ytamcpdggpdaioaa
