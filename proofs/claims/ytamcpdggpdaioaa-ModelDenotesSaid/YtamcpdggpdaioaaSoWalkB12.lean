/- The layer cpset: a set of characters that rise, in plain Lean. -/
import Derived.Test.YtamcpdggpdaioaaCpIsPlain4
import Derived.Lib.SlicesCompact
import Derived.Test.YtamcpdggpdaioaaRows
import Derived.Lib.Walk
import Derived.Sort.Row
import Derived.Lib.Strings
import Derived.WalkKit
import Derived.Deep.LoopGhost
namespace Go.Proofs.Ytamcpdggpdaioaa
set_option linter.unusedSimpArgs false
set_option linter.unusedVariables false

theorem C.upto_mono {p : Int → Bool} {acc : List Int} {a c : Int} (h : C.upto p acc a) (hac : a ≤ c) (hp : ∀ d, a ≤ d → d < c → p d = false) : C.upto p acc c := by
  obtain ⟨h1, h2, h3, h4⟩ := h
  refine ⟨h1, h2, fun x hx => by have := h3 x hx; omega, fun d => ?_⟩
  rw [h4 d]
  by_cases h : d < a
  · rw [decide_eq_true h, decide_eq_true (by omega)]
  · by_cases h' : d < c
    · rw [hp d (by omega) h']; rfl
    · rw [decide_eq_false h, decide_eq_false h']
theorem C.step_isC {p : Int → Bool} {acc : List Int} {c b : Int} (h : p c = C.isC c) : C.step p acc c b = C.step C.isC acc c b := by
  unfold C.step; rw [h]
theorem C.step_bd {acc : List Int} {c : Int} (h : ∀ x ∈ acc, 0 ≤ x ∧ x ≤ 1114112) : ∀ x ∈ C.step C.isC acc c (c + 1), 0 ≤ x ∧ x ≤ 1114112 := by
  intro x hx
  cases hc : C.isC c
  · rw [C.step_no hc] at hx; exact h x hx
  · have hb : 0 ≤ c ∧ c ≤ 1114111 := by simp [C.isC] at hc; omega
    rcases C.step_mem hx with hx | rfl | rfl
    · exact h x hx
    · omega
    · omega
/-- Of numbers that rise: those that are characters. -/
def C.chF (cs acc : List Int) : List Int := cs.foldl (fun o c => C.step C.isC o c (c + 1)) acc
theorem C.ch_go {p : Int → Bool} : ∀ (cs acc : List Int) (a : Int), C.srt cs → (∀ c ∈ cs, a ≤ c) → (∀ d, a ≤ d → p d = (decide (d ∈ cs) && C.isC d)) → (∀ x ∈ acc, 0 ≤ x ∧ x ≤ 1114112) → C.upto p acc a →
    (∀ x ∈ C.chF cs acc, 0 ≤ x ∧ x ≤ 1114112) ∧ ∃ b, C.upto p (C.chF cs acc) b ∧ ∀ d, b ≤ d → p d = false
  | [], acc, a, _, _, hp, hb, h => ⟨hb, a, h, fun d hd => by rw [hp d hd]; simp⟩
  | c :: t, acc, a, hs, hc, hp, hb, h => by
    have hac := hc c (by simp)
    have hct : ∀ z ∈ t, c < z := C.srt_head hs
    have h1 := C.upto_mono h hac (fun d d1 d2 => by
      rw [hp d d1]
      have : d ∉ c :: t := by
        intro hm
        rcases List.mem_cons.1 hm with rfl | hm
        · omega
        · have := hct d hm; omega
      rw [decide_eq_false this]; rfl)
    have hpc : p c = C.isC c := by rw [hp c hac, decide_eq_true (by simp)]; rfl
    have h2 := C.upto_step h1 (show c < c + 1 by omega) (fun d d1 d2 => by rw [show d = c by omega])
    rw [C.step_isC hpc] at h2
    show (∀ x ∈ C.chF t (C.step C.isC acc c (c + 1)), 0 ≤ x ∧ x ≤ 1114112) ∧ ∃ b, C.upto p (C.chF t (C.step C.isC acc c (c + 1))) b ∧ ∀ d, b ≤ d → p d = false
    refine C.ch_go t _ (c + 1) (C.srt_tail hs) (fun z hz => by have := hct z hz; omega) (fun d hd => ?_) (C.step_bd hb) h2
    rw [hp d (by omega)]
    congr 1
    rw [decide_eq_decide]
    constructor
    · intro hm
      rcases List.mem_cons.1 hm with rfl | hm
      · omega
      · exact hm
    · intro hm; simp [hm]
/-- The set of numbers that rise has just the characters of them. -/
theorem C.ch_spec (cs : List Int) (hs : C.srt cs) : C.ok (C.chF cs []) ∧ ∀ d, C.mem (C.chF cs []) d = (decide (d ∈ cs) && C.isC d) := by
  obtain ⟨a, ha⟩ : ∃ a : Int, ∀ c ∈ cs, a ≤ c := by
    cases cs with
    | nil => exact ⟨0, by simp⟩
    | cons c t => exact ⟨c, fun z hz => by
        rcases List.mem_cons.1 hz with rfl | hz
        · exact Int.le_refl _
        · have := C.srt_head hs z hz; omega⟩
  have h0 : C.upto (fun d => decide (d ∈ cs) && C.isC d) [] a := by
    refine ⟨List.Pairwise.nil, rfl, by simp, fun d => ?_⟩
    by_cases hd : d < a
    · have : d ∉ cs := fun hm => by have := ha d hm; omega
      show false = ((decide (d ∈ cs) && C.isC d) && decide (d < a))
      rw [decide_eq_false this]; rfl
    · show false = ((decide (d ∈ cs) && C.isC d) && decide (d < a))
      rw [decide_eq_false hd, Bool.and_false]
  obtain ⟨hb, b, ⟨u1, u2, u3, u4⟩, hz⟩ := C.ch_go cs [] a hs ha (fun d _ => rfl) (by simp) h0
  refine ⟨⟨u1, hb, u2⟩, fun d => ?_⟩
  rw [u4 d]
  by_cases hd : d < b
  · rw [decide_eq_true hd, Bool.and_true]
  · have := hz d (by omega)
    rw [this]
    show ((decide (d ∈ cs) && C.isC d) && decide (d < b)) = false
    rw [this]; rfl
end Go.Proofs.Ytamcpdggpdaioaa

/- A row that is in order, each number once: it rises, and has the same numbers. -/
namespace Go.Proofs.Ytamcpdggpdaioaa
set_option linter.unusedSimpArgs false
set_option linter.unusedVariables false

theorem C.arr_get {l : List Int} {j : Nat} (h : j < l.length) : l.toArray[j]! = l[j] := by
  rw [getElem!_pos l.toArray j (by simpa using h)]; simp
theorem C.le_of {l : List Int} (hs : l.Pairwise (· ≤ ·)) {i j : Nat} (hij : i ≤ j) (hj : j < l.length) : l[i]'(by omega) ≤ l[j] := by
  rcases Nat.lt_or_ge i j with h | h
  · exact List.pairwise_iff_getElem.1 hs i j (by omega) hj h
  · obtain rfl : i = j := by omega
    exact Int.le_refl _
theorem C.cmp_spec (l : List Int) (hs : l.Pairwise (· ≤ ·)) : ∀ m, m ≤ l.length → C.srt (Lib.compactUpTo l.toArray m) ∧ ∀ z, z ∈ Lib.compactUpTo l.toArray m ↔ z ∈ l.take m
  | 0, _ => ⟨by simp [Lib.compactUpTo, C.srt], by simp [Lib.compactUpTo]⟩
  | m + 1, hm => by
    obtain ⟨h1, h2⟩ := C.cmp_spec l hs m (by omega)
    have hlt : m < l.length := by omega
    have et : l.take (m + 1) = l.take m ++ [l[m]] := by rw [List.take_succ_eq_append_getElem hlt]
    have eg := C.arr_get hlt
    rw [Lib.compactUpTo_succ]
    by_cases hk : m = 0 ∨ l[m] ≠ l[m - 1]'(by omega)
    · have hkk : Lib.keeps l.toArray m = true := by
        unfold Lib.keeps
        rw [decide_eq_true_iff, eg, C.arr_get (show m - 1 < l.length by omega)]
        exact hk
      rw [if_pos hkk, eg]
      refine ⟨C.srt_snoc h1 fun y hy => ?_, fun z => by rw [List.mem_append, h2, et, List.mem_append]⟩
      obtain ⟨j, hj, rfl⟩ := List.getElem_of_mem ((h2 y).1 hy)
      have hjm : j < m := by rw [List.length_take] at hj; omega
      rw [List.getElem_take]
      rcases hk with rfl | hk
      · omega
      · have a1 := C.le_of hs (i := j) (j := m - 1) (by omega) (by omega)
        have a2 := C.le_of hs (i := m - 1) (j := m) (by omega) hlt
        omega
    · have h0 : m ≠ 0 := fun h => hk (.inl h)
      have he : l[m] = l[m - 1]'(by omega) := by
        rcases Int.decEq l[m] (l[m - 1]'(by omega)) with h | h
        · exact absurd (.inr h) hk
        · exact h
      have hkk : Lib.keeps l.toArray m = false := by
        unfold Lib.keeps
        rw [decide_eq_false_iff_not, eg, C.arr_get (show m - 1 < l.length by omega)]
        exact hk
      rw [hkk]
      refine ⟨by simpa using h1, fun z => ?_⟩
      rw [et]
      simp only [Bool.false_eq_true, if_false, List.append_nil]
      rw [h2, List.mem_append]
      constructor
      · exact .inl
      · rintro (h | h)
        · exact h
        · rw [List.mem_singleton] at h
          subst h
          rw [he]
          have : l[m - 1]'(by omega) = (l.take m)[m - 1]'(by rw [List.length_take]; omega) := by rw [List.getElem_take]
          rw [this]
          exact List.getElem_mem _
/-- The characters of any numbers: put in order, each once. -/
def C.once (l : List Int) : List Int := Lib.compactUpTo (l.mergeSort fun x y => decide (x ≤ y)).toArray l.length
theorem C.once_spec (l : List Int) : C.srt (C.once l) ∧ ∀ z, z ∈ C.once l ↔ z ∈ l := by
  have hs : (l.mergeSort fun x y => decide (x ≤ y)).Pairwise (· ≤ ·) := by
    have h := List.pairwise_mergeSort (le := fun x y : Int => decide (x ≤ y)) (by intro a b c h1 h2; simp at *; omega) (by intro a b; simp; omega) l
    exact h.imp (by intro a b h; simpa using h)
  obtain ⟨h1, h2⟩ := C.cmp_spec _ hs l.length (by simp)
  refine ⟨h1, fun z => ?_⟩
  unfold C.once
  rw [h2, List.take_of_length_le (by simp)]
  exact (List.mergeSort_perm l _).mem_iff
def C.chars (l : List Int) : List Int := C.chF (C.once l) []
theorem C.chars_spec (l : List Int) : C.ok (C.chars l) ∧ ∀ d, C.mem (C.chars l) d = (decide (d ∈ l) && C.isC d) := by
  obtain ⟨h1, h2⟩ := C.once_spec l
  obtain ⟨h3, h4⟩ := C.ch_spec (C.once l) h1
  refine ⟨h3, fun d => ?_⟩
  show C.mem (C.chF (C.once l) []) d = _
  rw [h4 d]
  congr 1
  rw [decide_eq_decide]
  exact h2 d
end Go.Proofs.Ytamcpdggpdaioaa

/- The sort at rune, walked (a text of the kit at int, turned): Walk0. -/
namespace Go.Proofs.Ytamcpdggpdaioaa
set_option linter.unusedSimpArgs false
set_option linter.unusedVariables false
set_option maxHeartbeats 1000000 in
theorem So.cmp_isNaN_int (x : Int) (w : World) : Calls Try.prog 77 #[.int .i32 x] w fun e w' => e = .returned (.bool false) ∧ w' = w := by
  go_enter Try.func77, Try.ntmps77
  go_wp2
  go_ret
  exact ⟨by simp, rfl⟩

set_option maxHeartbeats 1000000 in
theorem So.cmp_Less_int (x y : Int) (w : World) : Calls Try.prog 66 #[.int .i32 x, .int .i32 y] w fun e w' => e = .returned (.bool (Sort.ltInt x y)) ∧ w' = w := by
  go_enter Try.func66, Try.ntmps66
  go_wp2_with (go_at_call 77; refine (So.cmp_isNaN_int _ _).mono ?_; rintro e w' ⟨rfl, rfl⟩)
  go_ret
  exact ⟨rfl, rfl⟩

theorem bytesLess_eq : ∀ (x y : List UInt8), Op.bytesLess x y = decide (x < y)
  | [], [] => by simp [Op.bytesLess]
  | _ :: _, [] => by simp [Op.bytesLess]
  | [], _ :: _ => by simp [Op.bytesLess]
  | a :: x, b :: y => by
    rw [Op.bytesLess, bytesLess_eq x y]
    simp only [List.cons_lt_cons_iff]
    by_cases h1 : a < b <;> by_cases h2 : a = b <;> by_cases h3 : x < y <;> simp [h1, h2, h3]
end Go.Proofs.Ytamcpdggpdaioaa

/- The sort at rune, walked (a text of the kit at int, turned): WalkB12. -/
namespace Go.Proofs.Ytamcpdggpdaioaa
set_option linter.unusedSimpArgs false
set_option linter.unusedVariables false
open Go.Sort Go.RowKit

abbrev encI : Int → Value := fun x => Value.int .i32 x

theorem swap_world {α : Type} [Inhabited α] (enc : α → Value) {w wr : World} {n blk off : Nat} {dk : Array α} {i j : Nat} (hi : i < dk.size) (hj : j < dk.size) (hwr : wr = putRow enc (Sort.ahead w n) blk off dk)
    {x y : Value} (hx : x = enc dk[j]!) (hy : y = enc dk[i]!) : ((wr.setCell ⟨blk, off + i, none⟩ x).setCell ⟨blk, off + j, none⟩ y).drew = putRow enc (Sort.ahead w (n + 1)) blk off (swp dk i j) := by
  subst hwr; subst hx; subst hy
  rw [putRow_swp enc _ blk off dk i j hi hj, ← ahead_drew]
  rfl

set_option maxHeartbeats 1600000 in
set_option maxRecDepth 1000000 in
theorem So.reverseRange_int (blk off cap : Nat) (d : Array Int) (a b : Nat) (w : World) (hH : Holds encI w blk off d) (hab : a ≤ b) (hb : b ≤ d.size) (hsz : d.size < 4611686018427387904) :
    Calls Try.prog 64 #[.slice (some ⟨blk, off, none⟩) d.size cap, .int .i64 a, .int .i64 b] w fun e w' => e = .returned (.tuple #[]) ∧ ∃ n, w' = putRow encI (Sort.ahead w n) blk off (reverseRange d a b) := by
  go_enter Try.func64, Try.ntmps64
  go_wp2
  go_loopg [6, 7] (b - a) (fun k s6 s7 wr => ∃ (i jn : Nat) (jz : Int) (dk : Array Int) (n : Nat), s6 = .int .i64 i ∧ s7 = .int .i64 jz ∧ ((i : Int) < jz → jz = jn ∧ jn < d.size) ∧ (¬ (i : Int) < jz → ¬ i < jn) ∧ jn - i ≤ k ∧
    dk.size = d.size ∧ wr = putRow encI (Sort.ahead w n) blk off dk ∧ reverseLoop i jn dk = reverseLoop a (b - 1) d)
  case atStart => exact ⟨a, b - 1, (b : Int) - 1, d, 0, rfl, rfl, fun h => ⟨by omega, by omega⟩, fun h => by omega, by omega, rfl, (putRow_self encI w blk off d hH).symm, rfl⟩
  case round =>
    obtain ⟨i, jn, jz, dk, n, rfl, rfl, h1, h2, hk, hds, hwr, heq⟩ := hrel
    by_cases hlt : (i : Int) < jz
    · obtain ⟨rfl, hjn⟩ := h1 hlt
      have hij : i < jn := by omega
      have hHk : Holds encI wr blk off dk := by rw [hwr]; exact holds_putRow encI _ blk off d dk (holds_ahead encI w n blk off d hH) hds
      obtain ⟨ci, fi⟩ := hHk i (by omega)
      obtain ⟨cj, fj⟩ := hHk jn (by omega)
      have A : Aside (wr = putRow encI (Sort.ahead w n) blk off dk) := hwr
      clear hwr hHk hH h1 h2
      go_wp2_with fail
      go_region
      go_wp2
      go_roundg (jn - 1 - (i + 1))
      case measure => omega
      case rel =>
        rw [reverseLoop, if_pos hij] at heq
        exact ⟨i + 1, jn - 1, (jn : Int) - 1, swp dk i jn, n + 1, by simp, rfl, fun h => ⟨by omega, by omega⟩, fun h => by omega, Nat.le_refl _, by rw [size_swp]; exact hds,
          swap_world encI (by omega) (by omega) A.out (by simp [encI, getElem!_pos, show jn < dk.size by omega]) rfl, heq⟩
    · have hnot := h2 hlt
      go_wp2
      go_end0
      refine ⟨rfl, n, ?_⟩
      rw [reverseLoop, if_neg hnot] at heq
      rw [reverseRange, ← heq]
end Go.Proofs.Ytamcpdggpdaioaa
