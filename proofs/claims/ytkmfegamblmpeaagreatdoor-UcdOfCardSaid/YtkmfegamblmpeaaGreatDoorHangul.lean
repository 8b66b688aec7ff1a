/- Small laws that all walks of this seat use: slices that are read, slices that are handed back, an append of one. -/
import Derived.Test.YtkmfegamblmpeaaGreatDoorRows
import Derived.WalkKit
import Derived.WalkSpells
import Derived.WalkLawsBesides
import Derived.Lib.Hide
namespace Go.Proofs.YtkmfegamblmpeaaGreatDoor
open Go.RowKit
set_option linter.unusedSimpArgs false
set_option linter.unusedVariables false

theorem ret_int {k : IntKind} {a b : Int} (h : a = b) : Ending.returned (.int k a) = .returned (.int k b) := by rw [h]
theorem ret_bool {a b : Bool} (h : a = b) : Ending.returned (.bool a) = .returned (.bool b) := by rw [h]
theorem ret_tuple2 {k : IntKind} {a a' : Int} {x x' : Bool} (h : (a, x) = (a', x')) :
    Ending.returned (.tuple #[.int k a, .bool x]) = .returned (.tuple #[.int k a', .bool x']) := by
  simp only [Prod.mk.injEq] at h
  obtain ⟨rfl, rfl⟩ := h
  rfl
theorem ret_tuple3 {k k' : IntKind} {a a' b b' : Int} {x x' : Bool} (h : (a, b, x) = (a', b', x')) :
    Ending.returned (.tuple #[.int k a, .int k' b, .bool x]) = .returned (.tuple #[.int k a', .int k' b', .bool x']) := by
  simp only [Prod.mk.injEq] at h
  obtain ⟨rfl, rfl, rfl⟩ := h
  rfl

/-- What was there before a call reads as it did: cells and marks, as two rules for the walk. -/
theorem bcell {B : Nat} {W w1 : World} (hb : Below B W w1) : (∀ b o, b < B → w1.cell? ⟨b, o, none⟩ = W.cell? ⟨b, o, none⟩) ∧ (∀ b o, b < B → w1.frozen? ⟨b, o, none⟩ = W.frozen? ⟨b, o, none⟩) :=
  ⟨fun b o h => hb.cell (p := ⟨b, o, none⟩) h, fun b o h => hb.frozen (p := ⟨b, o, none⟩) h⟩

/-- A slice's cells, read in w: the list xs; the row lies below block B. -/
def Sl (w : World) (B : Nat) (A : Option Addr) (xs : List Value) : Prop :=
  0 < xs.length → ∃ b o, A = some ⟨b, o, none⟩ ∧ b < B ∧ ∀ i, i < xs.length → w.cell? ⟨b, o + i, none⟩ = xs[i]?

theorem Sl.nil (w : World) (B : Nat) (A : Option Addr) : Sl w B A [] := fun h => absurd h (by simp)

theorem Sl.below {w w' : World} {B B' : Nat} {A : Option Addr} {xs : List Value} (h : Sl w B A xs) (hb : Below B w w') (hB : B ≤ B') : Sl w' B' A xs := by
  intro hx
  obtain ⟨b, o, hA, hlt, hc⟩ := h hx
  exact ⟨b, o, hA, by omega, fun i hi => by rw [← hc i hi]; exact hb.cell (p := ⟨b, o + i, none⟩) hlt⟩

theorem Sl.belowN {w w' : World} {B B0 B' : Nat} {A : Option Addr} {xs : List Value} (h : Sl w B A xs) (hb : Below B0 w w') (h0 : B ≤ B0) (hB : B ≤ B') : Sl w' B' A xs :=
  h.below (hb.mono h0) hB

theorem Sl.more {w : World} {B B' : Nat} {A : Option Addr} {xs : List Value} (h : Sl w B A xs) (hB : B ≤ B') : Sl w B' A xs :=
  h.below (Below.refl _ _) hB

theorem Sl.lit {w : World} {A : Option Addr} {b : Nat} {xs : List Value} (hA : A = some ⟨b, 0, none⟩) (t : TypeId) (z : Nat × Nat) (hb : w.heap[b]? = some (.cells xs.toArray t z)) : Sl w w.heap.size A xs := by
  intro _
  have hlt : b < w.heap.size := by
    rcases Nat.lt_or_ge b w.heap.size with hlt | hge
    · exact hlt
    · rw [Array.getElem?_eq_none hge] at hb; cases hb
  refine ⟨b, 0, hA, hlt, fun i hi => ?_⟩
  simp [World.cell?, hb]

theorem Sl.of_own {w : World} {base : Nat} {e : TypeId} {size n c : Nat} {A : Option Addr} {xs : List Value} (h : w.ownsRow base e size (.slice A n c) n xs) : Sl w w.heap.size A xs := by
  intro hx
  obtain ⟨hl, h⟩ := h
  rcases h with ⟨hv, hn⟩ | ⟨g, cap, cur, hv, _, hg, _, _, _, htake⟩
  · subst hn; simp at hl; rw [hl] at hx; simp at hx
  · simp only [Value.slice.injEq] at hv
    obtain ⟨hA, _, _⟩ := hv
    have hlt : g < w.heap.size := by
      rcases Nat.lt_or_ge g w.heap.size with hlt | hge
      · exact hlt
      · rw [Array.getElem?_eq_none hge] at hg; cases hg
    refine ⟨g, 0, hA, hlt, fun i hi => ?_⟩
    rw [← htake]
    simp [World.cell?, hg, List.getElem?_take, ← hl, hi]

theorem heap_lt {w : World} {g : Nat} {o : Obj} (h : w.heap[g]? = some o) : g < w.heap.size := by
  rcases Nat.lt_or_ge g w.heap.size with hlt | hge
  · exact hlt
  · rw [Array.getElem?_eq_none hge] at h; cases h

/-- What the call owns stays owned where nothing that is there turns. -/
theorem own_below {w w' : World} {base B : Nat} {e : TypeId} {size n : Nat} {v : Value} {xs : List Value} (h : w.ownsRow base e size v n xs) (hb : Below B w w') (hB : w.heap.size ≤ B) : w'.ownsRow base e size v n xs := by
  obtain ⟨h1, h2⟩ := h
  refine ⟨h1, ?_⟩
  rcases h2 with h2 | ⟨g, cap, cur, hv, hg, hh, r⟩
  · exact .inl h2
  · exact .inr ⟨g, cap, cur, hv, hg, (hb.block g (by have := heap_lt hh; omega)).trans hh, r⟩

/-- A new slice of whole numbers is handed back; nothing that was there has turned. -/
def RetInts (k : IntKind) (l : List Int) (w : World) (e : Ending) (w' : World) : Prop :=
  ∃ A c, e = .returned (.slice A l.length c) ∧ Sl w' w'.heap.size A (l.map (Value.int k)) ∧ Below w.heap.size w w'

theorem own_form {w : World} {base : Nat} {e : TypeId} {size n : Nat} {v : Value} {xs : List Value} (h : w.ownsRow base e size v n xs) : ∃ A c, v = .slice A n c := by
  rcases h.2 with ⟨rfl, rfl⟩ | ⟨g, cap, cur, hv, _⟩
  · exact ⟨none, 0, rfl⟩
  · exact ⟨_, _, hv⟩

theorem RetInts.of_own {k : IntKind} {l : List Int} {w w' : World} {base : Nat} {e : TypeId} {v : Value} {xs : List Value} {n : Nat} (h : w'.ownsRow base e 1 v n xs) (hn : n = l.length) (hx : xs = l.map (Value.int k)) (hb : Below w.heap.size w w') : RetInts k l w (.returned v) w' := by
  subst hn hx
  obtain ⟨A, c, rfl⟩ := own_form h
  exact ⟨A, c, rfl, Sl.of_own h, hb⟩

section
variable {P : Program}
/-- 'append(s, u)' onto a row of the call's own, u laid in a new block of one cell just ahead. -/
theorem wpList_push1 {ops : Array Oper} {rest : List Oper} {o : Oper} {a : Act} {Q : Exit → Act → World → Prop} (w : World) (hgd : o.guard = none) (s x : Operand) (t : TypeId)
    (ho : o.op = .call { callee := .builtin .append, args := #[s, x], argTypes := #[t, t] })
    (base : Nat) (e : TypeId) (i : TypeInfo) (z : Value) (bytes : Nat) (ht : P.underlying t = some (.slice e)) (hi : P.info? e = some i) (hz : i.zero = some z)
    (hsize : i.size = 1) (hby : i.bytes = bytes) (hzs : z.cells.size = 1)
    (v : Value) (n : Nat) (xs : List Value) (hs : a.eval s = v) (hown : w.ownsRow base e 1 v n xs)
    (u : Value) (h1 : u.oneCell' = true) (hx : a.eval x = .slice (some ⟨w.heap.size, 0, none⟩) 1 1)
    (h63 : n + 1 ≤ maxLen) (hbytes : (n + 1) * bytes ≤ 140737488355328) (hbase : base ≤ w.heap.size)
    (h : ∀ v' w', w'.ownsRow base e 1 v' (n + 1) (xs ++ [u]) → Below base w w' → wpList P ops Q rest (a.put o.dst v') w') :
    wpList P ops Q (o :: rest) a (w.alloc (.cells #[u] e)) := by
  refine wpList_append_own (P := P) _ hgd s x t ho base e i z 1 bytes ht hi hz hsize hby hzs (by omega) v n xs hs (hown.alloc _) ⟨w.heap.size, 0, none⟩ 1 1 [u] hx rfl ?_ ?_ h63 hbytes (by simp; omega) ?_
  · exact cell_one_new _ _ _
  · intro q hq
    simp only [List.mem_singleton] at hq
    subst hq
    exact h1
  · intro v' w' h2 h3 _
    refine h v' w' h2 ?_
    refine (((Below.refl _ _).alloc hbase _).grown h3 (by simp; omega) ?_)
    intro k hk
    exact (hown.lt k hk).1
end

theorem infoInt : (Tryz.prog.info? 3).map (fun i => (i.zero, i.size, i.bytes)) = some (some (.int .i64 0), 1, 8) := by kernel_rfl
theorem infoRune : (Tryz.prog.info? 21).map (fun i => (i.zero, i.size, i.bytes)) = some (some (.int .i32 0), 1, 4) := by kernel_rfl
end Go.Proofs.YtkmfegamblmpeaaGreatDoor

/- The layer hangul: what each function answers, by walking its text. -/
namespace Go.Proofs.YtkmfegamblmpeaaGreatDoor
open Go.RowKit
set_option linter.unusedSimpArgs false
set_option linter.unusedVariables false

def Hg.ofK (c : Int) : Int :=
  if 4352 ≤ c ∧ c < 4371 then 1 else if 4449 ≤ c ∧ c < 4470 then 2 else if 4520 ≤ c ∧ c < 4547 then 3
  else if ¬ (44032 ≤ c ∧ c < 55204) then 0 else if (c - 44032) % 28 = 0 then 4 else 5

set_option maxHeartbeats 400000 in
theorem Hg.of_any (c : Int) (w : World) (h1 : -2147483648 ≤ c) (h2 : c ≤ 2147483647) :
    Calls Tryz.prog 42 #[.int .i32 c] w fun e w' => e = .returned (.int .i64 (Hg.ofK c)) ∧ w = w' := by
  go_enter Tryz.func42, Tryz.ntmps42
  go_wp2
  all_goals
    go_ret
    refine ⟨ret_int ?_, rfl⟩
    try simp only [beq_iff_eq, beq_eq_false_iff_ne, Bool.not_eq_true', Bool.not_eq_false', decide_eq_true_eq, decide_eq_false_iff_not] at *
    unfold Hg.ofK
    grind

def Hg.pairK (c : Int) : Int × Int × Bool :=
  if Hg.ofK c = 4 then (4352 + (c - 44032) / 588, 4449 + (c - 44032) % 588 / 28, true)
  else if Hg.ofK c = 5 then (c - (c - 44032) % 28, 4519 + (c - 44032) % 28, true)
  else (0, 0, false)

theorem Hg.ofK_syl (c : Int) (h : Hg.ofK c = 4 ∨ Hg.ofK c = 5) : 44032 ≤ c ∧ c < 55204 := by
  unfold Hg.ofK at h
  grind

set_option maxHeartbeats 400000 in
theorem Hg.pair_any (c : Int) (w : World) (h1 : -2147483648 ≤ c) (h2 : c ≤ 2147483647) :
    Calls Tryz.prog 38 #[.int .i32 c] w fun e w' => e = .returned (.tuple #[.int .i32 (Hg.pairK c).1, .int .i32 (Hg.pairK c).2.1, .bool (Hg.pairK c).2.2]) ∧ w = w' := by
  by_cases h4 : Hg.ofK c = 4
  · have hs := Hg.ofK_syl c (.inl h4)
    obtain ⟨hs1, hs2⟩ := hs
    have hb := beq_iff_eq.2 h4
    have H4 := Lib.hid h4
    clear h4
    go_enter Tryz.func38, Tryz.ntmps38
    go_wp2_with (go_at_call 42; refine (Hg.of_any _ _ h1 h2).mono ?_; rintro e w' ⟨rfl, rfl⟩)
    go_ret3
    refine ⟨ret_tuple3 ?_, rfl⟩
    unfold Hg.pairK
    rw [if_pos H4.out]
  · by_cases h5 : Hg.ofK c = 5
    · have hs := Hg.ofK_syl c (.inr h5)
      obtain ⟨hs1, hs2⟩ := hs
      have hb : (Hg.ofK c == 4) = false := by rw [h5]; rfl
      have hb5 := beq_iff_eq.2 h5
      have H5 := Lib.hid h5
      have H4 := Lib.hid h4
      clear h4 h5
      go_enter Tryz.func38, Tryz.ntmps38
      go_wp2_with (go_at_call 42; refine (Hg.of_any _ _ h1 h2).mono ?_; rintro e w' ⟨rfl, rfl⟩)
      go_ret3
      refine ⟨ret_tuple3 ?_, rfl⟩
      unfold Hg.pairK
      rw [if_neg H4.out, if_pos H5.out]
    · have hb : (Hg.ofK c == 4) = false := beq_eq_false_iff_ne.2 h4
      have hb5 : (Hg.ofK c == 5) = false := beq_eq_false_iff_ne.2 h5
      have H5 := Lib.hid h5
      have H4 := Lib.hid h4
      clear h4 h5
      go_enter Tryz.func38, Tryz.ntmps38
      go_wp2_with (go_at_call 42; refine (Hg.of_any _ _ h1 h2).mono ?_; rintro e w' ⟨rfl, rfl⟩)
      go_ret3
      refine ⟨ret_tuple3 ?_, rfl⟩
      unfold Hg.pairK
      rw [if_neg H4.out, if_neg H5.out]

def Hg.splitK (c : Int) : List Int :=
  if Hg.ofK c = 4 then [4352 + (c - 44032) / 588, 4449 + (c - 44032) % 588 / 28]
  else if Hg.ofK c = 5 then [4352 + (c - 44032) / 588, 4449 + (c - 44032) % 588 / 28, 4519 + (c - 44032) % 28]
  else []

theorem Hg.ofK_four (c : Int) (h1 : 44032 ≤ c) (h2 : c < 55204) (h : (c - 44032) % 28 = 0) : Hg.ofK c = 4 := by
  unfold Hg.ofK
  grind

theorem Hg.pairK_four (c : Int) (h : Hg.ofK c = 4) : Hg.pairK c = (4352 + (c - 44032) / 588, 4449 + (c - 44032) % 588 / 28, true) := by
  unfold Hg.pairK; rw [if_pos h]
theorem Hg.pairK_five (c : Int) (h : Hg.ofK c = 5) : Hg.pairK c = (c - (c - 44032) % 28, 4519 + (c - 44032) % 28, true) := by
  unfold Hg.pairK; rw [if_neg (by rw [h]; decide), if_pos h]
theorem Hg.pairK_none (c : Int) (h4 : ¬ Hg.ofK c = 4) (h5 : ¬ Hg.ofK c = 5) : Hg.pairK c = (0, 0, false) := by
  unfold Hg.pairK; rw [if_neg h4, if_neg h5]

theorem Hg.two_of (c : Int) (h1 : 44032 ≤ c) (h2 : c < 55204) : Hg.pairK (c - (c - 44032) % 28) = (4352 + (c - 44032) / 588, 4449 + (c - 44032) % 588 / 28, true) := by
  rw [Hg.pairK_four _ (Hg.ofK_four _ (by omega) (by omega) (by omega))]
  refine Prod.ext ?_ (Prod.ext ?_ rfl) <;> simp only [] <;> omega

def Hg.joinK (a b : Int) : Int × Bool :=
  if Hg.ofK a = 1 ∧ Hg.ofK b = 2 then (44032 + ((a - 4352) * 21 + b - 4449) * 28, true)
  else if Hg.ofK a = 4 ∧ Hg.ofK b = 3 then (a + b - 4519, true) else (0, false)

theorem Hg.ofK_lead (c : Int) (h : Hg.ofK c = 1) : 4352 ≤ c ∧ c < 4371 := by unfold Hg.ofK at h; grind
theorem Hg.ofK_vowel (c : Int) (h : Hg.ofK c = 2) : 4449 ≤ c ∧ c < 4470 := by unfold Hg.ofK at h; grind
theorem Hg.ofK_trail (c : Int) (h : Hg.ofK c = 3) : 4520 ≤ c ∧ c < 4547 := by unfold Hg.ofK at h; grind

set_option maxHeartbeats 400000 in
theorem Hg.join_any (a b : Int) (w : World) (h1 : -2147483648 ≤ a) (h2 : a ≤ 2147483647) (h3 : -2147483648 ≤ b) (h4 : b ≤ 2147483647) :
    Calls Tryz.prog 66 #[.int .i32 a, .int .i32 b] w fun e w' => e = .returned (.tuple #[.int .i32 (Hg.joinK a b).1, .bool (Hg.joinK a b).2]) ∧ w = w' := by
  by_cases ha : Hg.ofK a = 1
  · have hab := Hg.ofK_lead a ha
    obtain ⟨ha1, ha2⟩ := hab
    have q1 : (Hg.ofK a == 1) = true := beq_iff_eq.2 ha
    have q4 : (Hg.ofK a == 4) = false := by rw [ha]; rfl
    by_cases hb : Hg.ofK b = 2
    · have hbb := Hg.ofK_vowel b hb
      obtain ⟨hb1, hb2⟩ := hbb
      have q2 : (Hg.ofK b == 2) = true := beq_iff_eq.2 hb
      have HA := Lib.hid ha
      have HB := Lib.hid hb
      clear ha hb
      go_enter Tryz.func66, Tryz.ntmps66
      go_wp2_with (go_at_call 42; refine (Hg.of_any _ _ (by omega) (by omega)).mono ?_; rintro e w' ⟨rfl, rfl⟩)
      go_ret2
      refine ⟨ret_tuple2 ?_, rfl⟩
      unfold Hg.joinK
      rw [if_pos ⟨HA.out, HB.out⟩]
    · have q2 : (Hg.ofK b == 2) = false := beq_eq_false_iff_ne.2 hb
      have HA := Lib.hid ha
      have HB := Lib.hid hb
      clear ha hb
      go_enter Tryz.func66, Tryz.ntmps66
      go_wp2_with (go_at_call 42; refine (Hg.of_any _ _ (by omega) (by omega)).mono ?_; rintro e w' ⟨rfl, rfl⟩)
      go_ret2
      refine ⟨ret_tuple2 ?_, rfl⟩
      unfold Hg.joinK
      rw [if_neg (fun h => HB.out h.2), if_neg (fun h => by have := HA.out; omega)]
  · have q1 : (Hg.ofK a == 1) = false := beq_eq_false_iff_ne.2 ha
    by_cases ha4 : Hg.ofK a = 4
    · have hab := Hg.ofK_syl a (.inl ha4)
      obtain ⟨ha1, ha2⟩ := hab
      have q4 : (Hg.ofK a == 4) = true := beq_iff_eq.2 ha4
      by_cases hb : Hg.ofK b = 3
      · have hbb := Hg.ofK_trail b hb
        obtain ⟨hb1, hb2⟩ := hbb
        have q2 : (Hg.ofK b == 3) = true := beq_iff_eq.2 hb
        have HA := Lib.hid ha
        have HA4 := Lib.hid ha4
        have HB := Lib.hid hb
        clear ha ha4 hb
        go_enter Tryz.func66, Tryz.ntmps66
        go_wp2_with (go_at_call 42; refine (Hg.of_any _ _ (by omega) (by omega)).mono ?_; rintro e w' ⟨rfl, rfl⟩)
        go_ret2
        refine ⟨ret_tuple2 ?_, rfl⟩
        unfold Hg.joinK
        rw [if_neg (fun h => HA.out h.1), if_pos ⟨HA4.out, HB.out⟩]
      · have q2 : (Hg.ofK b == 3) = false := beq_eq_false_iff_ne.2 hb
        have HA := Lib.hid ha
        have HA4 := Lib.hid ha4
        have HB := Lib.hid hb
        clear ha ha4 hb
        go_enter Tryz.func66, Tryz.ntmps66
        go_wp2_with (go_at_call 42; refine (Hg.of_any _ _ (by omega) (by omega)).mono ?_; rintro e w' ⟨rfl, rfl⟩)
        go_ret2
        refine ⟨ret_tuple2 ?_, rfl⟩
        unfold Hg.joinK
        rw [if_neg (fun h => HA.out h.1), if_neg (fun h => HB.out h.2)]
    · have q4 : (Hg.ofK a == 4) = false := beq_eq_false_iff_ne.2 ha4
      have HA := Lib.hid ha
      have HA4 := Lib.hid ha4
      clear ha ha4
      go_enter Tryz.func66, Tryz.ntmps66
      go_wp2_with (go_at_call 42; refine (Hg.of_any _ _ (by omega) (by omega)).mono ?_; rintro e w' ⟨rfl, rfl⟩)
      go_ret2
      refine ⟨ret_tuple2 ?_, rfl⟩
      unfold Hg.joinK
      rw [if_neg (fun h => HA.out h.1), if_neg (fun h => HA4.out h.1)]

set_option maxHeartbeats 400000 in
theorem Hg.kind_any (c : Int) (w : World) (h1 : -2147483648 ≤ c) (h2 : c ≤ 2147483647) :
    Calls Tryz.prog 60 #[.int .i64 c] w fun e w' => e = .returned (.int .i64 (Hg.ofK c)) ∧ w = w' := by
  go_enter Tryz.func60, Tryz.ntmps60
  go_wp2
  all_goals
    go_ret
    refine ⟨ret_int ?_, rfl⟩
    try simp only [beq_iff_eq, beq_eq_false_iff_ne, Bool.not_eq_true', Bool.not_eq_false', decide_eq_true_eq, decide_eq_false_iff_not] at *
    unfold Hg.ofK
    grind

set_option maxHeartbeats 1000000 in
theorem Hg.parts_any (c : Int) (w : World) (h1 : -2147483648 ≤ c) (h2 : c ≤ 2147483647) :
    Calls Tryz.prog 36 #[.int .i64 c] w (RetInts .i64 (Hg.splitK c) w) := by
  go_enter Tryz.func36, Tryz.ntmps36
  go_wp2
  go_loop [3, 4] (fun n l => ∃ k : Int, 0 ≤ k ∧ k ≤ 19 ∧ n = .int .i64 (44032 + 588 * k) ∧ l = .int .i64 (4352 + k) ∧ (k = 0 ∨ 44032 + 588 * k ≤ c)) (fun _ l => (5000 - intOf l).toNat)
  case atStart => exact ⟨0, by omega, by omega, rfl, rfl, .inl rfl⟩
  case round =>
    obtain ⟨k, hk0, hk1, rfl, rfl, hk⟩ := hrel
    by_cases hl : 4352 + k ≤ 4370
    · by_cases hc : 44032 + 588 * k + 588 ≤ c
      · go_wp2
        exact ⟨⟨k + 1, by omega, by omega, by go_num, by go_num, .inr (by omega)⟩, by simp [intOf]; omega⟩
      · go_wp2
        go_loop [3, 5] (fun n v => ∃ j : Int, 0 ≤ j ∧ j ≤ 21 ∧ n = .int .i64 (44032 + 588 * k + 28 * j) ∧ v = .int .i64 (4449 + j) ∧ (j = 0 ∨ 44032 + 588 * k + 28 * j ≤ c)) (fun _ v => (5000 - intOf v).toNat)
        case atStart => exact ⟨0, by omega, by omega, by go_num, rfl, .inl rfl⟩
        case round =>
          obtain ⟨j, hj0, hj1, rfl, rfl, hj⟩ := hrel
          by_cases hv : 4449 + j ≤ 4469
          · by_cases hd : 44032 + 588 * k + 28 * j + 28 ≤ c
            · go_wp2
              exact ⟨⟨j + 1, by omega, by omega, by go_num, by go_num, .inr (by omega)⟩, by simp [intOf]; omega⟩
            · by_cases he : c = 44032 + 588 * k + 28 * j
              · have hb : (c == 44032 + 588 * k + 28 * j) = true := beq_iff_eq.2 he
                have H4 := Hg.ofK_four c (by omega) (by omega) (by omega)
                have HS : Hid (Hg.splitK c = [4352 + k, 4449 + j]) := by
                  show Hg.splitK c = [4352 + k, 4449 + j]
                  unfold Hg.splitK
                  rw [if_pos H4, show (c - 44032) / 588 = k from by omega, show (c - 44032) % 588 / 28 = j from by omega]
                clear H4
                have HE := Lib.hid he
                clear he
                go_wp2
                go_ret
                rw [HS.out]
                exact ⟨_, _, rfl, Sl.lit rfl _ _ (heap_alloc_new _ _), (Below.refl _ _).alloc (Nat.le_refl _) _⟩
              · have hb : (c == 44032 + 588 * k + 28 * j) = false := beq_eq_false_iff_ne.2 he
                by_cases hg : 44032 + 588 * k + 28 * j < c
                · have H5 : Hg.ofK c = 5 := by unfold Hg.ofK; grind
                  have HS : Hid (Hg.splitK c = [4352 + k, 4449 + j, 4519 + c - (44032 + 588 * k + 28 * j)]) := by
                    show Hg.splitK c = [4352 + k, 4449 + j, 4519 + c - (44032 + 588 * k + 28 * j)]
                    unfold Hg.splitK
                    rw [if_neg (by rw [H5]; decide), if_pos H5, show (c - 44032) / 588 = k from by omega, show (c - 44032) % 588 / 28 = j from by omega,
                      show 4519 + (c - 44032) % 28 = 4519 + c - (44032 + 588 * k + 28 * j) from by omega]
                  clear H5
                  go_wp2
                  go_ret
                  rw [HS.out]
                  exact ⟨_, _, rfl, Sl.lit rfl _ _ (heap_alloc_new _ _), (Below.refl _ _).alloc (Nat.le_refl _) _⟩
                · have HS : Hid (Hg.splitK c = []) := by
                    show Hg.splitK c = []
                    have : ¬ (44032 ≤ c ∧ c < 55204) := by omega
                    unfold Hg.splitK
                    rw [if_neg (fun h => this (Hg.ofK_syl c (.inl h))), if_neg (fun h => this (Hg.ofK_syl c (.inr h)))]
                  go_wp2
                  go_ret
                  rw [HS.out]
                  exact ⟨_, _, rfl, fun h => absurd h (by simp), Below.refl _ _⟩
          · omega
    · have HS : Hid (Hg.splitK c = []) := by
        show Hg.splitK c = []
        have : ¬ (44032 ≤ c ∧ c < 55204) := by omega
        unfold Hg.splitK
        rw [if_neg (fun h => this (Hg.ofK_syl c (.inl h))), if_neg (fun h => this (Hg.ofK_syl c (.inr h)))]
      go_wp2
      go_ret
      rw [HS.out]
      exact ⟨_, _, rfl, fun h => absurd h (by simp), Below.refl _ _⟩
end Go.Proofs.YtkmfegamblmpeaaGreatDoor
