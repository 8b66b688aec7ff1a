/- A slice of the document's rows that came in. -/
import Derived.Test.YtamcpdggpdaioaaMdFind
import Derived.Test.YtamcpdggpdaioaaMdTable
import Derived.Test.YtamcpdggpdaioaaSlt
import Derived.Deep.SlicePairs
import Derived.Deep.Strs
import Derived.ProofKit
import Derived.OpenShut
import Derived.Test.YtamcpdggpdaioaaRwRow
import Derived.Laws.BitsAllLaws
namespace Go.Proofs.Ytamcpdggpdaioaa
open Go.ChangeShapes Go.WideShapes Go.RowKit Go.Deep
set_option linter.unusedSimpArgs false
set_option linter.unusedVariables false

def Rw.bounds (r : Rw.Row) : Prop := (-9223372036854775808 ≤ r.1 ∧ r.1 ≤ 9223372036854775807) ∧ (-9223372036854775808 ≤ r.2.1 ∧ r.2.1 ≤ 9223372036854775807) ∧ r.2.2.length ≤ maxLen ∧ ∀ c ∈ r.2.2, -9223372036854775808 ≤ c ∧ c ≤ 9223372036854775807
/-- Rows that came in: nil; or a row of them. -/
def Rw.IsRows (w : World) (a : Option Addr) (len cap : Nat) (l : List Rw.Row) : Prop :=
  ∃ ads, ads.length = l.length ∧ l.length = len ∧ len ≤ cap ∧ cap ≤ maxLen ∧ Sl w w.heap.size a (Rw.flI l ads) ∧
    (∀ (i : Nat) (r : Rw.Row) (a : Option Addr × Nat), l[i]? = some r → ads[i]? = some a → Sl w w.heap.size a.1 (r.2.2.map (Value.int .i64))) ∧ ∀ r ∈ l, Rw.bounds r

theorem Rw.getD_get {α : Type} {n : Nat} {f : Nat → α} {i : Nat} {x : α} (h : ((List.range n).map f)[i]? = some x) : i < n ∧ f i = x := by
  have hlt := (List.getElem?_eq_some_iff.1 h).1
  simp at hlt
  rw [List.getElem?_map, List.getElem?_range hlt] at h
  simp at h
  exact ⟨hlt, h⟩
theorem Rw.flI_cell {w : World} {b o : Nat} : ∀ (l : List Rw.Row) (ads : List (Option Addr × Nat)) (k : Nat), ads.length = l.length →
    (∀ i r a, l[i]? = some r → ads[i]? = some a → w.cell? ⟨b, o + (k + i) * 3, none⟩ = some (.int .i64 r.1) ∧ w.cell? ⟨b, o + (k + i) * 3 + 1, none⟩ = some (.int .i64 r.2.1) ∧ w.cell? ⟨b, o + (k + i) * 3 + 2, none⟩ = some (.slice a.1 r.2.2.length a.2)) →
    ∀ j, j < (Rw.flI l ads).length → w.cell? ⟨b, o + k * 3 + j, none⟩ = (Rw.flI l ads)[j]?
  | [], _, k, _, _, j, hj => by simp [Rw.flI] at hj
  | _ :: _, [], k, h, _, j, hj => by simp at h
  | r :: t, a :: as', k, hl, h, j, hj => by
    obtain ⟨h0, h1, h2⟩ := h 0 r a rfl rfl
    rw [Nat.add_zero] at h0 h1 h2
    have ih := Rw.flI_cell t as' (k + 1) (by simpa using hl) (fun i r' a' hi hi' => by
      have := h (i + 1) r' a' (by simpa using hi) (by simpa using hi')
      rw [show k + (i + 1) = k + 1 + i by omega] at this
      exact this)
    rcases j with _ | _ | _ | j
    · exact h0
    · rw [show o + k * 3 + (0 + 1) = o + k * 3 + 1 by omega]; exact h1
    · rw [show o + k * 3 + (0 + 1 + 1) = o + k * 3 + 2 by omega]; exact h2
    · have := ih j (by simp only [Rw.flI, List.length_cons] at hj; omega)
      rw [show o + k * 3 + (j + 1 + 1 + 1) = o + (k + 1) * 3 + j by omega, this]
      rfl

theorem Rw.isRows_of {H : Type} {enc : TypeId × Value → H} {P : Program} {w : World} {t e q : TypeId} {f0 f1 f2 : Field} {fuel : Nat} {a : Option Addr} {len cap : Nat} {x : DataW H × List MemPlace} (ht : P.underlying t = some (.slice e)) (he : P.underlying e = some (.struct #[f0, f1, f2]))
    (ce : P.cellsOf e = 3) (o0 : f0.offset = 0) (o1 : f1.offset = 1) (o2 : f2.offset = 2) (c0 : P.cellsOf f0.type = 1) (c1 : P.cellsOf f1.type = 1) (c2 : P.cellsOf f2.type = 1) (k0 : P.underlying f0.type = some (.int .i64)) (k1 : P.underlying f1.type = some (.int .i64))
    (k2 : P.underlying f2.type = some (.slice q)) (k3 : P.underlying q = some (.int .i64)) (c3 : P.cellsOf q = 1)
    (h : DataW.trod enc P w 0 (fun _ => true) true fuel t [.slice a len cap] = some x) : ∃ l, Rw.IsRows w a len cap l := by
  rcases open_slice ht h with ⟨hcs, _⟩ | ⟨ad, l, c, m, n, D, Pl, hcs, hb, hl, hm, hmm, _, hx⟩
  · simp only [List.cons.injEq, Value.slice.injEq, and_true] at hcs
    obtain ⟨rfl, rfl, rfl⟩ := hcs
    exact ⟨[], [], rfl, rfl, Nat.le_refl _, by decide, Sl.nil _ _ _, by simp, by simp⟩
  · simp only [List.cons.injEq, Value.slice.injEq, and_true] at hcs
    obtain ⟨rfl, rfl, rfl⟩ := hcs
    have hlm : len ≤ m := by rw [hmm]; split <;> omega
    have each : ∀ i, i < len → ∃ q : Rw.Row × Option Addr × Nat, w.cell? (ad.add (i * 3)) = some (.int .i64 q.1.1) ∧ w.cell? (ad.add (i * 3 + 1)) = some (.int .i64 q.1.2.1) ∧ w.cell? (ad.add (i * 3 + 2)) = some (.slice q.2.1 q.1.2.2.length q.2.2) ∧
        Sl w w.heap.size q.2.1 (q.1.2.2.map (Value.int .i64)) ∧ Rw.bounds q.1 := by
      intro i hi
      obtain ⟨cs', h1, h2⟩ := hx i (by omega)
      rw [ce] at h1
      obtain ⟨_, hlen, hcell⟩ := World.cells?_some h1
      obtain ⟨y0, y1, y2, n', _, _, g0, g1, g2⟩ := trod_struct3 he h2
      match cs', hlen with
      | [v0, v1, v2], _ =>
        simp [o0, o1, o2, c0, c1, c2] at g0 g1 g2
        obtain ⟨z0, e0, _, w0⟩ := DataW.trod_int k0 g0
        obtain ⟨z1, e1, _, w1⟩ := DataW.trod_int k1 g1
        simp only [List.cons.injEq, and_true] at e0 e1
        have d0 := hcell 0 (by omega)
        have d1 := hcell 1 (by omega)
        have d2 := hcell 2 (by omega)
        rw [add_add] at d0 d1 d2
        obtain ⟨a2, l2, p2, zs, ev, hR⟩ : ∃ a2 l2 p2 zs, v2 = .slice a2 l2 p2 ∧ IsRow .i64 w a2 l2 p2 zs := by
          rcases open_ints k2 k3 c3 g2 with ⟨hcs, _⟩ | ⟨x, l, c, zs, hcs, _, hl, hm, hz, _, hcel2, hwz⟩
          · simp only [List.cons.injEq, and_true] at hcs
            subst hcs
            exact ⟨none, 0, 0, [], rfl, .inl ⟨rfl, rfl, rfl, rfl⟩⟩
          · simp only [List.cons.injEq, and_true] at hcs
            subst hcs
            exact ⟨some x, l, c, zs, rfl, .inr ⟨_, rfl, hl, hm, by simpa using hz, hcel2, hwz⟩⟩
        subst ev
        obtain ⟨q1, q2, q3⟩ := hR.len_le
        have hlz : (zs.take l2).length = l2 := by rw [List.length_take, q3]; omega
        refine ⟨((z0, z1, zs.take l2), a2, p2), ?_, ?_, ?_, hR.sl l2 (Nat.le_refl _), bounds_i64 w0, bounds_i64 w1, by show (zs.take l2).length ≤ maxLen; omega, fun c hc => bounds_i64 (hR.wf c (List.mem_of_mem_take hc))⟩
        · rw [← e0]; simpa using d0
        · rw [← e1]; simpa using d1
        · show w.cell? (ad.add (i * 3 + 2)) = some (.slice a2 (zs.take l2).length p2)
          rw [hlz]; simpa using d2
    obtain ⟨q, hq⟩ := choose_lt each
    refine ⟨(List.range len).map fun i => (q i).1, (List.range len).map fun i => (q i).2, by simp, by simp, hl, hm, ?_, ?_, ?_⟩
    · intro hne
      rw [Rw.flI_len _ _ (by simp), List.length_map, List.length_range] at hne
      obtain ⟨b, off, spot⟩ := ad
      have hc0 := (hq 0 (by omega)).1
      have hspot : spot = none := by simpa [Addr.add] using World.cell?_spot hc0
      subst hspot
      have hadd : ∀ i, (⟨b, off, none⟩ : Addr).add i = ⟨b, off + i, none⟩ := by
        intro i; unfold Addr.add; split <;> simp_all
      refine ⟨b, off, rfl, ?_, fun j hj => ?_⟩
      · rw [hadd] at hc0
        exact World.block_lt_of_cell? w _ hc0
      · have := Rw.flI_cell (w := w) (b := b) (o := off) ((List.range len).map fun i => (q i).1) ((List.range len).map fun i => (q i).2) 0 (by simp) (fun i r a hi hi' => by
          obtain ⟨hi1, he1⟩ := Rw.getD_get hi
          obtain ⟨_, he2⟩ := Rw.getD_get hi'
          obtain ⟨a0, a1, a2, _⟩ := hq i hi1
          rw [hadd] at a0 a1 a2
          rw [he1] at a0 a1 a2
          rw [he2] at a2
          rw [Nat.zero_add]
          exact ⟨a0, a1, a2⟩) j hj
        simpa using this
    · intro i r a hi hi'
      obtain ⟨hi1, he1⟩ := Rw.getD_get hi
      obtain ⟨_, he2⟩ := Rw.getD_get hi'
      have := (hq i hi1).2.2.2.1
      rw [he1, he2] at this
      exact this
    · intro r hr
      obtain ⟨i, hi, rfl⟩ := List.mem_map.1 hr
      exact (hq i (List.mem_range.1 hi)).2.2.2.2
end Go.Proofs.Ytamcpdggpdaioaa

/- The laws' Char and Chars, by walking their texts. -/
namespace Go.Proofs.Ytamcpdggpdaioaa
open Go.RowKit
set_option linter.unusedSimpArgs false
set_option linter.unusedVariables false

theorem Ch.isC_iff (c : Int) : C.isC c = true ↔ (0 ≤ c ∧ c ≤ 1114111 ∧ (c < 55296 ∨ 57343 < c)) := by unfold C.isC; simp
theorem Ch.take_succ_get {α : Type} {l : List α} {k : Nat} {x : α} (h : l[k]? = some x) : l.take (k + 1) = l.take k ++ [x] := by
  rw [List.take_add_one, h]; rfl
def Ch.RetOwn (el : TypeId) (k : IntKind) (l : List Int) (w : World) (e : Ending) (w' : World) : Prop :=
  ∃ A c, e = .returned (.slice A l.length c) ∧ w'.ownsRow w.heap.size el 1 (.slice A l.length c) l.length (l.map (Value.int k)) ∧ Below w.heap.size w w'
theorem Ch.RetOwn.mk {el : TypeId} {k : IntKind} {l : List Int} {w w' : World} {v : Value} {m : Nat} {xs : List Value} (h : w'.ownsRow w.heap.size el 1 v m xs) (hm : m = l.length) (hx : xs = l.map (Value.int k)) (hb : Below w.heap.size w w') :
    Ch.RetOwn el k l w (.returned v) w' := by
  subst hm hx
  obtain ⟨A, c, rfl⟩ := own_form h
  exact ⟨A, c, rfl, h, hb⟩
theorem Ch.and_21 (n : Int) : bits .and .i64 n 2097151 = n % 2097152 := by
  have hm : (BitVec.ofInt 64 2097151).toNat = 2 ^ 21 - 1 := by decide
  have key : (BitVec.ofInt 64 n &&& BitVec.ofInt 64 2097151).toNat = (n % ((2 ^ 64 : Nat) : Int)).toNat % 2 ^ 21 := by
    rw [BitVec.toNat_and, BitVec.toNat_ofInt, hm, Nat.and_two_pow_sub_one_eq_mod]
  show IntKind.i64.wrap ((BitVec.ofInt 64 n &&& BitVec.ofInt 64 2097151).toNat : Nat) = n % 2097152
  rw [key, IntKind.wrap_i64]
  omega
theorem Ch.and_11 (n : Int) : bits .and .i64 n 2047 = n % 2048 := by
  have hm : (BitVec.ofInt 64 2047).toNat = 2 ^ 11 - 1 := by decide
  have key : (BitVec.ofInt 64 n &&& BitVec.ofInt 64 2047).toNat = (n % ((2 ^ 64 : Nat) : Int)).toNat % 2 ^ 11 := by
    rw [BitVec.toNat_and, BitVec.toNat_ofInt, hm, Nat.and_two_pow_sub_one_eq_mod]
  show IntKind.i64.wrap ((BitVec.ofInt 64 n &&& BitVec.ofInt 64 2047).toNat : Nat) = n % 2048
  rw [key, IntKind.wrap_i64]
  omega

def Ch.K (x : Int) : Int := if C.isC (x % 2097152) then x % 2097152 else x % 2097152 % 2048
theorem Ch.K_is (x : Int) : C.isC (Ch.K x) = true := by
  unfold Ch.K
  split
  · assumption
  · rw [Ch.isC_iff]; omega

theorem Ch.K_bd (x : Int) : -2147483648 ≤ Ch.K x ∧ Ch.K x ≤ 2147483647 := by
  have := (Ch.isC_iff _).1 (Ch.K_is x)
  omega

set_option maxRecDepth 100000 in
theorem Ch.ris_any (c : Int) (w : World) : Calls Try.prog 41 #[.int .i64 c] w fun e w' => e = .returned (.bool (C.isC c)) ∧ w = w' := by
  obtain ⟨q, hq⟩ : ∃ q, C.isC c = q := ⟨_, rfl⟩
  rw [hq]
  have HQ := Lib.hid hq
  clear hq
  go_enter Try.func41, Try.ntmps41
  by_cases h0 : 0 ≤ c
  · by_cases h1 : c ≤ 1114111
    · by_cases h2 : c < 55296
      · go_wp2
        go_ret
        exact ⟨by rw [← HQ.out]; exact ret_bool (by unfold C.isC; symm; exact decide_eq_true (by omega)), rfl⟩
      · by_cases h3 : 57343 < c
        · go_wp2
          go_ret
          exact ⟨by rw [← HQ.out]; exact ret_bool (by unfold C.isC; symm; exact decide_eq_true (by omega)), rfl⟩
        · go_wp2
          go_ret
          exact ⟨by rw [← HQ.out]; exact ret_bool (by unfold C.isC; symm; exact decide_eq_false (by omega)), rfl⟩
    · go_wp2
      go_ret
      exact ⟨by rw [← HQ.out]; exact ret_bool (by unfold C.isC; symm; exact decide_eq_false (by omega)), rfl⟩
  · go_wp2
    go_ret
    exact ⟨by rw [← HQ.out]; exact ret_bool (by unfold C.isC; symm; exact decide_eq_false (by omega)), rfl⟩

set_option maxRecDepth 100000 in
set_option maxHeartbeats 400000 in
theorem Ch.char_any (x : Int) (w : World) :
    Calls Try.prog 19 #[.int .i64 x] w fun e w' => e = .returned (.int .i32 (Ch.K x)) ∧ w = w' := by
  have e1 := Ch.and_21 x
  have e2 := Ch.and_11 (x % 2097152)
  have b1 : 0 ≤ x % 2097152 := by omega
  have b2 : x % 2097152 ≤ 2097151 := by omega
  have b3 : 0 ≤ x % 2048 := by omega
  have b4 : x % 2048 ≤ 2047 := by omega
  by_cases hi : C.isC (x % 2097152) = true
  · have hk : Ch.K x = x % 2097152 := by unfold Ch.K; rw [if_pos hi]
    have HK := Lib.hid hk
    clear hk
    go_enter Try.func19, Try.ntmps19
    go_wp2_with (go_at_call 41; refine (Ch.ris_any _ _).mono ?_; rintro e w' ⟨rfl, rfl⟩)
    go_ret
    exact ⟨ret_int HK.out.symm, rfl⟩
  · have hk : Ch.K x = x % 2048 := by unfold Ch.K; rw [if_neg hi]; omega
    have hi' : C.isC (x % 2097152) = false := by simpa using hi
    have HK := Lib.hid hk
    clear hk hi
    go_enter Try.func19, Try.ntmps19
    go_wp2_with (go_at_call 41; refine (Ch.ris_any _ _).mono ?_; rintro e w' ⟨rfl, rfl⟩)
    go_ret
    exact ⟨ret_int HK.out.symm, rfl⟩

end Go.Proofs.Ytamcpdggpdaioaa
