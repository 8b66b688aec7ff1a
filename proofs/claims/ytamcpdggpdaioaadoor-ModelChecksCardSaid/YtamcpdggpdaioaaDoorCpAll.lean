/- The layer fault: Line, Notes, by walking their texts. -/
import Derived.Test.YtamcpdggpdaioaaDoorFaChain
import Derived.Test.YtamcpdggpdaioaaDoorExt
import Derived.Test.YtamcpdggpdaioaaDoorCpPlainE
import Derived.Test.YtamcpdggpdaioaaDoorCpArgs
import Derived.Test.YtamcpdggpdaioaaDoorSlt
namespace Go.Proofs.YtamcpdggpdaioaaDoor
open Go.RowKit Go.Stop
set_option linter.unusedSimpArgs false
set_option linter.unusedVariables false

def F.line : List (Int × Int × ByteArray) → Int
  | [] => 0
  | x :: t => if x.2.1 = 0 then F.line t else x.2.1
def F.notes : List (Int × Int × ByteArray) → List ByteArray
  | [] => []
  | x :: t => if x.2.2 = ⟨#[]⟩ then F.notes t else x.2.2 :: F.notes t
theorem F.notes_app : ∀ a b, F.notes (a ++ b) = F.notes a ++ F.notes b
  | [], b => rfl
  | x :: t, b => by
    show F.notes (x :: (t ++ b)) = F.notes (x :: t) ++ F.notes b
    simp only [F.notes, F.notes_app t b]
    split <;> rfl
theorem F.notes_len : ∀ a, (F.notes a).length ≤ a.length
  | [] => Nat.le_refl _
  | x :: t => by
    have := F.notes_len t
    unfold F.notes
    split <;> simp <;> omega
theorem F.line_drop {l : List (Int × Int × ByteArray)} {i : Nat} {x : Int × Int × ByteArray} (h : l[i]? = some x) : F.line (l.drop i) = if x.2.1 = 0 then F.line (l.drop (i + 1)) else x.2.1 := by
  obtain ⟨hlt, he⟩ := List.getElem?_eq_some_iff.1 h
  rw [List.drop_eq_getElem_cons hlt, he]
  rfl
theorem F.lk_get {q : List (Nat × Int × Int × ByteArray)} {i b : Nat} {c n : Int} {s : ByteArray} (h : q[i]? = some (b, c, n, s)) : (F.lk q)[i]? = some (c, n, s) := by
  unfold F.lk; rw [List.getElem?_map, h]; rfl
theorem F.lk_len (q : List (Nat × Int × Int × ByteArray)) : (F.lk q).length = q.length := by unfold F.lk; simp
theorem F.ba_nonempty (s : ByteArray) (h : ¬ s = ⟨#[]⟩) : s.toList.isEmpty = false := by
  rw [ByteArray.toList_eq s]
  rcases s with ⟨⟨l⟩⟩
  rcases l with _ | ⟨x, t⟩
  · exact absurd rfl h
  · rfl
/-- A pointer out of the row that chain has made. -/
theorem F.ptr_get {w : World} {B : Nat} {A : Option Addr} {q : List (Nat × Int × Int × ByteArray)} (h : Sl w B A (q.map F.ptr)) {i b : Nat} {c n : Int} {s : ByteArray} (hi : q[i]? = some (b, c, n, s)) :
    ∃ g o, A = some ⟨g, o, none⟩ ∧ g < B ∧ w.cell? ⟨g, o + i, none⟩ = some (.pointer (some ⟨b, 0, none⟩)) := by
  have hlt := (List.getElem?_eq_some_iff.1 hi).1
  obtain ⟨g, o, hA, hg, hc⟩ := h (by rw [List.length_map]; omega)
  refine ⟨g, o, hA, hg, ?_⟩
  rw [hc i (by rw [List.length_map]; exact hlt), List.getElem?_map, hi]
  rfl

set_option maxRecDepth 100000 in
set_option maxHeartbeats 2000000 in
theorem F.line_any (B : Nat) (q : List (Nat × Int × Int × ByteArray)) (v : Value) (w : World) (hB : B ≤ w.heap.size) (hq : F.Ch w B q v) (hlen : q.length ≤ 1000000) :
    Calls Tryd.prog 13 #[v] w fun e w' => e = .returned (.int .i64 (F.line (F.lk q))) ∧ Below w.heap.size w w' := by
  have HCH := Lib.hid (F.chain_any B q v w hB hq hlen)
  obtain ⟨N, hN⟩ : ∃ N, q.length = N := ⟨_, rfl⟩
  rw [hN] at hlen
  have HN := Lib.hid hN
  have HQ := Lib.hid hq
  obtain ⟨lv, hlv⟩ : ∃ lv, F.line (F.lk q) = lv := ⟨_, rfl⟩
  rw [hlv]
  have HLV := Lib.hid hlv
  clear hN hq hlv
  go_enter Tryd.func13, Tryd.ntmps13
  go_wp2_with fail
  refine HCH.out.mono ?_
  rintro e w1 ⟨A1, c1, rfl, hown, hb1⟩
  rw [HN.out] at hown ⊢
  have HP := Lib.hid (Sl.of_own hown)
  have HQ1 := Lib.hid (HQ.out.below hb1 hB (Nat.le_refl _))
  have hs1 := hb1.size
  clear hown
  go_wp2
  go_loopw [8] (fun vi wr => ∃ i : Nat, i ≤ N ∧ vi = .int .i64 i ∧ F.line ((F.lk q).drop i) = lv ∧ w1 = wr) (fun vi _ => N - (intOf vi).toNat)
  case atStart => exact ⟨0, by omega, rfl, by rw [List.drop_zero]; exact HLV.out, rfl⟩
  case round =>
    obtain ⟨i, hi, rfl, hl, rfl⟩ := hrel
    by_cases hlt : (i : Int) < N
    · obtain ⟨⟨b, c, n, s⟩, hx⟩ : ∃ x, q[i]? = some x := ⟨_, List.getElem?_eq_getElem (by rw [HN.out]; omega)⟩
      have hd := F.line_drop (F.lk_get hx)
      rw [hl] at hd
      obtain ⟨g, o, rfl, hg, hc⟩ := F.ptr_get HP.out hx
      obtain ⟨hb, e, hbl⟩ := F.Ch.get HQ1.out hx
      obtain ⟨d1, _⟩ := blk_cell hbl 1
      simp only [List.getElem?_toArray, List.getElem?_cons_zero, List.getElem?_cons_succ] at d1
      have n0 : (0 : Int) ≤ (i : Int) := by omega
      simp only at hd
      by_cases hn : n = 0
      · rw [if_pos hn] at hd
        have HD := Lib.hid hd
        subst hn
        clear hd hx hl hbl
        go_wp2
        exact ⟨⟨i + 1, by omega, by go_num, HD.out.symm, trivial⟩, by simp [intOf]; omega⟩
      · rw [if_neg hn] at hd
        have HD := Lib.hid hd
        clear hd hx hl hbl
        go_wp2
        go_ret
        exact ⟨by rw [HD.out]; rfl, hb1⟩
    · obtain rfl : i = N := by omega
      have h0 : lv = 0 := by
        rw [← hl, List.drop_eq_nil_of_le (by rw [F.lk_len, HN.out]; exact Nat.le_refl _)]; rfl
      have H0 := Lib.hid h0
      clear hl h0
      go_wp2
      go_ret
      exact ⟨by rw [H0.out]; rfl, hb1⟩

def F.RetStrs (l : List ByteArray) (w : World) (e : Ending) (w' : World) : Prop :=
  ∃ A c, e = .returned (.slice A l.length c) ∧ w'.ownsRow w.heap.size 9 1 (.slice A l.length c) l.length (l.map Value.string) ∧ Below w.heap.size w w'

set_option maxRecDepth 100000 in
set_option maxHeartbeats 2000000 in
theorem F.notes_any (B : Nat) (q : List (Nat × Int × Int × ByteArray)) (v : Value) (w : World) (hB : B ≤ w.heap.size) (hq : F.Ch w B q v) (hlen : q.length ≤ 1000000) :
    Calls Tryd.prog 12 #[v] w (F.RetStrs (F.notes (F.lk q)) w) := by
  have HCH := Lib.hid (F.chain_any B q v w hB hq hlen)
  obtain ⟨j0, hj0, hy0, hy1, hy2⟩ := info_parts infoStr
  obtain ⟨N, hN⟩ : ∃ N, q.length = N := ⟨_, rfl⟩
  rw [hN] at hlen
  have HN := Lib.hid hN
  have HQ := Lib.hid hq
  clear hN hq
  go_enter Tryd.func12, Tryd.ntmps12
  go_wp2_with fail
  refine HCH.out.mono ?_
  rintro e w1 ⟨A1, c1, rfl, hown, hb1⟩
  rw [HN.out] at hown ⊢
  have HP := Lib.hid (Sl.of_own hown)
  have HQ1 := Lib.hid (HQ.out.below hb1 hB hB)
  have hs1 := hb1.size
  clear hown
  go_wp2
  go_loopw [9, 3] (fun vi vo wr => ∃ (i : Nat) (acc : List ByteArray) (m : Nat), i ≤ N ∧ vi = .int .i64 i ∧ acc = F.notes ((F.lk q).take i) ∧ acc.length = m ∧ m ≤ i ∧ wr.ownsRow w1.heap.size 9 1 vo m (acc.map Value.string) ∧ Below w1.heap.size w1 wr) (fun vi _ _ => N - (intOf vi).toNat)
  case atStart => exact ⟨0, [], 0, by omega, rfl, rfl, rfl, Nat.le_refl _, World.ownsRow_nil _ _ _ _, Below.refl _ _⟩
  case round =>
    obtain ⟨i, acc, m, hi, rfl, hacc, hm, hmi, hown, hbr⟩ := hrel
    obtain ⟨w2, rfl⟩ : ∃ w2 : World, w2 = wr := ⟨_, rfl⟩
    obtain ⟨A2, c2, rfl⟩ := own_form hown
    have hs2 := hbr.size
    have HACC := Lib.hid hacc
    have HM := Lib.hid hm
    clear hacc hm
    by_cases hlt : (i : Int) < N
    · obtain ⟨⟨b, c, n, s⟩, hx⟩ : ∃ x, q[i]? = some x := ⟨_, List.getElem?_eq_getElem (by rw [HN.out]; omega)⟩
      have htk : F.notes ((F.lk q).take (i + 1)) = acc ++ F.notes [(c, n, s)] := by rw [List.take_add_one, F.lk_get hx, F.notes_app, ← HACC.out]; rfl
      obtain ⟨g, o, rfl, hg, hc⟩ := F.ptr_get HP.out hx
      obtain ⟨hb, e, hbl⟩ := F.Ch.get HQ1.out hx
      rw [← (bcell hbr).1 _ _ hg] at hc
      have hbl2 := (hbr.block b (by omega)).trans hbl
      obtain ⟨d2, _⟩ := blk_cell hbl2 2
      simp only [List.getElem?_toArray, List.getElem?_cons_zero, List.getElem?_cons_succ] at d2
      have n0 : (0 : Int) ≤ (i : Int) := by omega
      by_cases hs : s = ⟨#[]⟩
      · have htk2 : F.notes ((F.lk q).take (i + 1)) = acc := by rw [htk]; simp [F.notes, hs]
        have HT := Lib.hid htk2
        subst hs
        clear htk htk2 hx hbl hbl2
        go_wp2
        exact ⟨⟨i + 1, acc, m, by omega, by go_num, HT.out.symm, HM.out, by omega, hown, hbr⟩, by simp [intOf]; omega⟩
      · have htk2 : F.notes ((F.lk q).take (i + 1)) = acc ++ [s] := by rw [htk]; simp [F.notes, hs]
        have HT := Lib.hid htk2
        have hse := F.ba_nonempty s hs
        clear htk htk2 hx hbl hbl2
        have hZ := Lib.hid (Sl.lit (w := w2.alloc (.cells #[.string s] 9)) (A := some ⟨w2.heap.size, 0, none⟩) (xs := [.string s]) rfl 9 (0, 0) (heap_alloc_new w2 _))
        have hba : Below w2.heap.size w2 (w2.alloc (.cells #[.string s] 9)) := (Below.refl _ _).alloc (Nat.le_refl _) _
        have hown2 := Lib.hid (own_below hown hba (Nat.le_refl _))
        have hs3 : w1.heap.size ≤ (w2.alloc (.cells #[.string s] 9)).heap.size := by simp; omega
        have HBA : Hid (Below w1.heap.size w1 (w2.alloc (.cells #[.string s] 9))) := Lib.hid (hbr.trans (hba.mono hs2))
        clear hown hba hbr
        go_wp2_with (at_builtin; refine wpList_appendSl _ rfl _ _ _ rfl w1.heap.size 9 j0 _ 1 16 Tryd.underlying45 hj0 hy0 hy1 hy2 rfl (by omega) _ m _ rfl hown2.out _ (some ⟨w2.heap.size, 0, none⟩) 1 1 [.string s] rfl rfl hZ.out (by simp [Value.oneCell']) (by simp only [maxLen]; omega) (by omega) hs3 ?_; intro v1 w5 hown3 hb2 _; have hbz := HBA.out.trans hb2; have HO3 := Lib.hid hown3; clear hown3)
        exact ⟨⟨i + 1, acc ++ [s], m + 1, by omega, by go_num, HT.out.symm, by rw [List.length_append, HM.out]; rfl, by omega, by rw [List.map_append]; exact HO3.out, hbz⟩, by simp [intOf]; omega⟩
    · obtain rfl : i = N := by omega
      have hf : acc = F.notes (F.lk q) := by rw [HACC.out, List.take_of_length_le (by rw [F.lk_len, HN.out]; exact Nat.le_refl _)]
      have HF := Lib.hid hf
      clear hf
      go_wp2
      go_ret
      refine ⟨A2, c2, by rw [← HF.out, HM.out]; rfl, ?_, hb1.trans (hbr.mono hs1)⟩
      rw [← HF.out, HM.out]
      exact own_base hown hs1
end Go.Proofs.YtamcpdggpdaioaaDoor

/- The layer cpset: all characters of a set, by walking its text. -/
namespace Go.Proofs.YtamcpdggpdaioaaDoor
open Go.RowKit
set_option linter.unusedSimpArgs false
set_option linter.unusedVariables false

/-- n numbers, one behind the other. -/
def C.run (a : Int) (n : Nat) : List Int := (List.range n).map fun (i : Nat) => a + (i : Int)
theorem C.run_succ (a : Int) (n : Nat) : C.run a (n + 1) = C.run a n ++ [a + (n : Int)] := by
  unfold C.run; rw [List.range_succ, List.map_append]; rfl
theorem C.run_len (a : Int) (n : Nat) : (C.run a n).length = n := by simp [C.run]
/-- All of some ranges. -/
def C.all1 (rs : List (Int × Int)) : List Int := rs.flatMap fun r => C.run r.1 (r.2 - r.1 + 1).toNat
theorem C.all1_succ {rs : List (Int × Int)} {i : Nat} {r : Int × Int} (h : rs[i]? = some r) : C.all1 (rs.take (i + 1)) = C.all1 (rs.take i) ++ C.run r.1 (r.2 - r.1 + 1).toNat := by
  unfold C.all1
  rw [List.take_add_one, h, List.flatMap_append]
  simp
theorem C.all1_len (S : List Int) (hok : C.ok S) : ∀ i, i ≤ (C.rngs S).length → ((C.all1 ((C.rngs S).take i)).length : Int) = C.part S i
  | 0, _ => by simp [C.all1, C.part0]
  | i + 1, h => by
    obtain ⟨r, hr⟩ : ∃ r, (C.rngs S)[i]? = some r := ⟨_, List.getElem?_eq_getElem (by omega)⟩
    obtain ⟨b1, b2, b3, b4⟩ := C.rng_bd hok hr
    rw [C.all1_succ hr, C.part_step hok hr, List.length_append, C.run_len]
    have := C.all1_len S hok i (by omega)
    omega

theorem own_otype {w : World} {base : Nat} {e e' : TypeId} {size n g : Nat} {v : Value} {xs : List Value} {cs : Array Value} {fr : Nat × Nat} (h : w.ownsRow base e size v n xs) (hb : w.heap[g]? = some (.cells cs e' fr)) (he : e ≠ e') : some g ≠ v.ownBlock := by
  intro hv
  rcases h.2 with ⟨rfl, _⟩ | ⟨g2, cap, cur, rfl, _, hg2, _⟩
  · simp [Value.ownBlock] at hv
  · simp only [Value.ownBlock, Option.some.injEq] at hv
    subst hv
    rw [hb] at hg2
    simp only [Option.some.injEq, Obj.cells.injEq] at hg2
    exact he hg2.2.1.symm

theorem C.all1_bd {S : List Int} (hok : C.ok S) {i : Nat} (h : i ≤ (C.rngs S).length) : (C.all1 ((C.rngs S).take i)).length ≤ 1114112 := by
  have h1 := C.all1_len S hok i h
  have h2 := (C.part_bd hok i).2
  have h3 := (C.count_bd hok).2
  omega

def C.RetRunes (xs : List Int) (w : World) (e : Ending) (w' : World) : Prop :=
  ∃ A c, e = .returned (.slice A xs.length c) ∧ w'.ownsRow w.heap.size 21 1 (.slice A xs.length c) xs.length (xs.map (Value.int .i32)) ∧ Below w.heap.size w w'

end Go.Proofs.YtamcpdggpdaioaaDoor
