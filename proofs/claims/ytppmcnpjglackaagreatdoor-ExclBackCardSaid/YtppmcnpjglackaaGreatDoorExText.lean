/- A strings.Builder: copyCheck, WriteString, by walking their texts (the check's refusal stands in this program as a stop). -/
import Derived.Test.YtppmcnpjglackaaGreatDoorSlt
import Derived.Test.YtppmcnpjglackaaGreatDoorShelf
import Derived.Shelf.Strings.Builder1
import Derived.Test.YtppmcnpjglackaaGreatDoorExPlain
import Derived.Test.YtppmcnpjglackaaGreatDoorRwTab
import Derived.Test.YtppmcnpjglackaaGreatDoorCpSrt
import Derived.Test.YtppmcnpjglackaaGreatDoorFiNumPlain
import Derived.Test.YtppmcnpjglackaaGreatDoorRwLine
namespace Go.Proofs.YtppmcnpjglackaaGreatDoor
open Go.RowKit
set_option linter.unusedSimpArgs false
set_option linter.unusedVariables false

theorem Bd.size : (Tryz.prog.info? 79).map (·.size) = some 2 := by kernel_rfl
theorem Bd.lies : liesAt Tryz.prog Tryz.prog.depth 79 (2 / Tryz.prog.cellsOf 79) 0 79 1 = true := by kernel_rfl
theorem Bd.infoByte : (Tryz.prog.info? 5).map (fun i => (i.zero, i.size, i.bytes)) = some (some (.int .u8 0), 1, 1) := by kernel_rfl

set_option maxHeartbeats 1000000 in
set_option maxRecDepth 100000 in
theorem Bd.check_used (b : Nat) (w : World) (h0 : w.cell? ⟨b, 0, none⟩ = some (.pointer (some ⟨b, 0, none⟩))) :
    Calls Tryz.prog 60 #[.pointer (some ⟨b, 0, none⟩)] w fun e w' => e = .returned (.tuple #[]) ∧ w' = w := by
  obtain ⟨j, hj, _⟩ := Option.map_eq_some_iff.1 Bd.size
  go_enter Tryz.func60, Tryz.ntmps60
  go_wp2
  rw [Lib.run_neq_ptr_same w _ Tryz.underlying77 hj]
  go_wp2
  go_end0
  exact ⟨rfl, rfl⟩
set_option maxHeartbeats 1000000 in
set_option maxRecDepth 100000 in
theorem Bd.check_fresh (b : Nat) (w : World) (h0 : w.cell? ⟨b, 0, none⟩ = some (.pointer none)) (hsh : w.shape? b = some (79, 2)) (hfz : w.frozen? ⟨b, 0, none⟩ = false) :
    Calls Tryz.prog 60 #[.pointer (some ⟨b, 0, none⟩)] w fun e w' => e = .returned (.tuple #[]) ∧ w' = w.setCell ⟨b, 0, none⟩ (.pointer (some ⟨b, 0, none⟩)) := by
  obtain ⟨j, hj, hjs⟩ := Option.map_eq_some_iff.1 Bd.size
  go_enter Tryz.func60, Tryz.ntmps60
  go_wp2
  rw [Lib.run_to_unsafe w ⟨b, 0, none⟩ Tryz.underlying77 Tryz.underlying144 hj (by rw [hjs]; decide) hsh (Nat.zero_lt_succ 1)]
  simp only [Result.andThen]
  rw [Oper.upon_value]
  go_wp2
  rw [run_callFunc_extern Tryz.func97 (by kernel_rfl) (by kernel_rfl) (by kernel_rfl) (e := Extern.AbiNoEscape.same) (by kernel_rfl)]
  rw [Lib.run_noEscape]
  simp only [Result.andThen]
  rw [Oper.upon_value]
  go_wp2
  rw [Lib.run_from_unsafe w ⟨b, 0, none⟩ Tryz.underlying144 Tryz.underlying77 hj hsh Bd.lies]
  simp only [Result.andThen]
  rw [Oper.upon_value]
  go_wp2
  go_end0
  exact ⟨rfl, rfl⟩
theorem Bd.check_any (B b : Nat) (bs : List Value) (w : World) (h : Lib.IsBuilder 79 5 B b bs w) :
    Calls Tryz.prog 60 #[.pointer (some ⟨b, 0, none⟩)] w fun e w' => e = .returned (.tuple #[]) ∧ (Lib.BuilderAt 79 5 B b (.pointer (some ⟨b, 0, none⟩)) bs w' ∧ Below B w w') := by
  rcases h with h | h
  · refine (Bd.check_fresh b w h.cell0 h.shape h.frozen0).mono ?_
    rintro e w' ⟨rfl, rfl⟩
    exact ⟨rfl, h.used _, (Below.refl B w).setCell (p := ⟨b, 0, none⟩) h.1 _⟩
  · refine (Bd.check_used b w h.cell0).mono ?_
    rintro e w' ⟨rfl, rfl⟩
    exact ⟨rfl, h, Below.refl B _⟩

set_option maxHeartbeats 1000000 in
set_option maxRecDepth 100000 in
theorem Bd.write_any (B b : Nat) (bs : List Value) (s : ByteArray) (w : World) (h : Lib.IsBuilder 79 5 B b bs w) (hlen : bs.length + s.size ≤ 140737488355328) (hBw : B ≤ w.heap.size) :
    Calls Tryz.prog 38 #[.pointer (some ⟨b, 0, none⟩), .string s] w fun e w' => e = .returned (.tuple #[.int .i64 s.size, .nilIface]) ∧ (Lib.BuilderAt 79 5 B b (.pointer (some ⟨b, 0, none⟩)) (bs ++ Lib.strCells s) w' ∧ Below B w w') := by
  obtain ⟨i0, hi, hz0, hz1, hz2⟩ := info_parts Bd.infoByte
  go_enter Tryz.func38, Tryz.ntmps38
  go_wp2_with (go_at_call 60; refine (Bd.check_any B b bs _ h).mono ?_)
  rintro e w1 ⟨rfl, h1, hb1⟩
  obtain ⟨hB, v, hbk, hown, hne⟩ := h1
  have c0 : w1.cell? ⟨b, 0, none⟩ = some (.pointer (some ⟨b, 0, none⟩)) := by rw [Lib.cell_of_heap hbk]; rfl
  have c1 : w1.cell? ⟨b, 1, none⟩ = some v := by rw [Lib.cell_of_heap hbk]; rfl
  go_wp2_with (at_builtin; refine Lib.wpList_append_own_string _ rfl _ _ 74 9 rfl B 5 i0 Tryz.underlying74 Tryz.underlying9 hi hz0 hz1 hz2 _ _ _ rfl hown s rfl ?c3 ?c4 ?c5 ?_)
  case c3 => unfold maxLen; omega
  case c4 => omega
  case c5 => have := hb1.size; omega
  intro v' w2 hown' hgrow _
  have hlt : b < w1.heap.size := by
    rcases Nat.lt_or_ge b w1.heap.size with h' | h'
    · exact h'
    · simp [Array.getElem?_eq_none h'] at hbk
  have hb2 : w2.heap[b]? = some (.cells #[.pointer (some ⟨b, 0, none⟩), v] 79 (0, 0)) := by
    rw [hgrow.block b hlt (fun e => hne e.symm)]
    exact hbk
  have d0 : w2.cell? ⟨b, 0, none⟩ = some (.pointer (some ⟨b, 0, none⟩)) := by rw [Lib.cell_of_heap hb2]; rfl
  have d1 : w2.cell? ⟨b, 1, none⟩ = some v := by rw [Lib.cell_of_heap hb2]; rfl
  have f1 : w2.frozen? ⟨b, 1, none⟩ = false := Lib.frozen_of_heap hb2 1
  obtain ⟨ao, n', cap, rfl⟩ : ∃ ao n' cap, v' = .slice ao n' cap := by
    rcases hown'.2 with ⟨hv, _⟩ | ⟨g, cap, cur, hv, _⟩
    · exact ⟨_, _, _, hv⟩
    · exact ⟨_, _, _, hv⟩
  go_wp2
  go_ret2
  refine ⟨rfl, ?_, ?_⟩
  · exact Lib.BuilderAt.put (T := 79) (e := 5) hB hb2 (bs' := bs ++ Lib.strCells s) (by simpa [Lib.strCells_length] using hown') (by decide)
  · exact (hb1.grown hgrow (by have := hb1.size; omega) (fun k hk => (hown.lt k hk).1)).setCell (p := ⟨b, 1, none⟩) hB _
end Go.Proofs.YtppmcnpjglackaaGreatDoor

/- The layer excl: Text, by walking its text. -/
namespace Go.Proofs.YtppmcnpjglackaaGreatDoor
open Go.RowKit
set_option linter.unusedSimpArgs false
set_option linter.unusedVariables false

/-- A builder at block b: its bytes lie in a row from D on. -/
def Bd.At (w : World) (b D : Nat) (bs : List Value) : Prop :=
  ∃ p v, (p = .pointer none ∨ p = .pointer (some ⟨b, 0, none⟩)) ∧ Rw.At w b 79 [p, v] ∧ w.ownsRow D 5 1 v bs.length bs
/-- Slices of other types read as they did. -/
def Bd.Kept (w w' : World) : Prop := ∀ (t : TypeId) (A : Option Addr) (xs : List Value), t ≠ 79 → t ≠ 5 → Slt w t A xs → Slt w' t A xs

set_option maxHeartbeats 1000000 in
set_option maxRecDepth 100000 in
theorem Bd.write2 (b D : Nat) (bs : List Value) (s : ByteArray) (w : World) (hD : b < D) (hDw : D ≤ w.heap.size) (h : Bd.At w b D bs) (hlen : bs.length + s.size ≤ 140737488355328) :
    Calls Tryz.prog 38 #[.pointer (some ⟨b, 0, none⟩), .string s] w fun e w' => e = .returned (.tuple #[.int .i64 s.size, .nilIface]) ∧ Bd.At w' b D (bs ++ Lib.strCells s) ∧ Bd.Kept w w' ∧ Below b w w' := by
  obtain ⟨i0, hi, hz0, hz1, hz2⟩ := info_parts Bd.infoByte
  obtain ⟨p, v, hp, hat, hown⟩ := h
  have hchk : ∀ W, W = w → Calls Tryz.prog 60 #[.pointer (some ⟨b, 0, none⟩)] W fun e w' => e = .returned (.tuple #[]) ∧ (w' = w ∨ w' = w.setCell ⟨b, 0, none⟩ (.pointer (some ⟨b, 0, none⟩))) ∧ Rw.At w' b 79 [.pointer (some ⟨b, 0, none⟩), v] := by
    rintro W rfl
    rcases hp with rfl | rfl
    · refine (Bd.check_fresh b W (hat.cell 0 rfl) ?_ (hat.frozen 0)).mono ?_
      · unfold Rw.At at hat
        simp [World.shape?, hat]
      · rintro e w' ⟨rfl, rfl⟩
        exact ⟨rfl, .inr rfl, hat.set 0 _⟩
    · refine (Bd.check_used b W (hat.cell 0 rfl)).mono ?_
      rintro e w' ⟨rfl, rfl⟩
      exact ⟨rfl, .inl rfl, hat⟩
  have HOWN := Lib.hid hown
  have HAT := Lib.hid hat
  clear hown hat hp
  go_enter Tryz.func38, Tryz.ntmps38
  go_wp2_with fail
  refine (hchk _ rfl).mono ?_
  rintro e w1 ⟨rfl, hw1, hat1⟩
  have hown1 : w1.ownsRow D 5 1 v bs.length bs := by
    rcases hw1 with rfl | rfl
    · exact HOWN.out
    · exact Rw.own_grown HOWN.out hD (Rw.grown_set b 0 _)
  have hk1 : Bd.Kept w w1 := by
    rcases hw1 with rfl | rfl
    · exact fun t A xs _ _ h => h
    · exact fun t A xs h1 _ h => h.setAt HAT.out (fun e => h1 e.symm) 0 _
  have hb1 : Below b w w1 := by
    rcases hw1 with rfl | rfl
    · exact Below.refl _ _
    · exact (Below.refl _ _).setCell (p := ⟨b, 0, none⟩) (Nat.le_refl _) _
  have hne := Rw.own_ne hown1 b hD
  have c0 := hat1.cell 0 rfl
  have c1 := hat1.cell 1 rfl
  have hz1w := hb1.size
  have HOWN1 := Lib.hid hown1
  have HK1 := Lib.hid hk1
  have HB1 := Lib.hid hb1
  have HNE := Lib.hid hne
  clear hw1 hown1 hk1 hb1 hne hchk
  go_wp2_with (at_builtin; refine Lib.wpList_append_own_string _ rfl _ _ 74 9 rfl D 5 i0 Tryz.underlying74 Tryz.underlying9 hi hz0 hz1 hz2 _ _ _ rfl HOWN1.out s rfl ?c3 ?c4 ?c5 ?_)
  case c3 => unfold maxLen; omega
  case c4 => omega
  case c5 => omega
  intro v' w2 hown' hgrow _
  have hat2 := hat1.grown hgrow HNE.out
  have d0 := hat2.cell 0 rfl
  have d1 := hat2.cell 1 rfl
  have f1 := hat2.frozen 1
  obtain ⟨ao, cap, rfl⟩ := own_form hown'
  have hg2 : Bd.Kept w1 w2 := fun t A xs _ h2 h => h.grown hgrow (Rw.own_not HOWN1.out (fun e => h2 e.symm))
  have hb2 : Below b w1 w2 := Rw.below_grown hgrow (Nat.le_of_lt hat1.lt) (fun k hk => by have := (HOWN1.out.lt k hk).1; omega)
  have HG2 := Lib.hid hg2
  have HB2 := Lib.hid hb2
  have HO2 := Lib.hid hown'
  clear hg2 hb2 hown' hgrow c0 c1
  go_wp2_with fail
  go_ret2
  refine ⟨rfl, ⟨_, _, .inr rfl, hat2.set 1 _, ?_⟩, ?_, (HB1.out.trans HB2.out).setCell (p := ⟨b, 1, none⟩) (Nat.le_refl _) _⟩
  · have := Rw.own_grown HO2.out hD (Rw.grown_set b 1 (.slice ao (bs.length + s.size) cap))
    rw [List.length_append, Lib.strCells_length]
    exact this
  · exact fun t A xs h1 h2 h => (HG2.out t A xs h1 h2 (HK1.out t A xs h1 h2 h)).setAt hat2 (fun e => h1 e.symm) 1 _

/-- Characters' lines. -/
def Ex.btxt (X : List Int) : List UInt8 := X.flatMap fun c => Fi.text c.toNat ++ [10]
theorem Ex.btxt_snoc (X : List Int) (c : Int) : Ex.btxt (X ++ [c]) = Ex.btxt X ++ (Fi.text c.toNat ++ [10]) := by simp [Ex.btxt]
theorem Ex.btxt_len : ∀ (X : List Int), (∀ c ∈ X, 0 ≤ c ∧ c ≤ 1114111) → (Ex.btxt X).length ≤ 7 * X.length
  | [], _ => by simp [Ex.btxt]
  | c :: X, h => by
    have h1 := Fi.text_le c.toNat (by have := (h c List.mem_cons_self).2; omega)
    have h2 := Ex.btxt_len X fun d hd => h d (List.mem_cons_of_mem _ hd)
    unfold Ex.btxt at h2 ⊢
    rw [List.flatMap_cons]
    simp only [List.length_append, List.length_cons, List.length_nil]
    omega
theorem Ex.strip_text (n : Nat) : Fi.strip (Fi.text n) = Fi.text n := by
  obtain ⟨x, m, y, h1, h2, h3, h4⟩ := Ex.text_ends n
  unfold Fi.strip
  rw [Ex.cut_miss _ (Ex.text_no35 n)]
  have := Ex.trim_pad 0 (Fi.text n) x y m h1 h2 h3 h4 0
  simpa using this
theorem Ex.steps_texts : ∀ (l : List Int) (seen : List Int), (∀ c ∈ l, C.isC c = true) → l.Nodup → (∀ c ∈ l, c ∉ seen) → Ex.steps seen (l.map fun c => Fi.text c.toNat) = some (seen ++ l)
  | [], seen, _, _, _ => by simp [Ex.steps]
  | c :: l, seen, h1, h2, h3 => by
    have hc := h1 c List.mem_cons_self
    have hc' : 0 ≤ c ∧ c ≤ 1114111 := by
      unfold C.isC at hc
      have := of_decide_eq_true hc
      omega
    have hl : Ex.line seen (Fi.text c.toNat) = some (seen ++ [c]) := by
      unfold Ex.line
      rw [Ex.strip_text, if_neg (Rw.text_ne _), Fi.hex_text _ (by omega), Option.bind_some, Rw.nat_cast hc'.1, if_pos ⟨hc, h3 c List.mem_cons_self⟩]
    rw [List.map_cons, Ex.steps, hl, Option.bind_some, Ex.steps_texts l (seen ++ [c]) (fun d hd => h1 d (List.mem_cons_of_mem _ hd)) (List.nodup_cons.1 h2).2 (fun d hd hm => by
      rcases List.mem_append.1 hm with h | h
      · exact h3 d (List.mem_cons_of_mem _ hd) h
      · rw [List.mem_singleton] at h
        subst h
        exact (List.nodup_cons.1 h2).1 hd)]
    simp
theorem Ex.parse_btxt (l : List Int) (h1 : ∀ c ∈ l, C.isC c = true) (h2 : l.Nodup) (hn : l.length ≤ 1000) : Ex.parse (Ex.btxt l) = some l := by
  have hb : ∀ c ∈ l, 0 ≤ c ∧ c ≤ 1114111 := fun c hc => by
    have := h1 c hc
    unfold C.isC at this
    have := of_decide_eq_true this
    omega
  have hok : ∀ x ∈ l.map (fun c => Fi.text c.toNat), Rw.okl x = true := by
    intro x hx
    obtain ⟨c, hc, rfl⟩ := List.mem_map.1 hx
    have := Fi.text_le c.toNat (by have := (hb c hc).2; omega)
    exact Ex.ok_of (by omega) fun b hb' => by have := Rw.text_bytes _ b hb'; omega
  have hlns : Rw.lns [] (Ex.btxt l) = l.map fun c => Fi.text c.toNat := by
    have := Rw.lns_text (l.map fun c => Fi.text c.toNat) fun x hx => Ex.ok_no (hok x hx)
    rw [List.flatMap_map] at this
    exact this
  unfold Ex.parse
  rw [hlns, if_pos ⟨by rw [List.all_eq_true]; exact hok, by simp; omega⟩, Ex.steps_texts l [] h1 h2 (fun c _ => by simp)]
  simp

set_option maxRecDepth 100000 in
set_option maxHeartbeats 4000000 in
theorem Ex.text_any (A : Option Addr) (c n : Nat) (S X : List Int) (w : World) (hn : S.length = n) (hn' : n ≤ 1000) (hok : C.ok S) (hX : C.all1 (C.rngs S) = X) (hXC : ∀ c ∈ X, C.isC c = true) (hXn : X.length ≤ 1000)
    (hA : Slt w 21 A (S.map (Value.int .i32))) (hL : Fi.Laid w) :
    Calls Tryz.prog 18 #[.agg #[.slice A n c]] w fun e w' => e = .returned (.string ⟨(Ex.btxt X).toArray⟩) ∧ Below w.heap.size w w' := by
  have hXb : ∀ c ∈ X, 0 ≤ c ∧ c ≤ 1114111 := fun c hc => by
    have := hXC c hc
    unfold C.isC at this
    have := of_decide_eq_true this
    omega
  obtain ⟨wa, hwa⟩ : ∃ wa, (w.alloc (.cells #[.slice A n c] 42)).alloc (.cells #[.pointer none, .slice none 0 0] 79) = wa := ⟨_, rfl⟩
  have hbA : Below w.heap.size w wa := by rw [← hwa]; exact ((Below.refl _ _).alloc (Nat.le_refl _) _).alloc (by simp) _
  have hat0 : Rw.At wa w.heap.size 42 [.slice A n c] := by rw [← hwa]; exact (Rw.At.new w 42 [.slice A n c]).alloc _
  have hat1 : Rw.At wa (w.heap.size + 1) 79 [.pointer none, .slice none 0 0] := by
    have h := Rw.At.new (w.alloc (.cells #[.slice A n c] 42)) 79 [.pointer none, .slice none 0 0]
    rw [World.size_alloc] at h
    rw [← hwa]
    exact h
  have hz1 : w.heap.size + 1 < wa.heap.size := hat1.lt
  have hCH := C.setchars_any A c n wa.heap.size S wa hn (by omega) hok (Nat.le_refl _) (hA.below hbA).sl
  rw [hX] at hCH
  obtain ⟨m, hm⟩ : ∃ m, X.length = m := ⟨_, rfl⟩
  unfold C.RetRunes at hCH
  rw [hm] at hCH hXn
  have HWA := Lib.hid hwa
  have HM := Lib.hid hm
  have HXB := Lib.hid hXb
  have HBA := Lib.hid hbA
  have HL := Lib.hid hL
  have z0 := hat0.cell 0 rfl
  clear hwa hm hXb hbA hL hA hX hXC hn
  go_enter Tryz.func18, Tryz.ntmps18
  go_upto_region 2 with (fail)
  rw [HWA.out]
  go_wp2_with fail
  refine hCH.mono ?_
  rintro e w2 ⟨A5, c5, rfl, hown2, hb2⟩
  have hat2 : Bd.At w2 (w.heap.size + 1) w2.heap.size [] := ⟨_, _, .inl rfl, hat1.below hb2, World.ownsRow_nil _ _ _ _⟩
  have HS2 := Lib.hid (Slt.of_own hown2)
  have HB2 := Lib.hid (HBA.out.trans (hb2.mono HBA.out.size))
  have hz2 : w.heap.size + 1 < w2.heap.size := Nat.lt_of_lt_of_le hz1 hb2.size
  clear hown2 hb2 hCH hat0 hat1 z0
  go_wp2_with fail
  go_loopw [5, 9] (fun _ i wr => ∃ k : Nat, k ≤ m ∧ i = .int .i64 k ∧ Bd.At wr (w.heap.size + 1) w2.heap.size (Lib.byteCells (Ex.btxt (X.take k))) ∧ Slt wr 21 A5 (X.map (Value.int .i32)) ∧ Below (w.heap.size + 1) w2 wr) (fun _ i _ => m - (intOf i).toNat)
  case atStart => exact ⟨0, Nat.zero_le _, rfl, hat2, HS2.out, Below.refl _ _⟩
  case round =>
    obtain ⟨k, hk, rfl, hat, hS, hbel⟩ := hrel
    have hzr : w2.heap.size ≤ wr.heap.size := hbel.size
    have hBr : Below w.heap.size w wr := HB2.out.trans (hbel.mono (Nat.le_succ _))
    by_cases hlt : k < m
    · obtain ⟨x, hx⟩ : ∃ x, X[k]? = some x := ⟨_, List.getElem?_eq_getElem (by rw [HM.out]; exact hlt)⟩
      have hxb := HXB.out x (List.mem_of_getElem? hx)
      obtain ⟨ab, ao, rfl, hab, hac⟩ := hS.sl (by rw [List.length_map, HM.out]; omega)
      have hc := hac k (by rw [List.length_map, HM.out]; exact hlt)
      rw [List.getElem?_map, hx, Option.map_some] at hc
      obtain ⟨xn, rfl⟩ : ∃ xn : Nat, x = xn := ⟨x.toNat, by omega⟩
      have hT := Fi.text_any xn (by omega) wr (HL.out.below hBr)
      have hnext : Ex.btxt (X.take (k + 1)) = Ex.btxt (X.take k) ++ (Fi.text xn ++ [10]) := by
        rw [List.take_add_one, hx]
        show Ex.btxt (X.take k ++ [(xn : Int)]) = _
        rw [Ex.btxt_snoc, Int.toNat_natCast]
      have hbl := Ex.btxt_len (X.take k) fun d hd => HXB.out d (List.mem_of_mem_take hd)
      have hkl : (X.take k).length ≤ k := List.length_take_le _ _
      obtain ⟨tx, htx⟩ : ∃ y : ByteArray, ⟨(Fi.text xn).toArray⟩ = y := ⟨_, rfl⟩
      rw [htx] at hT
      have htxs : tx.size ≤ 6 := by
        rw [← htx]
        show (Fi.text xn).toArray.size ≤ 6
        have := Fi.text_le xn (by omega)
        simpa using this
      have s1 : (⟨#[10]⟩ : ByteArray).size = 1 := rfl
      have c1 : ¬ 9223372036854775807 < tx.size + (⟨#[10]⟩ : ByteArray).size := by omega
      have hcells : Lib.byteCells (Ex.btxt (X.take (k + 1))) = Lib.byteCells (Ex.btxt (X.take k)) ++ Lib.strCells (tx ++ ⟨#[10]⟩) := by
        rw [hnext, ← htx, show (⟨#[10]⟩ : ByteArray) = ⟨[10].toArray⟩ from rfl, Fi.ba_app]
        unfold Lib.byteCells Lib.strCells
        simp
      have kI : (k : Int) < m := by omega
      have HC := Lib.hid hcells
      have HAT := Lib.hid hat
      have HS := Lib.hid hS
      have HBEL := Lib.hid hbel
      have hlen7 : (Lib.byteCells (Ex.btxt (X.take k))).length + 7 ≤ 140737488355328 := by
        have : (Lib.byteCells (Ex.btxt (X.take k))).length = (Ex.btxt (X.take k)).length := by unfold Lib.byteCells; simp
        omega
      have HL7 := Lib.hid hlen7
      clear hac hx hnext hbl hkl htx hcells hat hS hbel hlen7 hxb hBr
      go_wp2_with fail
      refine hT.mono ?_
      rintro e w3 ⟨rfl, hb3⟩
      have hat3 : Bd.At w3 (w.heap.size + 1) w2.heap.size (Lib.byteCells (Ex.btxt (X.take k))) := by
        obtain ⟨p, v, h1, h2, h3⟩ := HAT.out
        exact ⟨p, v, h1, h2.below hb3, own_below h3 hb3 (Nat.le_refl _)⟩
      have hW := Bd.write2 (w.heap.size + 1) w2.heap.size (Lib.byteCells (Ex.btxt (X.take k))) (tx ++ ⟨#[10]⟩) w3 hz2 (Nat.le_trans hzr hb3.size) hat3 (by rw [ByteArray.size_append]; have := HL7.out; omega)
      have HS3 := Lib.hid (HS.out.below hb3)
      have HB3 := Lib.hid (HBEL.out.trans (hb3.mono (by omega)))
      clear hb3 hT hat3
      go_wp2_with fail
      refine hW.mono ?_
      rintro e w4 ⟨rfl, hat4, hk4, hb4⟩
      have HAT4 := Lib.hid hat4
      have HS4 := Lib.hid (hk4 _ _ _ (by decide) (by decide) HS3.out)
      have HB4 := Lib.hid (HB3.out.trans hb4)
      clear hat4 hk4 hb4 hW
      go_wp2_with fail
      exact ⟨⟨k + 1, by omega, by go_num, by rw [HC.out]; exact HAT4.out, HS4.out, HB4.out⟩, by simp [intOf]; omega⟩
    · obtain rfl : k = m := by omega
      have kI : ¬ (k : Int) < k := by omega
      rw [List.take_of_length_le (by rw [HM.out]; exact Nat.le_refl _)] at hat
      have hIs : Lib.IsBuilder 79 5 (w.heap.size + 1) (w.heap.size + 1) (Lib.byteCells (Ex.btxt X)) wr := by
        obtain ⟨p, v, h1, h2, h3⟩ := hat
        have h4 : Lib.BuilderAt 79 5 (w.heap.size + 1) (w.heap.size + 1) p (Lib.byteCells (Ex.btxt X)) wr := ⟨Nat.le_refl _, v, h2, R.own_base h3 (by omega), Rw.own_ne h3 _ (by omega)⟩
        rcases h1 with rfl | rfl
        · exact .inl h4
        · exact .inr h4
      have hST := Tryz.Builder_String_any (w.heap.size + 1) (w.heap.size + 1) (Ex.btxt X) wr hIs (by omega)
      have HB := Lib.hid hBr
      clear hat hS hbel hIs hBr
      go_wp2_with fail
      refine hST.mono ?_
      rintro e w4 ⟨rfl, hb4⟩
      have HB4 := Lib.hid (HB.out.trans (hb4.mono (Nat.le_succ _)))
      clear hb4 hST
      go_wp2_with fail
      go_ret
      exact ⟨rfl, HB4.out⟩
end Go.Proofs.YtppmcnpjglackaaGreatDoor
