/- Pages: plain laws of what New makes: one cell more, one range more. -/
import Derived.Test.YtkmfegamblmpeaaGreatDoorUdPlain
import Derived.Test.YtkmfegamblmpeaaGreatDoorPgLib
import Derived.Laws.Rows
import Derived.Test.YtkmfegamblmpeaaGreatDoorCpIsPlain
import Derived.Test.YtkmfegamblmpeaaGreatDoorUdInv
import Derived.Test.YtkmfegamblmpeaaGreatDoorMdCheck
import Derived.DeepKeys4
namespace Go.Proofs.YtkmfegamblmpeaaGreatDoor
set_option linter.unusedVariables false
set_option linter.unusedSimpArgs false

def Pg.ok (c : Int) : Bool := decide (0 ≤ c ∧ c ≤ 1114111)
theorem Pg.last_snoc (L : List (Int × Int)) (x : Int × Int) (c : Int) : Pg.last (L ++ [x]) c = if x.1 = c then x.2 else Pg.last L c := by
  unfold Pg.last
  rw [List.foldl_append]
  rfl
theorem Pg.blk_skip (L : List (Int × Int)) (x : Int × Int) (h : Pg.ok x.1 = false) {m : Nat} (hm : m < 4352) : Pg.blk (Pg.last (L ++ [x])) m = Pg.blk (Pg.last L) m := by
  unfold Pg.blk
  refine List.map_congr_left fun i hi => ?_
  have hi := List.mem_range.1 hi
  rw [Pg.last_snoc, if_neg]
  intro e
  unfold Pg.ok at h
  rw [decide_eq_false_iff_not] at h
  omega
theorem Pg.blk_other (L : List (Int × Int)) (x : Int × Int) {m n : Nat} (hn : x.1 / 256 = (n : Int)) (hne : m ≠ n) : Pg.blk (Pg.last (L ++ [x])) m = Pg.blk (Pg.last L) m := by
  unfold Pg.blk
  refine List.map_congr_left fun i hi => ?_
  have hi := List.mem_range.1 hi
  rw [Pg.last_snoc, if_neg]
  intro e
  omega
theorem Pg.blk_set (L : List (Int × Int)) (x : Int × Int) {n j : Nat} (hn : x.1 / 256 = (n : Int)) (hj : x.1 % 256 = (j : Int)) : Pg.blk (Pg.last (L ++ [x])) n = (Pg.blk (Pg.last L) n).set j x.2 := by
  refine List.ext_getElem? fun i => ?_
  rw [List.getElem?_set, Pg.blk_len]
  by_cases hi : i < 256
  · rw [Pg.blk_get _ _ hi, Pg.blk_get _ _ hi, Pg.last_snoc]
    by_cases e : j = i
    · subst e
      rw [if_pos (by omega), if_pos rfl, if_pos hi]
    · rw [if_neg (by omega), if_neg e]
  · rw [List.getElem?_eq_none (by rw [Pg.blk_len]; omega)]
    split
    · rw [if_neg (by omega)]
    · rw [List.getElem?_eq_none (by rw [Pg.blk_len]; omega)]
theorem Pg.blk_last_nil (n : Nat) : Pg.blk (Pg.last []) n = Pg.zeros := by
  unfold Pg.blk Pg.zeros
  refine List.ext_getElem? fun i => ?_
  by_cases hi : i < 256
  · rw [List.getElem?_map, List.getElem?_range hi, List.getElem?_replicate, if_pos hi]; rfl
  · rw [List.getElem?_eq_none (by rw [List.length_map, List.length_range]; omega), List.getElem?_eq_none (by rw [List.length_replicate]; omega)]
/-- A block's place, if it is there. -/
def Pg.place (bl : List (List Int)) (b : List Int) : Option Nat := if b ∈ bl then some (Pg.at bl b) else none
theorem Pg.place_add {bl : List (List Int)} {b : List Int} (h : b ∉ bl) (x : List Int) : Pg.place (Pg.add bl b) x = if x = b then some bl.length else Pg.place bl x := by
  unfold Pg.place
  by_cases hx : x = b
  · subst hx
    rw [if_pos (Pg.add_mem.2 (.inr rfl)), if_pos rfl]
    unfold Pg.add Pg.at
    rw [if_neg h, List.idxOf_append, if_neg h]
    simp
  · rw [if_neg hx]
    by_cases hm : x ∈ bl
    · rw [if_pos (Pg.add_mem.2 (.inl hm)), if_pos hm, Pg.add_at hm]
    · rw [if_neg fun h' => (Pg.add_mem.1 h').elim hm hx, if_neg hm]
theorem Pg.add_there {bl : List (List Int)} {b : List Int} (h : b ∈ bl) : Pg.add bl b = bl := if_pos h
theorem Pg.add_new {bl : List (List Int)} {b : List Int} (h : b ∉ bl) : Pg.add bl b = bl ++ [b] := if_neg h
theorem Pg.zeros_mem (f : Int → Int) (m : Nat) : Pg.zeros ∈ Pg.bls f m := (Pg.bls_mem f m _).2 (.inl rfl)
theorem Pg.at_zeros (f : Int → Int) (m : Nat) : Pg.at (Pg.bls f m) Pg.zeros = 0 := by
  have h := Pg.bls_head f m
  obtain ⟨l, hl⟩ : ∃ l, Pg.bls f m = Pg.zeros :: l := by
    cases hb : Pg.bls f m with
    | nil => rw [hb] at h; cases h
    | cons y l => rw [hb] at h; simp at h; exact ⟨l, by rw [h]⟩
  rw [hl]
  unfold Pg.at
  simp
/-- The places that are laid when m ranges are done. -/
def Pg.idxZ (f : Int → Int) (m : Nat) : List Int := Pg.idx f m ++ List.replicate (4352 - m) 0
theorem Pg.idxZ_len (f : Int → Int) {m : Nat} (h : m ≤ 4352) : (Pg.idxZ f m).length = 4352 := by
  unfold Pg.idxZ
  rw [List.length_append, Pg.idx_len, List.length_replicate]
  omega
theorem Pg.idxZ_end (f : Int → Int) : Pg.idxZ f 4352 = Pg.idx f 4352 := by unfold Pg.idxZ; simp
theorem Pg.idxZ_set (f : Int → Int) {m : Nat} (h : m < 4352) : Pg.idxZ f (m + 1) = (Pg.idxZ f m).set m (Pg.at (Pg.bls f (m + 1)) (Pg.blk f m) : Int) := by
  unfold Pg.idxZ
  rw [Pg.idx_succ, show 4352 - m = (4352 - (m + 1)) + 1 by omega, List.replicate_succ, List.append_assoc, List.set_append_right _ _ (by rw [Pg.idx_len]; exact Nat.le_refl _), Pg.idx_len, Nat.sub_self]
  rfl
theorem Pg.idxZ_skip (f : Int → Int) {m : Nat} (h : m < 4352) (hb : Pg.blk f m = Pg.zeros) : Pg.bls f (m + 1) = Pg.bls f m ∧ Pg.idxZ f (m + 1) = Pg.idxZ f m := by
  have h1 : Pg.bls f (m + 1) = Pg.bls f m := by rw [Pg.bls, hb, Pg.add_there (Pg.zeros_mem f m)]
  refine ⟨h1, ?_⟩
  rw [Pg.idxZ_set f h, h1, hb, Pg.at_zeros]
  refine List.ext_getElem? fun i => ?_
  rw [List.getElem?_set]
  by_cases e : m = i
  · subst e
    rw [if_pos rfl, if_pos (by rw [Pg.idxZ_len f (by omega)]; exact h)]
    unfold Pg.idxZ
    rw [List.getElem?_append_right (by rw [Pg.idx_len]; exact Nat.le_refl _), Pg.idx_len, Nat.sub_self, List.getElem?_replicate, if_pos (by omega)]
    rfl
  · rw [if_neg e]
end Go.Proofs.YtkmfegamblmpeaaGreatDoor

/- Whole arrays, loaded and told apart. -/
namespace Go.Proofs.YtkmfegamblmpeaaGreatDoor
open Go.RowKit
set_option linter.unusedSimpArgs false
set_option linter.unusedVariables false

theorem Pg.run_load {P : Program} (w : World) (t : TypeId) (d : TypeDesc) (b o n : Nat) (xs : List Value) (hx : xs.length = n) (hc : ∀ (j : Nat) v, xs[j]? = some v → w.cell? ⟨b, o + j, none⟩ = some v)
    (hu : P.underlying t = some d) (hd : (match d with | .struct _ | .array _ _ => true | _ => false) = true) (hi : (P.info? t).map (·.size) = some n) :
    (Instr.loadAt t (.pointer (some ⟨b, o, none⟩))).run P w = .ok (.agg xs.toArray) w := by
  have hl : (loadCells ⟨b, o, none⟩ xs.length).run P w = .ok xs.toArray w :=
    run_loadCells_list (P := P) w ⟨b, o, none⟩ xs (fun j v hv => by
      have hadd : (⟨b, o, none⟩ : Addr).add j = ⟨b, o + j, none⟩ := by unfold Addr.add; split <;> simp_all
      rw [hadd]
      exact hc j v hv)
  subst hx
  have hagg : (isAgg t).run P w = .ok true w := by cases d <;> simp at hd <;> simp [isAgg, run_underlying hu]
  simp only [Instr.loadAt, Instr.sureAddr, Sem.run_bind, Sem.run_pure, Result.andThen]
  cases hq : P.info? t with
  | none => simp [hq] at hi
  | some i =>
    have hs : i.size = xs.length := by simp [hq] at hi; omega
    simp [loadVar, Sem.run_bind, hagg, sizeOf, typeInfo, hq, hs, hl]
theorem Pg.wp_load {P : Program} {o : Oper} {a : Act} {w : World} {K : Act → World → Prop} {Q : Exit → Act → World → Prop} (t : TypeId) (x : Operand) (ho : o.op = .load t x) (v u : Value) (hx : a.eval x = v)
    (hr : (Instr.loadAt t v).run P w = .ok u w) (h : K (a.put o.dst u) w) : o.wp P a w K Q := by
  unfold Oper.wp execOp
  subst hx
  simp only [ho, Sem.run_bind, hr, Result.andThen_ok, Sem.run_pure]
  exact h
theorem Pg.wpList_load {P : Program} {ops : Array Oper} {rest : List Oper} {o : Oper} {a : Act} {w : World} {Q : Exit → Act → World → Prop} (hgd : o.guard = none) (t : TypeId) (x : Operand) (ho : o.op = .load t x) (v u : Value) (hx : a.eval x = v)
    (hr : (Instr.loadAt t v).run P w = .ok u w) (h : wpList P ops Q rest (a.put o.dst u) w) : wpList P ops Q (o :: rest) a w :=
  wpList_plain hgd fun _ hK => Pg.wp_load t x ho v u hx hr (hK _ _ h)
theorem Pg.infoBlk : (Tryz.prog.info? 125).map (·.size) = some 256 := by kernel_rfl
theorem infoCell : (Tryz.prog.info? 102).map (fun i => (i.zero, i.size, i.bytes)) = some (some (.agg #[.int .i32 0, .int .u16 0]), 2, 8) := by kernel_rfl
end Go.Proofs.YtkmfegamblmpeaaGreatDoor

/- Pages: what stands in memory while New is under way: blocks behind a map, and the places of blocks in another. -/
namespace Go.Proofs.YtkmfegamblmpeaaGreatDoor
open Go.RowKit
set_option linter.unusedSimpArgs false
set_option linter.unusedVariables false

/-- What New is handed: cells. -/
def Pg.cellsOk (L : List (Int × Int)) : Prop := ∀ x ∈ L, -2147483648 ≤ x.1 ∧ x.1 ≤ 2147483647 ∧ 0 ≤ x.2 ∧ x.2 ≤ 65535
/-- A value of pages whose blocks lie from lo on. -/
def Pg.IsL (lo : Nat) (w : World) (v : Value) (idx : List Int) (bl : List (List Int)) : Prop :=
  ∃ g A c, v = .pointer (some ⟨g, 0, none⟩) ∧ lo ≤ g ∧ Rw.At w g 129 (idx.map (Value.int .u16) ++ [.slice A bl.length c]) ∧ Sl w w.heap.size A (bl.flatten.map (Value.int .u16)) ∧ ∀ a, A = some a → lo ≤ a.block
theorem Pg.IsL.is {lo : Nat} {w : World} {v : Value} {idx : List Int} {bl : List (List Int)} (h : Pg.IsL lo w v idx bl) : Pg.Is w v idx bl := by
  obtain ⟨g, A, c, h1, _, h2, h3, _⟩ := h
  exact ⟨g, A, c, h1, h2, h3⟩
theorem Pg.IsL.grown {lo b : Nat} {w w' : World} {v : Value} {idx : List Int} {bl : List (List Int)} (h : Pg.IsL lo w v idx bl) (hg : w.grownBy w' (some b)) (hb : b < lo) : Pg.IsL lo w' v idx bl := by
  obtain ⟨g, A, c, h1, h0, h2, h3, h4⟩ := h
  refine ⟨g, A, c, h1, h0, h2.grown hg (by simp; omega), fun hx => ?_, h4⟩
  obtain ⟨q, o, hA, hq, hc⟩ := h3 hx
  have hlo := h4 _ hA
  refine ⟨q, o, hA, Nat.lt_of_lt_of_le hq hg.size, fun i hi => ?_⟩
  rw [← hc i hi]
  have hk := hg.block q hq (by simp; dsimp only at hlo; omega)
  simp [World.cell?, hk]
def Pg.OfL (lo : Nat) (w : World) (v : Value) (f : Int → Int) : Prop := Pg.IsL lo w v (Pg.idx f 4352) (Pg.bls f 4352)
theorem Pg.keyed32 : Go.Maps.Keyed Tryz.prog 21 := Go.Maps.int_keyed Tryz.underlying21
theorem Pg.key32 {n : Nat} (h : n < 4352) : keyOf Tryz.prog 21 (.int .i32 n) = some (.int .i32 n) := Go.Maps.keyOf_int_mk Tryz.underlying21 (by simp only [Lit.wf, Bool.and_eq_true, decide_eq_true_eq]; exact ⟨Int.le_trans (by decide : _ ≤ (0 : Int)) (by omega), Int.le_trans (by omega : (n : Int) ≤ 4352) (by decide)⟩)
def Pg.ptr (g : Option Nat) : Value := .pointer (g.map fun g => ⟨g, 0, none⟩)
def Pg.vs (b : List Int) : List Value := b.map (Value.int .u16)
/-- The map mb has at n the block of the numbers 256 n and on; where it has none they are noughts. The blocks lie from lo on, below hi. -/
def Pg.St (lo hi : Nat) (W : World) (mb : Nat) (f : Int → Int) (G : Nat → Option Nat) : Prop :=
  (∃ F, Mp.Is Tryz.prog 21 W mb F ∧ ∀ n : Nat, n < 4352 → F (.int .i32 n) = (G n).map fun g => .pointer (some ⟨g, 0, none⟩)) ∧
  (∀ n, n < 4352 → G n = none → Pg.blk f n = Pg.zeros) ∧ (∀ n g, n < 4352 → G n = some g → lo ≤ g ∧ g < hi ∧ Rw.At W g 125 (Pg.vs (Pg.blk f n))) ∧
  (∀ n n' g, n < 4352 → n' < 4352 → G n = some g → G n' = some g → n = n')
section
variable {lo hi : Nat} {W W' : World} {mb : Nat} {f f' : Int → Int} {G : Nat → Option Nat}
theorem Pg.St.made (w : World) (lo hi : Nat) : Pg.St lo hi (w.alloc (.map #[] 0)) w.heap.size (Pg.last []) fun _ => none :=
  ⟨⟨_, Mp.Is.made w Tryz.prog 21, fun _ _ => rfl⟩, fun n _ _ => Pg.blk_last_nil n, fun _ _ _ h => (nomatch h), fun _ _ _ _ _ h => (nomatch h)⟩
theorem Pg.St.lt (h : Pg.St lo hi W mb f G) : mb < W.heap.size := by
  obtain ⟨⟨F, hF, _⟩, _⟩ := h
  exact hF.lt
theorem Pg.St.below {B : Nat} (h : Pg.St lo hi W mb f G) (hb : Below B W W') (h1 : mb < B) (h2 : hi ≤ B) : Pg.St lo hi W' mb f G := by
  obtain ⟨⟨F, ⟨es, c, hh, r⟩, hF⟩, h3, h4, h5⟩ := h
  exact ⟨⟨F, ⟨es, c, (hb.block mb h1).trans hh, r⟩, hF⟩, h3, fun n g hn hg => ⟨(h4 n g hn hg).1, (h4 n g hn hg).2.1, (h4 n g hn hg).2.2.below' hb (by have := (h4 n g hn hg).2.1; omega)⟩, h5⟩
theorem Pg.St.more {hi' : Nat} (h : Pg.St lo hi W mb f G) (hh : hi ≤ hi') : Pg.St lo hi' W mb f G :=
  ⟨h.1, h.2.1, fun n g hn hg => ⟨(h.2.2.1 n g hn hg).1, Nat.lt_of_lt_of_le (h.2.2.1 n g hn hg).2.1 hh, (h.2.2.1 n g hn hg).2.2⟩, h.2.2.2⟩
theorem Pg.St.turn (h : Pg.St lo hi W mb f G) (hf : ∀ n, n < 4352 → Pg.blk f' n = Pg.blk f n) : Pg.St lo hi W mb f' G :=
  ⟨h.1, fun n hn hg => by rw [hf n hn]; exact h.2.1 n hn hg, fun n g hn hg => by rw [hf n hn]; exact h.2.2.1 n g hn hg, h.2.2.2⟩
theorem Pg.St.look (h : Pg.St lo hi W mb f G) {n : Nat} (hn : n < 4352) : (Instr.lookup 150 (.map (some mb)) (.int .i32 n) false).run Tryz.prog W = .ok (Pg.ptr (G n)) W := by
  obtain ⟨⟨F, hF, hG⟩, _⟩ := h
  have hz : (zeroValue 151).run Tryz.prog W = .ok (.pointer none) W := by kernel_rfl
  have := hF.look Pg.keyed32 Tryz.underlying150 hz (Pg.key32 hn) false
  rw [hG n hn] at this
  rw [this]
  cases G n <;> rfl
/-- A new block at n. -/
theorem Pg.St.put (h : Pg.St lo hi W mb f G) {n : Nat} (hn : n < 4352) (hg : G n = none) (hlo : lo ≤ W.heap.size) (hhi : hi ≤ W.heap.size) :
    ∃ W' G', (Instr.mapUpdate 150 (.map (some mb)) (.int .i32 n) (.pointer (some ⟨W.heap.size, 0, none⟩))).run Tryz.prog (W.alloc (.cells (Pg.vs Pg.zeros).toArray 125)) = .ok () W' ∧
      Pg.St lo W'.heap.size W' mb f G' ∧ G' n = some W.heap.size ∧ (W.alloc (.cells (Pg.vs Pg.zeros).toArray 125)).grownBy W' (some mb) := by
  have hmb := h.lt
  obtain ⟨⟨F, hF, hG⟩, h2, h3, h4⟩ := h
  have hF1 : Mp.Is Tryz.prog 21 (W.alloc (.cells (Pg.vs Pg.zeros).toArray 125)) mb F := hF.below ((Below.refl _ _).alloc (Nat.le_refl _) _)
  obtain ⟨F', g1, g2⟩ : ∃ F' : Value → Option Value, F' (.int .i32 n) = some (.pointer (some ⟨W.heap.size, 0, none⟩)) ∧ ∀ z, z ≠ .int .i32 n → F' z = F z := by
    classical
    exact ⟨fun z => if z = .int .i32 n then some (.pointer (some ⟨W.heap.size, 0, none⟩)) else F z, by simp, fun z hz => by simp [hz]⟩
  obtain ⟨W', k1, k2, k3⟩ := hF1.put Pg.keyed32 Tryz.underlying150 (Pg.key32 hn) F' g1 g2
  have hsz : W.heap.size + 1 ≤ W'.heap.size := by have := k3.size; simpa using this
  refine ⟨W', fun k => if k = n then some W.heap.size else G k, k1, ⟨⟨F', k2, fun k hk => ?_⟩, fun k hk => ?_, fun k g hk => ?_, fun k k' g hk hk' => ?_⟩, by simp, k3⟩
  · by_cases e : k = n
    · subst e; rw [g1]; simp
    · rw [g2 _ (by simp; omega), hG k hk]; simp [e]
  · by_cases e : k = n
    · subst e; simp
    · simp only [if_neg e]; exact h2 k hk
  · have hne : ∀ q cs, Rw.At (W.alloc (.cells (Pg.vs Pg.zeros).toArray 125)) q 125 cs → Rw.At W' q 125 cs := fun q cs hq => hq.grown k3 (by
      intro e
      cases e
      obtain ⟨es, c, hh, _⟩ := hF1
      have := hq.symm.trans hh
      cases this)
    by_cases e : k = n
    · subst e
      simp only [if_true, Option.some.injEq]
      rintro rfl
      refine ⟨hlo, by omega, hne _ _ ?_⟩
      rw [h2 _ hk hg]
      exact Rw.At.new W 125 (Pg.vs Pg.zeros)
    · simp only [if_neg e]
      intro he
      obtain ⟨a1, a2, a3⟩ := h3 k g hk he
      exact ⟨a1, by omega, hne _ _ (a3.alloc _)⟩
  · by_cases e : k = n
    · by_cases e' : k' = n
      · intros; omega
      · simp only [if_pos e, if_neg e', Option.some.injEq]
        rintro rfl h6
        have := (h3 k' _ hk' h6).2.1
        omega
    · by_cases e' : k' = n
      · simp only [if_pos e', if_neg e, Option.some.injEq]
        rintro h6 rfl
        have := (h3 k _ hk h6).2.1
        omega
      · simp only [if_neg e, if_neg e']
        exact h4 k k' g hk hk'
/-- A number is put into the block at n. -/
theorem Pg.St.store (h : Pg.St lo hi W mb f G) {n g j : Nat} (hn : n < 4352) (hg : G n = some g) (v : Int) (h1 : Pg.blk f' n = (Pg.blk f n).set j v) (h2 : ∀ k, k ≠ n → Pg.blk f' k = Pg.blk f k) :
    Pg.St lo hi (W.setCell ⟨g, j, none⟩ (.int .u16 v)) mb f' G := by
  obtain ⟨⟨F, ⟨es, c, hh, r⟩, hG⟩, i2, i3, i4⟩ := h
  obtain ⟨a1, a2, a3⟩ := i3 n g hn hg
  have hne : mb ≠ g := by
    rintro rfl
    have := a3.symm.trans hh
    cases this
  refine ⟨⟨F, ⟨es, c, (Below.heap_setCell _ _ _ mb hne).trans hh, r⟩, hG⟩, fun k hk hk' => ?_, fun k q hk hq => ?_, i4⟩
  · have : k ≠ n := by rintro rfl; rw [hg] at hk'; cases hk'
    rw [h2 k this]
    exact i2 k hk hk'
  · obtain ⟨b1, b2, b3⟩ := i3 k q hk hq
    by_cases e : k = n
    · subst e
      rw [hg] at hq
      cases hq
      refine ⟨b1, b2, ?_⟩
      rw [h1]
      have := a3.set j (.int .u16 v)
      rw [show Pg.vs ((Pg.blk f k).set j v) = (Pg.vs (Pg.blk f k)).set j (.int .u16 v) by unfold Pg.vs; rw [List.map_set]]
      exact this
    · refine ⟨b1, b2, ?_⟩
      rw [h2 k e]
      exact b3.other (by
        rintro rfl
        exact e (i4 k n q hk hn hq hg)) _
theorem Pg.St.at (h : Pg.St lo hi W mb f G) {n g : Nat} (hn : n < 4352) (hg : G n = some g) : lo ≤ g ∧ g < hi ∧ Rw.At W g 125 (Pg.vs (Pg.blk f n)) := h.2.2.1 n g hn hg
theorem Pg.St.none (h : Pg.St lo hi W mb f G) {n : Nat} (hn : n < 4352) (hg : G n = Option.none) : Pg.blk f n = Pg.zeros := h.2.1 n hn hg
end
theorem Pg.At.load {w : World} {g : Nat} {b : List Int} (h : Rw.At w g 125 (Pg.vs b)) (hb : b.length = 256) : (Instr.loadAt 125 (.pointer (some ⟨g, 0, none⟩))).run Tryz.prog w = .ok (.agg (Pg.vs b).toArray) w :=
  Pg.run_load w _ _ g 0 256 _ (by unfold Pg.vs; rw [List.length_map, hb]) (fun j u hu => by rw [Nat.zero_add]; exact h.cell j hu) Tryz.underlying125 rfl Pg.infoBlk

/-- The places of blocks, in a map. -/
theorem Pg.blkKey : Go.WideMaps.ArrKey Tryz.prog 125 70 256 := ⟨Tryz.underlying125, by kernel_rfl, by kernel_rfl, by kernel_rfl⟩
theorem Pg.keyedB : Go.Maps.Keyed Tryz.prog 125 := Go.Maps.Keyed.of_law Pg.blkKey.law
def Pg.u16 (b : List Int) : Prop := b.length = 256 ∧ ∀ x ∈ b, 0 ≤ x ∧ x ≤ 65535
theorem Pg.key_ok {b : List Int} (h : Pg.u16 b) : ∃ l, keyOf Tryz.prog 125 (.agg (Pg.vs b).toArray) = some l :=
  Mp.keyArr Pg.blkKey Tryz.underlying70 ⟨316 - 1, by kernel_rfl⟩ b h.1 fun x hx => by
    obtain ⟨h1, h2⟩ := h.2 x hx
    simp only [Lit.wf, Bool.and_eq_true, decide_eq_true_eq]
    exact ⟨Int.le_trans (by decide : _ ≤ (0 : Int)) h1, Int.le_trans h2 (by decide)⟩
theorem Pg.vs_inj {a b : List Int} (h : Value.agg (Pg.vs a).toArray = .agg (Pg.vs b).toArray) : a = b := by
  simp only [Value.agg.injEq] at h
  have h : Pg.vs a = Pg.vs b := by simpa using congrArg Array.toList h
  unfold Pg.vs at h
  exact (List.map_inj_right fun x y e => by simpa using e).1 h
theorem Pg.last_u16 {L : List (Int × Int)} (h : ∀ x ∈ L, 0 ≤ x.2 ∧ x.2 ≤ 65535) (c : Int) : 0 ≤ Pg.last L c ∧ Pg.last L c ≤ 65535 := by
  unfold Pg.last
  suffices ∀ (L : List (Int × Int)) (a : Int), (∀ x ∈ L, 0 ≤ x.2 ∧ x.2 ≤ 65535) → 0 ≤ a ∧ a ≤ 65535 → 0 ≤ L.foldl (fun a x => if x.1 = c then x.2 else a) a ∧ L.foldl (fun a x => if x.1 = c then x.2 else a) a ≤ 65535 from this L 0 h (by decide)
  intro L
  induction L with
  | nil => intro a _ ha; exact ha
  | cons x l ih =>
    intro a hl ha
    refine ih _ (fun y hy => hl y (List.mem_cons_of_mem _ hy)) ?_
    by_cases e : x.1 = c
    · simp only [if_pos e]; exact hl x List.mem_cons_self
    · simp only [if_neg e]; exact ha
theorem Pg.blk_u16 {L : List (Int × Int)} (h : ∀ x ∈ L, 0 ≤ x.2 ∧ x.2 ≤ 65535) (m : Nat) : Pg.u16 (Pg.blk (Pg.last L) m) := by
  refine ⟨Pg.blk_len _ _, fun x hx => ?_⟩
  unfold Pg.blk at hx
  obtain ⟨i, _, rfl⟩ := List.mem_map.1 hx
  exact Pg.last_u16 h _
def Pg.Pl (W : World) (pb : Nat) (bl : List (List Int)) : Prop :=
  ∃ F, Mp.Is Tryz.prog 125 W pb F ∧ ∀ b : List Int, F (.agg (Pg.vs b).toArray) = (Pg.place bl b).map fun k => .int .i64 k
theorem Pg.Pl.look {W : World} {pb : Nat} {bl : List (List Int)} (h : Pg.Pl W pb bl) {b : List Int} (hb : Pg.u16 b) :
    (Instr.lookup 152 (.map (some pb)) (.agg (Pg.vs b).toArray) true).run Tryz.prog W = .ok (.tuple #[.int .i64 ((Pg.place bl b).getD 0 : Nat), .bool (Pg.place bl b).isSome]) W := by
  obtain ⟨F, hF, hp⟩ := h
  obtain ⟨l, hl⟩ := Pg.key_ok hb
  have hz : (zeroValue 3).run Tryz.prog W = .ok (.int .i64 0) W := by kernel_rfl
  have := hF.look Pg.keyedB Tryz.underlying152 hz hl true
  rw [if_pos rfl, hp b] at this
  rw [this]
  cases Pg.place bl b <;> rfl
theorem Pg.Pl.put {W : World} {pb : Nat} {bl : List (List Int)} (h : Pg.Pl W pb bl) {b : List Int} (hb : Pg.u16 b) (hn : b ∉ bl) :
    ∃ W', (Instr.mapUpdate 152 (.map (some pb)) (.agg (Pg.vs b).toArray) (.int .i64 bl.length)).run Tryz.prog W = .ok () W' ∧ Pg.Pl W' pb (Pg.add bl b) ∧ W.grownBy W' (some pb) := by
  obtain ⟨F, hF, hp⟩ := h
  obtain ⟨l, hl⟩ := Pg.key_ok hb
  obtain ⟨F', g1, g2⟩ : ∃ F' : Value → Option Value, F' (.agg (Pg.vs b).toArray) = some (.int .i64 bl.length) ∧ ∀ z, z ≠ .agg (Pg.vs b).toArray → F' z = F z := by
    classical
    exact ⟨fun z => if z = .agg (Pg.vs b).toArray then some (.int .i64 bl.length) else F z, by simp, fun z hz => by simp [hz]⟩
  obtain ⟨W', k1, k2, k3⟩ := hF.put Pg.keyedB Tryz.underlying152 hl F' g1 g2
  refine ⟨W', k1, ⟨F', k2, fun c => ?_⟩, k3⟩
  rw [Pg.place_add hn]
  by_cases e : c = b
  · subst e; rw [g1]; simp
  · rw [g2 _ fun e' => e (Pg.vs_inj e'), hp c, if_neg e]
theorem Pg.Pl.made (w : World) (pb : Nat) : ∃ W', (Instr.mapUpdate 152 (.map (some w.heap.size)) (.agg (Pg.vs Pg.zeros).toArray) (.int .i64 0)).run Tryz.prog (w.alloc (.map #[] 0)) = .ok () W' ∧ Pg.Pl W' w.heap.size [Pg.zeros] ∧ (w.alloc (.map #[] 0)).grownBy W' (some w.heap.size) := by
  have h : Pg.Pl (w.alloc (.map #[] 0)) w.heap.size [] := ⟨_, Mp.Is.made w Tryz.prog 125, fun b => rfl⟩
  have hz : Pg.u16 Pg.zeros := ⟨List.length_replicate, fun x hx => by unfold Pg.zeros at hx; have := List.eq_of_mem_replicate hx; omega⟩
  obtain ⟨W', h1, h2, h3⟩ := h.put hz (by simp)
  exact ⟨W', h1, h2, h3⟩
theorem Pg.Pl.lt {W : World} {pb : Nat} {bl : List (List Int)} (h : Pg.Pl W pb bl) : pb < W.heap.size := by
  obtain ⟨F, hF, _⟩ := h
  exact hF.lt
theorem Pg.Pl.grown {W W' : World} {pb : Nat} {bl : List (List Int)} {row : Option Nat} (h : Pg.Pl W pb bl) (hg : W.grownBy W' row) (hne : some pb ≠ row) : Pg.Pl W' pb bl := by
  obtain ⟨F, hF, hp⟩ := h
  exact ⟨F, hF.grown hg hne, hp⟩
theorem Pg.Pl.notAt {W : World} {pb g : Nat} {bl : List (List Int)} (h : Pg.Pl W pb bl) {t : TypeId} {cs : Array Value} {fr : Nat × Nat} (hg : W.heap[g]? = some (.cells cs t fr)) : pb ≠ g := by
  rintro rfl
  obtain ⟨F, ⟨es, c, hh, _⟩, _⟩ := h
  have := hg.symm.trans hh
  cases this
end Go.Proofs.YtkmfegamblmpeaaGreatDoor

/- The two maps of a loaded table: what is found in them, and what a store makes of them. -/
namespace Go.Proofs.YtkmfegamblmpeaaGreatDoor
open Go.RowKit
set_option linter.unusedSimpArgs false
set_option linter.unusedVariables false
theorem Ud.key32 {c : Int} (h : -2147483648 ≤ c ∧ c ≤ 2147483647) : keyOf Tryz.prog 21 (.int .i32 c) = some (.int .i32 c) := Go.Maps.keyOf_int_mk Tryz.underlying21 (Md.wf32 h.1 h.2)
theorem Ud.look32 {w : World} {b : Nat} {F : Value → Option Value} (h : Mp.Is Tryz.prog 21 w b F) {c : Int} (hc : -2147483648 ≤ c ∧ c ≤ 2147483647) {v : Value} (hv : (F (.int .i32 c)).getD (.slice none 0 0) = v) :
    (Instr.lookup 73 (.map (some b)) (.int .i32 c) false).run Tryz.prog w = .ok v w := by
  have hz : (zeroValue 36).run Tryz.prog w = .ok (.slice none 0 0) w := by kernel_rfl
  have := h.look Pg.keyed32 Tryz.underlying73 hz (Ud.key32 hc) false
  rw [if_neg (by simp), hv] at this
  exact this
theorem Ud.put32 {w : World} {b : Nat} {F : Value → Option Value} (h : Mp.Is Tryz.prog 21 w b F) {c : Int} (hc : -2147483648 ≤ c ∧ c ≤ 2147483647) (v : Value) :
    ∃ w' F', (Instr.mapUpdate 73 (.map (some b)) (.int .i32 c) v).run Tryz.prog w = .ok () w' ∧ Mp.Is Tryz.prog 21 w' b F' ∧ F' (.int .i32 c) = some v ∧ (∀ y, y ≠ .int .i32 c → F' y = F y) ∧ w.grownBy w' (some b) := by
  obtain ⟨F', h1, h2⟩ : ∃ F' : Value → Option Value, F' (.int .i32 c) = some v ∧ ∀ z, z ≠ .int .i32 c → F' z = F z := by
    classical
    exact ⟨fun z => if z = .int .i32 c then some v else F z, by simp, fun z hz => by simp [hz]⟩
  obtain ⟨w', g1, g2, g3⟩ := h.put Pg.keyed32 Tryz.underlying73 (Ud.key32 hc) F' h1 h2
  exact ⟨w', F', g1, g2, h1, h2, g3⟩
theorem Ud.keyedP : Go.Maps.Keyed Tryz.prog 104 := Go.Maps.Keyed.of_law (Go.deep_law_laid (m := 3) (by kernel_rfl) (by decide) (of_decide_eq_true (by kernel_rfl)) (by kernel_rfl) (by rw [Tryz.underlying104]))
theorem Ud.pk_key {x y : Int} (hx : -2147483648 ≤ x ∧ x ≤ 2147483647) (hy : -2147483648 ≤ y ∧ y ≤ 2147483647) : ∃ l, keyOf Tryz.prog 104 (Md.pk x y) = some l := by
  have h0 : ∀ (m : Nat) (z : Int), -2147483648 ≤ z ∧ z ≤ 2147483647 → Tryz.prog.keyLits (m + 1) 21 [.int .i32 z] = some [.int .i32 z] := fun m z hz => by
    unfold Program.keyLits
    rw [Tryz.underlying21]
    simp [Md.wf32 hz.1 hz.2]
  have h1 : ∀ z : Int, -2147483648 ≤ z ∧ z ≤ 2147483647 → Tryz.prog.keyLits 316 21 [.int .i32 z] = some [.int .i32 z] := fun z hz => by
    have := h0 (316 - 1) z hz
    rwa [show 316 - 1 + 1 = 316 by decide] at this
  have ht : Tryz.prog.types.size = 316 := by kernel_rfl
  have hc : Tryz.prog.cellsOf 21 = 1 := by kernel_rfl
  have hc2 : Tryz.prog.cellsOf 104 = 2 := by kernel_rfl
  have hl : Tryz.prog.keyLits (Tryz.prog.types.size + 1) 104 [.int .i32 x, .int .i32 y] = some [.int .i32 x, .int .i32 y] := by
    unfold Program.keyLits
    rw [Tryz.underlying104, ht]
    simp [hc, hc2, h1 x hx, h1 y hy]
  have hk : Tryz.prog.keyType 104 = true := by kernel_rfl
  have hf : (Md.pk x y).formed Tryz.prog 104 = true := by
    unfold Value.formed Md.pk
    rw [Tryz.underlying104]
    simp [hc2]
  unfold keyOf
  rw [Tryz.underlying104]
  simp only [hk, hf, Bool.and_self, if_true]
  unfold Md.pk
  simp only [Value.cells]
  rw [hl]
  exact ⟨_, rfl⟩
theorem Ud.lookP {w : World} {b : Nat} {F : Value → Option Value} (h : Mp.Is Tryz.prog 104 w b F) {x y : Int} (hx : -2147483648 ≤ x ∧ x ≤ 2147483647) (hy : -2147483648 ≤ y ∧ y ≤ 2147483647) :
    (Instr.lookup 74 (.map (some b)) (.agg #[.int .i32 x, .int .i32 y]) true).run Tryz.prog w = .ok (.tuple #[(F (Md.pk x y)).getD (.int .i32 0), .bool (F (Md.pk x y)).isSome]) w := by
  obtain ⟨l, hl⟩ := Ud.pk_key hx hy
  have hz : (zeroValue 21).run Tryz.prog w = .ok (.int .i32 0) w := by kernel_rfl
  have := h.look Ud.keyedP Tryz.underlying74 hz hl true
  rw [if_pos rfl] at this
  exact this
theorem Ud.putP {w : World} {b : Nat} {F : Value → Option Value} (h : Mp.Is Tryz.prog 104 w b F) {x y : Int} (hx : -2147483648 ≤ x ∧ x ≤ 2147483647) (hy : -2147483648 ≤ y ∧ y ≤ 2147483647) (v : Value) :
    ∃ w' F', (Instr.mapUpdate 74 (.map (some b)) (.agg #[.int .i32 x, .int .i32 y]) v).run Tryz.prog w = .ok () w' ∧ Mp.Is Tryz.prog 104 w' b F' ∧ F' (.agg #[.int .i32 x, .int .i32 y]) = some v ∧ (∀ z, z ≠ .agg #[.int .i32 x, .int .i32 y] → F' z = F z) ∧ w.grownBy w' (some b) := by
  obtain ⟨l, hl⟩ := Ud.pk_key hx hy
  obtain ⟨F', h1, h2⟩ : ∃ F' : Value → Option Value, F' (Md.pk x y) = some v ∧ ∀ z, z ≠ Md.pk x y → F' z = F z := by
    classical
    exact ⟨fun z => if z = Md.pk x y then some v else F z, by simp, fun z hz => by simp [hz]⟩
  obtain ⟨w', g1, g2, g3⟩ := h.put Ud.keyedP Tryz.underlying74 hl F' h1 h2
  exact ⟨w', F', g1, g2, h1, h2, g3⟩
end Go.Proofs.YtkmfegamblmpeaaGreatDoor
