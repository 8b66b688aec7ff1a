/- Pages: what stands in memory while New is under way: blocks behind a map, and the places of blocks in another. -/
import Derived.Test.YtamcpdggpdaioaaPgPlain2
import Derived.Test.YtamcpdggpdaioaaPgLoad
import Derived.Test.YtamcpdggpdaioaaPgLib
import Derived.Test.YtamcpdggpdaioaaMap
namespace Go.Proofs.Ytamcpdggpdaioaa
open Go.RowKit
set_option linter.unusedSimpArgs false
set_option linter.unusedVariables false

/-- What New is handed: cells. -/
def Pg.cellsOk (L : List (Int × Int)) : Prop := ∀ x ∈ L, -2147483648 ≤ x.1 ∧ x.1 ≤ 2147483647 ∧ 0 ≤ x.2 ∧ x.2 ≤ 65535
/-- A value of pages whose blocks lie from lo on. -/
def Pg.IsL (lo : Nat) (w : World) (v : Value) (idx : List Int) (bl : List (List Int)) : Prop :=
  ∃ g A c, v = .pointer (some ⟨g, 0, none⟩) ∧ lo ≤ g ∧ Rw.At w g 77 (idx.map (Value.int .u16) ++ [.slice A bl.length c]) ∧ Sl w w.heap.size A (bl.flatten.map (Value.int .u16)) ∧ ∀ a, A = some a → lo ≤ a.block
theorem Pg.IsL.is {lo : Nat} {w : World} {v : Value} {idx : List Int} {bl : List (List Int)} (h : Pg.IsL lo w v idx bl) : Pg.Is w v idx bl := by
  obtain ⟨g, A, c, h1, _, h2, h3, _⟩ := h
  exact ⟨g, A, c, h1, h2, h3⟩
theorem Pg.IsL.grown {lo b : Nat} {w w' : World} {v : Value} {idx : List Int} {bl : List (List Int)} (h : Pg.IsL lo w v idx bl) (hg : w.grownBy w' (some b)) (hb : b < lo) : Pg.IsL lo w' v idx bl := by
  obtain ⟨g, A, c, h1, h0, h2, h3, h4⟩ := h
  refine ⟨g, A, c, h1, h0, h2.grown hg (by simp; omega), fun hx => ?_, h4⟩
  obtain ⟨q, o, hA, hq, hc⟩ := h3 hx
  have hlo := h4 _ hA
  refine ⟨q, o, hA, Nat.lt_of_lt_of_le hq hg.size, fun i hi => ?_⟩
  rw [← hc i hi]
  have hk := hg.block q hq (by simp; dsimp only at hlo; omega)
  simp [World.cell?, hk]
def Pg.OfL (lo : Nat) (w : World) (v : Value) (f : Int → Int) : Prop := Pg.IsL lo w v (Pg.idx f 4352) (Pg.bls f 4352)
theorem Pg.keyed32 : Go.Maps.Keyed Try.prog 21 := Go.Maps.int_keyed Try.underlying21
theorem Pg.key32 {n : Nat} (h : n < 4352) : keyOf Try.prog 21 (.int .i32 n) = some (.int .i32 n) := Go.Maps.keyOf_int_mk Try.underlying21 (by simp only [Lit.wf, Bool.and_eq_true, decide_eq_true_eq]; exact ⟨Int.le_trans (by decide : _ ≤ (0 : Int)) (by omega), Int.le_trans (by omega : (n : Int) ≤ 4352) (by decide)⟩)
def Pg.ptr (g : Option Nat) : Value := .pointer (g.map fun g => ⟨g, 0, none⟩)
def Pg.vs (b : List Int) : List Value := b.map (Value.int .u16)
/-- The map mb has at n the block of the numbers 256 n and on; where it has none they are noughts. The blocks lie from lo on, below hi. -/
def Pg.St (lo hi : Nat) (W : World) (mb : Nat) (f : Int → Int) (G : Nat → Option Nat) : Prop :=
  (∃ F, Mp.Is Try.prog 21 W mb F ∧ ∀ n : Nat, n < 4352 → F (.int .i32 n) = (G n).map fun g => .pointer (some ⟨g, 0, none⟩)) ∧
  (∀ n, n < 4352 → G n = none → Pg.blk f n = Pg.zeros) ∧ (∀ n g, n < 4352 → G n = some g → lo ≤ g ∧ g < hi ∧ Rw.At W g 73 (Pg.vs (Pg.blk f n))) ∧
  (∀ n n' g, n < 4352 → n' < 4352 → G n = some g → G n' = some g → n = n')
section
variable {lo hi : Nat} {W W' : World} {mb : Nat} {f f' : Int → Int} {G : Nat → Option Nat}
theorem Pg.St.made (w : World) (lo hi : Nat) : Pg.St lo hi (w.alloc (.map #[] 0)) w.heap.size (Pg.last []) fun _ => none :=
  ⟨⟨_, Mp.Is.made w Try.prog 21, fun _ _ => rfl⟩, fun n _ _ => Pg.blk_last_nil n, fun _ _ _ h => (nomatch h), fun _ _ _ _ _ h => (nomatch h)⟩
theorem Pg.St.lt (h : Pg.St lo hi W mb f G) : mb < W.heap.size := by
  obtain ⟨⟨F, hF, _⟩, _⟩ := h
  exact hF.lt
theorem Pg.St.below {B : Nat} (h : Pg.St lo hi W mb f G) (hb : Below B W W') (h1 : mb < B) (h2 : hi ≤ B) : Pg.St lo hi W' mb f G := by
  obtain ⟨⟨F, ⟨es, c, hh, r⟩, hF⟩, h3, h4, h5⟩ := h
  exact ⟨⟨F, ⟨es, c, (hb.block mb h1).trans hh, r⟩, hF⟩, h3, fun n g hn hg => ⟨(h4 n g hn hg).1, (h4 n g hn hg).2.1, (h4 n g hn hg).2.2.below' hb (by have := (h4 n g hn hg).2.1; omega)⟩, h5⟩
theorem Pg.St.more {hi' : Nat} (h : Pg.St lo hi W mb f G) (hh : hi ≤ hi') : Pg.St lo hi' W mb f G :=
  ⟨h.1, h.2.1, fun n g hn hg => ⟨(h.2.2.1 n g hn hg).1, Nat.lt_of_lt_of_le (h.2.2.1 n g hn hg).2.1 hh, (h.2.2.1 n g hn hg).2.2⟩, h.2.2.2⟩
theorem Pg.St.turn (h : Pg.St lo hi W mb f G) (hf : ∀ n, n < 4352 → Pg.blk f' n = Pg.blk f n) : Pg.St lo hi W mb f' G :=
  ⟨h.1, fun n hn hg => by rw [hf n hn]; exact h.2.1 n hn hg, fun n g hn hg => by rw [hf n hn]; exact h.2.2.1 n g hn hg, h.2.2.2⟩
theorem Pg.St.look (h : Pg.St lo hi W mb f G) {n : Nat} (hn : n < 4352) : (Instr.lookup 69 (.map (some mb)) (.int .i32 n) false).run Try.prog W = .ok (Pg.ptr (G n)) W := by
  obtain ⟨⟨F, hF, hG⟩, _⟩ := h
  have hz : (zeroValue 71).run Try.prog W = .ok (.pointer none) W := by kernel_rfl
  have := hF.look Pg.keyed32 Try.underlying69 hz (Pg.key32 hn) false
  rw [hG n hn] at this
  rw [this]
  cases G n <;> rfl
/-- A new block at n. -/
theorem Pg.St.put (h : Pg.St lo hi W mb f G) {n : Nat} (hn : n < 4352) (hg : G n = none) (hlo : lo ≤ W.heap.size) (hhi : hi ≤ W.heap.size) :
    ∃ W' G', (Instr.mapUpdate 69 (.map (some mb)) (.int .i32 n) (.pointer (some ⟨W.heap.size, 0, none⟩))).run Try.prog (W.alloc (.cells (Pg.vs Pg.zeros).toArray 73)) = .ok () W' ∧
      Pg.St lo W'.heap.size W' mb f G' ∧ G' n = some W.heap.size ∧ (W.alloc (.cells (Pg.vs Pg.zeros).toArray 73)).grownBy W' (some mb) := by
  have hmb := h.lt
  obtain ⟨⟨F, hF, hG⟩, h2, h3, h4⟩ := h
  have hF1 : Mp.Is Try.prog 21 (W.alloc (.cells (Pg.vs Pg.zeros).toArray 73)) mb F := hF.below ((Below.refl _ _).alloc (Nat.le_refl _) _)
  obtain ⟨F', g1, g2⟩ : ∃ F' : Value → Option Value, F' (.int .i32 n) = some (.pointer (some ⟨W.heap.size, 0, none⟩)) ∧ ∀ z, z ≠ .int .i32 n → F' z = F z := by
    classical
    exact ⟨fun z => if z = .int .i32 n then some (.pointer (some ⟨W.heap.size, 0, none⟩)) else F z, by simp, fun z hz => by simp [hz]⟩
  obtain ⟨W', k1, k2, k3⟩ := hF1.put Pg.keyed32 Try.underlying69 (Pg.key32 hn) F' g1 g2
  have hsz : W.heap.size + 1 ≤ W'.heap.size := by have := k3.size; simpa using this
  refine ⟨W', fun k => if k = n then some W.heap.size else G k, k1, ⟨⟨F', k2, fun k hk => ?_⟩, fun k hk => ?_, fun k g hk => ?_, fun k k' g hk hk' => ?_⟩, by simp, k3⟩
  · by_cases e : k = n
    · subst e; rw [g1]; simp
    · rw [g2 _ (by simp; omega), hG k hk]; simp [e]
  · by_cases e : k = n
    · subst e; simp
    · simp only [if_neg e]; exact h2 k hk
  · have hne : ∀ q cs, Rw.At (W.alloc (.cells (Pg.vs Pg.zeros).toArray 73)) q 73 cs → Rw.At W' q 73 cs := fun q cs hq => hq.grown k3 (by
      intro e
      cases e
      obtain ⟨es, c, hh, _⟩ := hF1
      have := hq.symm.trans hh
      cases this)
    by_cases e : k = n
    · subst e
      simp only [if_true, Option.some.injEq]
      rintro rfl
      refine ⟨hlo, by omega, hne _ _ ?_⟩
      rw [h2 _ hk hg]
      exact Rw.At.new W 73 (Pg.vs Pg.zeros)
    · simp only [if_neg e]
      intro he
      obtain ⟨a1, a2, a3⟩ := h3 k g hk he
      exact ⟨a1, by omega, hne _ _ (a3.alloc _)⟩
  · by_cases e : k = n
    · by_cases e' : k' = n
      · intros; omega
      · simp only [if_pos e, if_neg e', Option.some.injEq]
        rintro rfl h6
        have := (h3 k' _ hk' h6).2.1
        omega
    · by_cases e' : k' = n
      · simp only [if_pos e', if_neg e, Option.some.injEq]
        rintro h6 rfl
        have := (h3 k _ hk h6).2.1
        omega
      · simp only [if_neg e, if_neg e']
        exact h4 k k' g hk hk'
/-- A number is put into the block at n. -/
theorem Pg.St.store (h : Pg.St lo hi W mb f G) {n g j : Nat} (hn : n < 4352) (hg : G n = some g) (v : Int) (h1 : Pg.blk f' n = (Pg.blk f n).set j v) (h2 : ∀ k, k ≠ n → Pg.blk f' k = Pg.blk f k) :
    Pg.St lo hi (W.setCell ⟨g, j, none⟩ (.int .u16 v)) mb f' G := by
  obtain ⟨⟨F, ⟨es, c, hh, r⟩, hG⟩, i2, i3, i4⟩ := h
  obtain ⟨a1, a2, a3⟩ := i3 n g hn hg
  have hne : mb ≠ g := by
    rintro rfl
    have := a3.symm.trans hh
    cases this
  refine ⟨⟨F, ⟨es, c, (Below.heap_setCell _ _ _ mb hne).trans hh, r⟩, hG⟩, fun k hk hk' => ?_, fun k q hk hq => ?_, i4⟩
  · have : k ≠ n := by rintro rfl; rw [hg] at hk'; cases hk'
    rw [h2 k this]
    exact i2 k hk hk'
  · obtain ⟨b1, b2, b3⟩ := i3 k q hk hq
    by_cases e : k = n
    · subst e
      rw [hg] at hq
      cases hq
      refine ⟨b1, b2, ?_⟩
      rw [h1]
      have := a3.set j (.int .u16 v)
      rw [show Pg.vs ((Pg.blk f k).set j v) = (Pg.vs (Pg.blk f k)).set j (.int .u16 v) by unfold Pg.vs; rw [List.map_set]]
      exact this
    · refine ⟨b1, b2, ?_⟩
      rw [h2 k e]
      exact b3.other (by
        rintro rfl
        exact e (i4 k n q hk hn hq hg)) _
theorem Pg.St.at (h : Pg.St lo hi W mb f G) {n g : Nat} (hn : n < 4352) (hg : G n = some g) : lo ≤ g ∧ g < hi ∧ Rw.At W g 73 (Pg.vs (Pg.blk f n)) := h.2.2.1 n g hn hg
theorem Pg.St.none (h : Pg.St lo hi W mb f G) {n : Nat} (hn : n < 4352) (hg : G n = Option.none) : Pg.blk f n = Pg.zeros := h.2.1 n hn hg
end
theorem Pg.At.load {w : World} {g : Nat} {b : List Int} (h : Rw.At w g 73 (Pg.vs b)) (hb : b.length = 256) : (Instr.loadAt 73 (.pointer (some ⟨g, 0, none⟩))).run Try.prog w = .ok (.agg (Pg.vs b).toArray) w :=
  Pg.run_load w _ _ g 0 256 _ (by unfold Pg.vs; rw [List.length_map, hb]) (fun j u hu => by rw [Nat.zero_add]; exact h.cell j hu) Try.underlying73 rfl Pg.infoBlk

/-- The places of blocks, in a map. -/
theorem Pg.blkKey : Go.WideMaps.ArrKey Try.prog 73 32 256 := ⟨Try.underlying73, by kernel_rfl, by kernel_rfl, by kernel_rfl⟩
theorem Pg.keyedB : Go.Maps.Keyed Try.prog 73 := Go.Maps.Keyed.of_law Pg.blkKey.law
def Pg.u16 (b : List Int) : Prop := b.length = 256 ∧ ∀ x ∈ b, 0 ≤ x ∧ x ≤ 65535
theorem Pg.key_ok {b : List Int} (h : Pg.u16 b) : ∃ l, keyOf Try.prog 73 (.agg (Pg.vs b).toArray) = some l :=
  Mp.keyArr Pg.blkKey Try.underlying32 ⟨156 - 1, by kernel_rfl⟩ b h.1 fun x hx => by
    obtain ⟨h1, h2⟩ := h.2 x hx
    simp only [Lit.wf, Bool.and_eq_true, decide_eq_true_eq]
    exact ⟨Int.le_trans (by decide : _ ≤ (0 : Int)) h1, Int.le_trans h2 (by decide)⟩
theorem Pg.vs_inj {a b : List Int} (h : Value.agg (Pg.vs a).toArray = .agg (Pg.vs b).toArray) : a = b := by
  simp only [Value.agg.injEq] at h
  have h : Pg.vs a = Pg.vs b := by simpa using congrArg Array.toList h
  unfold Pg.vs at h
  exact (List.map_inj_right fun x y e => by simpa using e).1 h
theorem Pg.last_u16 {L : List (Int × Int)} (h : ∀ x ∈ L, 0 ≤ x.2 ∧ x.2 ≤ 65535) (c : Int) : 0 ≤ Pg.last L c ∧ Pg.last L c ≤ 65535 := by
  unfold Pg.last
  suffices ∀ (L : List (Int × Int)) (a : Int), (∀ x ∈ L, 0 ≤ x.2 ∧ x.2 ≤ 65535) → 0 ≤ a ∧ a ≤ 65535 → 0 ≤ L.foldl (fun a x => if x.1 = c then x.2 else a) a ∧ L.foldl (fun a x => if x.1 = c then x.2 else a) a ≤ 65535 from this L 0 h (by decide)
  intro L
  induction L with
  | nil => intro a _ ha; exact ha
  | cons x l ih =>
    intro a hl ha
    refine ih _ (fun y hy => hl y (List.mem_cons_of_mem _ hy)) ?_
    by_cases e : x.1 = c
    · simp only [if_pos e]; exact hl x List.mem_cons_self
    · simp only [if_neg e]; exact ha
theorem Pg.blk_u16 {L : List (Int × Int)} (h : ∀ x ∈ L, 0 ≤ x.2 ∧ x.2 ≤ 65535) (m : Nat) : Pg.u16 (Pg.blk (Pg.last L) m) := by
  refine ⟨Pg.blk_len _ _, fun x hx => ?_⟩
  unfold Pg.blk at hx
  obtain ⟨i, _, rfl⟩ := List.mem_map.1 hx
  exact Pg.last_u16 h _
def Pg.Pl (W : World) (pb : Nat) (bl : List (List Int)) : Prop :=
  ∃ F, Mp.Is Try.prog 73 W pb F ∧ ∀ b : List Int, F (.agg (Pg.vs b).toArray) = (Pg.place bl b).map fun k => .int .i64 k
theorem Pg.Pl.look {W : World} {pb : Nat} {bl : List (List Int)} (h : Pg.Pl W pb bl) {b : List Int} (hb : Pg.u16 b) :
    (Instr.lookup 78 (.map (some pb)) (.agg (Pg.vs b).toArray) true).run Try.prog W = .ok (.tuple #[.int .i64 ((Pg.place bl b).getD 0 : Nat), .bool (Pg.place bl b).isSome]) W := by
  obtain ⟨F, hF, hp⟩ := h
  obtain ⟨l, hl⟩ := Pg.key_ok hb
  have hz : (zeroValue 3).run Try.prog W = .ok (.int .i64 0) W := by kernel_rfl
  have := hF.look Pg.keyedB Try.underlying78 hz hl true
  rw [if_pos rfl, hp b] at this
  rw [this]
  cases Pg.place bl b <;> rfl
theorem Pg.Pl.put {W : World} {pb : Nat} {bl : List (List Int)} (h : Pg.Pl W pb bl) {b : List Int} (hb : Pg.u16 b) (hn : b ∉ bl) :
    ∃ W', (Instr.mapUpdate 78 (.map (some pb)) (.agg (Pg.vs b).toArray) (.int .i64 bl.length)).run Try.prog W = .ok () W' ∧ Pg.Pl W' pb (Pg.add bl b) ∧ W.grownBy W' (some pb) := by
  obtain ⟨F, hF, hp⟩ := h
  obtain ⟨l, hl⟩ := Pg.key_ok hb
  obtain ⟨F', g1, g2⟩ : ∃ F' : Value → Option Value, F' (.agg (Pg.vs b).toArray) = some (.int .i64 bl.length) ∧ ∀ z, z ≠ .agg (Pg.vs b).toArray → F' z = F z := by
    classical
    exact ⟨fun z => if z = .agg (Pg.vs b).toArray then some (.int .i64 bl.length) else F z, by simp, fun z hz => by simp [hz]⟩
  obtain ⟨W', k1, k2, k3⟩ := hF.put Pg.keyedB Try.underlying78 hl F' g1 g2
  refine ⟨W', k1, ⟨F', k2, fun c => ?_⟩, k3⟩
  rw [Pg.place_add hn]
  by_cases e : c = b
  · subst e; rw [g1]; simp
  · rw [g2 _ fun e' => e (Pg.vs_inj e'), hp c, if_neg e]
theorem Pg.Pl.made (w : World) (pb : Nat) : ∃ W', (Instr.mapUpdate 78 (.map (some w.heap.size)) (.agg (Pg.vs Pg.zeros).toArray) (.int .i64 0)).run Try.prog (w.alloc (.map #[] 0)) = .ok () W' ∧ Pg.Pl W' w.heap.size [Pg.zeros] ∧ (w.alloc (.map #[] 0)).grownBy W' (some w.heap.size) := by
  have h : Pg.Pl (w.alloc (.map #[] 0)) w.heap.size [] := ⟨_, Mp.Is.made w Try.prog 73, fun b => rfl⟩
  have hz : Pg.u16 Pg.zeros := ⟨List.length_replicate, fun x hx => by unfold Pg.zeros at hx; have := List.eq_of_mem_replicate hx; omega⟩
  obtain ⟨W', h1, h2, h3⟩ := h.put hz (by simp)
  exact ⟨W', h1, h2, h3⟩
theorem Pg.Pl.lt {W : World} {pb : Nat} {bl : List (List Int)} (h : Pg.Pl W pb bl) : pb < W.heap.size := by
  obtain ⟨F, hF, _⟩ := h
  exact hF.lt
theorem Pg.Pl.grown {W W' : World} {pb : Nat} {bl : List (List Int)} {row : Option Nat} (h : Pg.Pl W pb bl) (hg : W.grownBy W' row) (hne : some pb ≠ row) : Pg.Pl W' pb bl := by
  obtain ⟨F, hF, hp⟩ := h
  exact ⟨F, hF.grown hg hne, hp⟩
theorem Pg.Pl.notAt {W : World} {pb g : Nat} {bl : List (List Int)} (h : Pg.Pl W pb bl) {t : TypeId} {cs : Array Value} {fr : Nat × Nat} (hg : W.heap[g]? = some (.cells cs t fr)) : pb ≠ g := by
  rintro rfl
  obtain ⟨F, ⟨es, c, hh, _⟩, _⟩ := h
  have := hg.symm.trans hh
  cases this
end Go.Proofs.Ytamcpdggpdaioaa
