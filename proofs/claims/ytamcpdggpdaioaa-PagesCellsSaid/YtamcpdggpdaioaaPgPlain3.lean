/- Pages: plain laws: how many blocks there are. -/
import Derived.Test.YtamcpdggpdaioaaPgPlain2
namespace Go.Proofs.Ytamcpdggpdaioaa
set_option linter.unusedVariables false
set_option linter.unusedSimpArgs false

theorem Pg.last_none {L : List (Int × Int)} {c : Int} (h : ∀ x ∈ L, x.1 ≠ c) : Pg.last L c = 0 := by
  unfold Pg.last
  suffices ∀ (L : List (Int × Int)) (a : Int), (∀ x ∈ L, x.1 ≠ c) → L.foldl (fun a x => if x.1 = c then x.2 else a) a = a from this L 0 h
  intro L
  induction L with
  | nil => intro a _; rfl
  | cons x l ih =>
    intro a hl
    rw [List.foldl_cons, if_neg (hl x List.mem_cons_self)]
    exact ih a fun y hy => hl y (List.mem_cons_of_mem _ hy)
/-- The blocks that a list's cells touch, each once. -/
def Pg.cnt (f : Int → Int) (l : List (Int × Int)) (all : List (List Int)) : List (List Int) := l.foldl (fun all x => if Pg.ok x.1 = true then Pg.add all (Pg.blk f (x.1 / 256).toNat) else all) all
theorem Pg.cnt_snoc (f : Int → Int) (l : List (Int × Int)) (x : Int × Int) (all : List (List Int)) : Pg.cnt f (l ++ [x]) all = if Pg.ok x.1 = true then Pg.add (Pg.cnt f l all) (Pg.blk f (x.1 / 256).toNat) else Pg.cnt f l all := by
  unfold Pg.cnt
  rw [List.foldl_append]
  rfl
theorem Pg.add_nodup {bl : List (List Int)} {b : List Int} (h : bl.Nodup) : (Pg.add bl b).Nodup := by
  unfold Pg.add
  split
  · exact h
  · rename_i hb
    rw [List.nodup_append]
    exact ⟨h, by simp, fun a ha c hc => by simp at hc; subst hc; exact fun e => hb (e ▸ ha)⟩
theorem Pg.cnt_spec (f : Int → Int) : ∀ (l : List (Int × Int)) (all : List (List Int)), all.Nodup → (Pg.cnt f l all).Nodup ∧ ∀ b, b ∈ Pg.cnt f l all ↔ b ∈ all ∨ ∃ x ∈ l, Pg.ok x.1 = true ∧ b = Pg.blk f (x.1 / 256).toNat
  | [], all, h => ⟨h, fun b => by simp [Pg.cnt]⟩
  | x :: l, all, h => by
    by_cases hx : Pg.ok x.1 = true
    · have e : Pg.cnt f (x :: l) all = Pg.cnt f l (Pg.add all (Pg.blk f (x.1 / 256).toNat)) := by unfold Pg.cnt; rw [List.foldl_cons, if_pos hx]
      obtain ⟨h1, h2⟩ := Pg.cnt_spec f l _ (Pg.add_nodup (b := Pg.blk f (x.1 / 256).toNat) h)
      rw [e]
      refine ⟨h1, fun b => ?_⟩
      rw [h2, Pg.add_mem]
      constructor
      · rintro ((h3 | h3) | ⟨y, hy, h4⟩)
        · exact .inl h3
        · exact .inr ⟨x, List.mem_cons_self, hx, h3⟩
        · exact .inr ⟨y, List.mem_cons_of_mem _ hy, h4⟩
      · rintro (h3 | ⟨y, hy, h4, h5⟩)
        · exact .inl (.inl h3)
        · rcases List.mem_cons.1 hy with rfl | hy
          · exact .inl (.inr h5)
          · exact .inr ⟨y, hy, h4, h5⟩
    · have e : Pg.cnt f (x :: l) all = Pg.cnt f l all := by unfold Pg.cnt; rw [List.foldl_cons, if_neg hx]
      obtain ⟨h1, h2⟩ := Pg.cnt_spec f l _ h
      rw [e]
      refine ⟨h1, fun b => ?_⟩
      rw [h2]
      constructor
      · rintro (h3 | ⟨y, hy, h4⟩)
        · exact .inl h3
        · exact .inr ⟨y, List.mem_cons_of_mem _ hy, h4⟩
      · rintro (h3 | ⟨y, hy, h4, h5⟩)
        · exact .inl h3
        · rcases List.mem_cons.1 hy with rfl | hy
          · exact absurd h4 hx
          · exact .inr ⟨y, hy, h4, h5⟩
theorem Pg.blk_untouched {L : List (Int × Int)} {n : Nat} (hn : n < 4352) (h : ∀ x ∈ L, Pg.ok x.1 = true → (x.1 / 256).toNat ≠ n) : Pg.blk (Pg.last L) n = Pg.zeros := by
  unfold Pg.blk Pg.zeros
  rw [List.eq_replicate_iff]
  refine ⟨by simp, fun b hb => ?_⟩
  obtain ⟨i, hi, rfl⟩ := List.mem_map.1 hb
  have hi := List.mem_range.1 hi
  refine Pg.last_none fun x hx e => ?_
  have hok : Pg.ok x.1 = true := by
    unfold Pg.ok
    rw [decide_eq_true_eq]
    omega
  exact h x hx hok (by omega)
theorem Pg.cnt_len (L : List (Int × Int)) : (Pg.bls (Pg.last L) 4352).length = (Pg.cnt (Pg.last L) L [Pg.zeros]).length := by
  obtain ⟨h1, h2⟩ := Pg.cnt_spec (Pg.last L) L [Pg.zeros] (by simp)
  refine List.Perm.length_eq ((List.perm_ext_iff_of_nodup (Pg.bls_nodup _ _) h1).2 fun b => ?_)
  rw [Pg.bls_mem, h2, List.mem_singleton]
  constructor
  · rintro (h | ⟨n, hn, rfl⟩)
    · exact .inl h
    · by_cases hex : ∃ x ∈ L, Pg.ok x.1 = true ∧ (x.1 / 256).toNat = n
      · obtain ⟨x, hx, h3, rfl⟩ := hex
        exact .inr ⟨x, hx, h3, rfl⟩
      · exact .inl (Pg.blk_untouched hn fun x hx h3 e => hex ⟨x, hx, h3, e⟩)
  · rintro (h | ⟨x, hx, h3, rfl⟩)
    · exact .inl h
    · refine .inr ⟨_, ?_, rfl⟩
      unfold Pg.ok at h3
      rw [decide_eq_true_eq] at h3
      omega
theorem Pg.awake_len : (Pg.bls (Pg.last [(65, 1), (321, 1)]) 4352).length = 2 := by
  rw [Pg.cnt_len]
  decide +kernel
/-- A block only looks at its own range. -/
theorem Pg.blk_congr {f g : Int → Int} (h : ∀ c, 0 ≤ c → c ≤ 1114111 → f c = g c) {n : Nat} (hn : n < 4352) : Pg.blk f n = Pg.blk g n := by
  unfold Pg.blk
  refine List.map_congr_left fun i hi => ?_
  have hi := List.mem_range.1 hi
  exact h _ (by omega) (by omega)
theorem Pg.bls_congr {f g : Int → Int} (h : ∀ c, 0 ≤ c → c ≤ 1114111 → f c = g c) : ∀ m, m ≤ 4352 → Pg.bls f m = Pg.bls g m
  | 0, _ => rfl
  | m + 1, hm => by
    rw [Pg.bls, Pg.bls, Pg.bls_congr h m (by omega), Pg.blk_congr h (by omega)]
theorem Pg.cells_congr {f g : Int → Int} (h : ∀ c, 0 ≤ c → c ≤ 1114111 → f c = g c) : Pg.cellsN f 1114112 = Pg.cellsN g 1114112 := by
  suffices ∀ m, m ≤ 1114112 → Pg.cellsN f m = Pg.cellsN g m from this _ (Nat.le_refl _)
  intro m
  induction m with
  | zero => intro _; rfl
  | succ m ih =>
    intro hm
    rw [Pg.cellsN_succ, Pg.cellsN_succ, ih (by omega), h m (by omega) (by omega)]
end Go.Proofs.Ytamcpdggpdaioaa
