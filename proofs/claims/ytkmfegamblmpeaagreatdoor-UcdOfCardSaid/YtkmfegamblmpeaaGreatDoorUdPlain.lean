/- An append of a whole slice onto a row of the call's own, whatever the size of an element. -/
import Derived.Test.YtkmfegamblmpeaaGreatDoorLib3
namespace Go.Proofs.YtkmfegamblmpeaaGreatDoor
open Go.RowKit
set_option linter.unusedSimpArgs false
set_option linter.unusedVariables false

section
variable {P : Program}
theorem run_append_empty (w : World) (base : Nat) (t ty e : TypeId) (i : TypeInfo) (size : Nat) (ht : P.underlying t = some (.slice e)) (hi : P.info? e = some i)
    (v : Value) (n : Nat) (xs : List Value) (hown : w.ownsRow base e size v n xs) (c : Nat) : (Builtin.append_ #[t, t] ty #[v, .slice none 0 c]).run P w = .ok v w := by
  rcases hown.2 with ⟨rfl, rfl⟩ | ⟨g, cap, cur, rfl, _, _, hnc, _⟩
  · simp [Builtin.append_, run_underlying ht, sizeOf, typeInfo, hi, Builtin.lenOf, Builtin.firstCells]
  · simp [Builtin.append_, run_underlying ht, sizeOf, typeInfo, hi, Builtin.lenOf, Builtin.firstCells, hnc, storeCells]

theorem wp_appendSl {o : Oper} {a : Act} {K : Act → World → Prop} {Q : Exit → Act → World → Prop} (w : World) (s x : Operand) (t : TypeId)
    (ho : o.op = .call { callee := .builtin .append, args := #[s, x], argTypes := #[t, t] })
    (base : Nat) (e : TypeId) (i : TypeInfo) (z : Value) (size bytes : Nat) (ht : P.underlying t = some (.slice e)) (hi : P.info? e = some i) (hz : i.zero = some z)
    (hsize : i.size = size) (hby : i.bytes = bytes) (hzs : z.cells.size = size) (hsz : 0 < size)
    (v : Value) (n : Nat) (xs : List Value) (hs : a.eval s = v) (hown : w.ownsRow base e size v n xs)
    (B : Nat) (A : Option Addr) (m c : Nat) (news : List Value) (hx : a.eval x = .slice A m c) (hl : news.length = m * size) (hA : Sl w B A news) (h1 : ∀ u ∈ news, u.oneCell' = true)
    (h63 : n + m ≤ maxLen) (hbytes : (n + m) * bytes ≤ 140737488355328) (hbase : base ≤ w.heap.size)
    (h : ∀ v' w', w'.ownsRow base e size v' (n + m) (xs ++ news) → Below base w w' → w.grownBy w' v.ownBlock → K (a.put o.dst v') w') :
    o.wp P a w K Q := by
  rcases A with _ | ad
  · have hn : news = [] := by
      rcases news with _ | ⟨u, r⟩
      · rfl
      · obtain ⟨b, o, hA, _⟩ := hA (by simp)
        cases hA
    subst hn
    have hm : m = 0 := by
      rcases Nat.eq_zero_or_pos m with h | h
      · exact h
      · have := Nat.mul_pos h hsz
        simp at hl
        omega
    subst hm
    have hrun := run_append_empty (P := P) w base t o.type e i size ht hi v n xs hown c
    unfold Oper.wp execOp
    simp only [ho, resolve, invoke, builtin, Sem.run_bind, Sem.run_pure, Result.andThen_ok, List.map_toArray, List.map_cons, List.map_nil, hs, hx, hrun]
    exact h v w (by simpa using hown) (Below.refl _ _) (World.grownBy.refl w _)
  · refine wp_append_own (P := P) w s x t ho base e i z size bytes ht hi hz hsize hby hzs hsz v n xs hs hown ad m c news hx hl ?_ h1 h63 hbytes hbase ?_
    · intro j q hq
      have hj : j < news.length := (List.getElem?_eq_some_iff.1 hq).1
      obtain ⟨b, o, hA, _, hc⟩ := hA (by omega)
      simp only [Option.some.injEq] at hA
      subst hA
      rw [Addr.add_lit, hc j hj, hq]
    · intro v' w' h2 h3 _
      refine h v' w' h2 ?_ h3
      refine (Below.refl _ _).grown h3 hbase ?_
      intro k hk
      exact (hown.lt k hk).1

theorem wpList_appendSl {ops : Array Oper} {rest : List Oper} {o : Oper} {a : Act} {Q : Exit → Act → World → Prop} (w : World) (hgd : o.guard = none) (s x : Operand) (t : TypeId)
    (ho : o.op = .call { callee := .builtin .append, args := #[s, x], argTypes := #[t, t] })
    (base : Nat) (e : TypeId) (i : TypeInfo) (z : Value) (size bytes : Nat) (ht : P.underlying t = some (.slice e)) (hi : P.info? e = some i) (hz : i.zero = some z)
    (hsize : i.size = size) (hby : i.bytes = bytes) (hzs : z.cells.size = size) (hsz : 0 < size)
    (v : Value) (n : Nat) (xs : List Value) (hs : a.eval s = v) (hown : w.ownsRow base e size v n xs)
    (B : Nat) (A : Option Addr) (m c : Nat) (news : List Value) (hx : a.eval x = .slice A m c) (hl : news.length = m * size) (hA : Sl w B A news) (h1 : ∀ u ∈ news, u.oneCell' = true)
    (h63 : n + m ≤ maxLen) (hbytes : (n + m) * bytes ≤ 140737488355328) (hbase : base ≤ w.heap.size)
    (h : ∀ v' w', w'.ownsRow base e size v' (n + m) (xs ++ news) → Below base w w' → w.grownBy w' v.ownBlock → wpList P ops Q rest (a.put o.dst v') w') :
    wpList P ops Q (o :: rest) a w :=
  wpList_plain hgd fun _ hK => wp_appendSl w s x t ho base e i z size bytes ht hi hz hsize hby hzs hsz v n xs hs hown B A m c news hx hl hA h1 h63 hbytes hbase fun v' w' h2 h3 h4 => hK _ _ (h v' w' h2 h3 h4)

theorem step_appendSl {ops : Array Oper} {o : Oper} {a : Act} {K : Act → World → Prop} {Q : Exit → Act → World → Prop} {E : Prop} (w : World) (hgd : o.guard = none) (s x : Operand) (t : TypeId)
    (ho : o.op = .call { callee := .builtin .append, args := #[s, x], argTypes := #[t, t] })
    (base : Nat) (e : TypeId) (i : TypeInfo) (z : Value) (size bytes : Nat) (ht : P.underlying t = some (.slice e)) (hi : P.info? e = some i) (hz : i.zero = some z)
    (hsize : i.size = size) (hby : i.bytes = bytes) (hzs : z.cells.size = size) (hsz : 0 < size)
    (v : Value) (n : Nat) (xs : List Value) (hs : a.eval s = v) (hown : w.ownsRow base e size v n xs)
    (B : Nat) (A : Option Addr) (m c : Nat) (news : List Value) (hx : a.eval x = .slice A m c) (hl : news.length = m * size) (hA : Sl w B A news) (h1 : ∀ u ∈ news, u.oneCell' = true)
    (h63 : n + m ≤ maxLen) (hbytes : (n + m) * bytes ≤ 140737488355328) (hbase : base ≤ w.heap.size)
    (h : ∀ v' w', w'.ownsRow base e size v' (n + m) (xs ++ news) → Below base w w' → w.grownBy w' v.ownBlock → K (a.put o.dst v') w') :
    if Region.wanted o (yielded ops a.tmps) = true then Oper.wp P o a w K Q else E := by
  have hw : Region.wanted o (yielded ops a.tmps) = true := by simp [Region.wanted, hgd]
  rw [if_pos hw]
  exact wp_appendSl w s x t ho base e i z size bytes ht hi hz hsize hby hzs hsz v n xs hs hown B A m c news hx hl hA h1 h63 hbytes hbase h
end

theorem oneCells (k : IntKind) (l : List Int) : ∀ u ∈ l.map (Value.int k), u.oneCell' = true := ints_oneCell k l
end Go.Proofs.YtkmfegamblmpeaaGreatDoor

/- Pages: the plain model: numbers of characters, block by block. -/
namespace Go.Proofs.YtkmfegamblmpeaaGreatDoor
set_option linter.unusedVariables false
set_option linter.unusedSimpArgs false

/-- The number of a character: its last cell's. -/
def Pg.last (L : List (Int × Int)) (c : Int) : Int := L.foldl (fun a x => if x.1 = c then x.2 else a) 0
def Pg.blk (f : Int → Int) (n : Nat) : List Int := (List.range 256).map fun i : Nat => f (256 * (n : Int) + (i : Int))
def Pg.zeros : List Int := List.replicate 256 0
def Pg.add (bl : List (List Int)) (b : List Int) : List (List Int) := if b ∈ bl then bl else bl ++ [b]
/-- The blocks of the first m ranges. -/
def Pg.bls (f : Int → Int) : Nat → List (List Int)
  | 0 => [Pg.zeros]
  | m + 1 => Pg.add (Pg.bls f m) (Pg.blk f m)
/-- A block's place. -/
def Pg.at (bl : List (List Int)) (b : List Int) : Nat := bl.idxOf b
theorem Pg.blk_len (f : Int → Int) (n : Nat) : (Pg.blk f n).length = 256 := by unfold Pg.blk; simp
theorem Pg.blk_get (f : Int → Int) (n : Nat) {i : Nat} (hi : i < 256) : (Pg.blk f n)[i]? = some (f (256 * (n : Int) + (i : Int))) := by
  unfold Pg.blk
  rw [List.getElem?_map, List.getElem?_range hi]
  rfl
theorem Pg.add_mem {bl : List (List Int)} {b x : List Int} : x ∈ Pg.add bl b ↔ x ∈ bl ∨ x = b := by
  unfold Pg.add
  split
  · rename_i h
    constructor
    · exact Or.inl
    · rintro (h' | rfl)
      · exact h'
      · exact h
  · simp
theorem Pg.add_at {bl : List (List Int)} {b x : List Int} (h : x ∈ bl) : Pg.at (Pg.add bl b) x = Pg.at bl x := by
  unfold Pg.add Pg.at
  split
  · rfl
  · rw [List.idxOf_append, if_pos h]
theorem Pg.bls_mem (f : Int → Int) : ∀ (m : Nat) (x : List Int), x ∈ Pg.bls f m ↔ x = Pg.zeros ∨ ∃ n, n < m ∧ x = Pg.blk f n
  | 0, x => by simp [Pg.bls]
  | m + 1, x => by
    rw [Pg.bls, Pg.add_mem, Pg.bls_mem f m x]
    constructor
    · rintro ((h | ⟨n, hn, h⟩) | h)
      · exact .inl h
      · exact .inr ⟨n, by omega, h⟩
      · exact .inr ⟨m, by omega, h⟩
    · rintro (h | ⟨n, hn, h⟩)
      · exact .inl (.inl h)
      · by_cases hm : n = m
        · subst hm; exact .inr h
        · exact .inl (.inr ⟨n, by omega, h⟩)
theorem Pg.bls_len256 (f : Int → Int) (m : Nat) : ∀ b ∈ Pg.bls f m, b.length = 256 := by
  intro b hb
  rcases (Pg.bls_mem f m b).1 hb with rfl | ⟨n, _, rfl⟩
  · unfold Pg.zeros; exact List.length_replicate
  · exact Pg.blk_len f n
theorem Pg.bls_len (f : Int → Int) : ∀ m, (Pg.bls f m).length ≤ m + 1
  | 0 => by simp [Pg.bls]
  | m + 1 => by
    have := Pg.bls_len f m
    rw [Pg.bls]
    unfold Pg.add
    split
    · omega
    · simp; omega
/-- What is kept: each range's place, and the blocks. -/
def Pg.idx (f : Int → Int) (m : Nat) : List Int := (List.range m).map fun n => (Pg.at (Pg.bls f m) (Pg.blk f n) : Int)
theorem Pg.idx_len (f : Int → Int) (m : Nat) : (Pg.idx f m).length = m := by unfold Pg.idx; simp
theorem Pg.idx_get (f : Int → Int) (m : Nat) {n : Nat} (hn : n < m) : (Pg.idx f m)[n]? = some (Pg.at (Pg.bls f m) (Pg.blk f n) : Int) := by
  unfold Pg.idx
  rw [List.getElem?_map, List.getElem?_range hn]
  rfl
theorem Pg.at_lt {bl : List (List Int)} {b : List Int} (h : b ∈ bl) : Pg.at bl b < bl.length := List.idxOf_lt_length_of_mem h
theorem Pg.at_get {bl : List (List Int)} {b : List Int} (h : b ∈ bl) : bl[Pg.at bl b]? = some b := by
  unfold Pg.at
  rw [List.getElem?_eq_getElem (List.idxOf_lt_length_of_mem h), List.getElem_idxOf]
theorem Pg.idx_succ (f : Int → Int) (m : Nat) : Pg.idx f (m + 1) = Pg.idx f m ++ [(Pg.at (Pg.bls f (m + 1)) (Pg.blk f m) : Int)] := by
  unfold Pg.idx
  rw [List.range_succ, List.map_append]
  congr 1
  refine List.map_congr_left fun n hn => ?_
  have hn := List.mem_range.1 hn
  rw [Pg.bls, Pg.add_at ((Pg.bls_mem f m _).2 (.inr ⟨n, hn, rfl⟩))]
theorem Pg.flat_get : ∀ (bl : List (List Int)) (k i : Nat) (b : List Int), (∀ b ∈ bl, b.length = 256) → bl[k]? = some b → i < 256 → bl.flatten[k * 256 + i]? = b[i]?
  | [], k, i, b, _, h, _ => by simp at h
  | x :: l, 0, i, b, hl, h, hi => by
    simp at h
    subst h
    rw [List.flatten_cons, Nat.zero_mul, Nat.zero_add, List.getElem?_append_left (by rw [hl x (by simp)]; exact hi)]
  | x :: l, k + 1, i, b, hl, h, hi => by
    simp at h
    have hx := hl x (by simp)
    rw [List.flatten_cons, List.getElem?_append_right (by rw [hx]; omega), hx]
    rw [show (k + 1) * 256 + i - 256 = k * 256 + i by omega]
    exact Pg.flat_get l k i b (fun b hb => hl b (by simp [hb])) h hi
theorem Pg.flat_len : ∀ (bl : List (List Int)), (∀ b ∈ bl, b.length = 256) → bl.flatten.length = bl.length * 256
  | [], _ => rfl
  | x :: l, h => by
    rw [List.flatten_cons, List.length_append, h x (by simp), Pg.flat_len l (fun b hb => h b (by simp [hb])), List.length_cons]
    omega
theorem Pg.bls_head (f : Int → Int) : ∀ m, (Pg.bls f m)[0]? = some Pg.zeros
  | 0 => rfl
  | m + 1 => by
    have := Pg.bls_head f m
    rw [Pg.bls]
    unfold Pg.add
    split
    · exact this
    · rw [List.getElem?_append_left (List.getElem?_eq_some_iff.1 this).1]
      exact this
/-- Cells, laid flat. -/
def Pg.fl : List (Int × Int) → List Value
  | [] => []
  | r :: l => .int .i32 r.1 :: .int .u16 r.2 :: Pg.fl l
theorem Pg.fl_app : ∀ (a b : List (Int × Int)), Pg.fl (a ++ b) = Pg.fl a ++ Pg.fl b
  | [], b => rfl
  | r :: a, b => by simp [Pg.fl, Pg.fl_app a b]
theorem Pg.fl_len : ∀ (a : List (Int × Int)), (Pg.fl a).length = a.length * 2
  | [] => rfl
  | r :: a => by simp [Pg.fl, Pg.fl_len a]; omega
theorem Pg.fl_get : ∀ (a : List (Int × Int)) (i : Nat) (r : Int × Int), a[i]? = some r → (Pg.fl a)[i * 2]? = some (.int .i32 r.1) ∧ (Pg.fl a)[i * 2 + 1]? = some (.int .u16 r.2)
  | [], i, r, h => by simp at h
  | q :: a, 0, r, h => by simp at h; subst h; exact ⟨rfl, rfl⟩
  | q :: a, i + 1, r, h => by
    have := Pg.fl_get a i r (by simpa using h)
    rw [show (i + 1) * 2 = i * 2 + 2 by omega, show i * 2 + 2 + 1 = i * 2 + 1 + 2 by omega]
    exact this
end Go.Proofs.YtkmfegamblmpeaaGreatDoor

/- Loaded tables in plain words: what is kept of a table's rows, and that what is looked up there is the table's. -/
namespace Go.Proofs.YtkmfegamblmpeaaGreatDoor
set_option linter.unusedSimpArgs false
set_option linter.unusedVariables false
def Ud.says (r : Rw.Row) : Bool := decide (0 < r.2.1) || decide (0 < r.2.2.length)
def Ud.keep (R : List Rw.Row) : List Rw.Row := R.filter Ud.says
def Ud.mr (R : List Rw.Row) : List Rw.Row := R.filter fun r => decide (0 < r.2.2.length)
def Ud.full (T : List Rw.Row) (c : Int) : List Int := (Md.full T c).getD []
def Ud.cl (R : List Rw.Row) : List (Int × Int) := (Ud.keep R).map fun r => (r.1, r.2.1)
def Ud.plG : Nat → List Rw.Row → List (Int × Int)
  | _, [] => []
  | k, r :: l => (r.1, (k : Int) + 1) :: Ud.plG (k + 1) l
def Ud.pl (R : List Rw.Row) : List (Int × Int) := Ud.plG 0 (Ud.mr R)
def Ud.inn (T R : List Rw.Row) : List Int := (Ud.mr R).flatMap fun r => (Ud.full T r.1).drop 1
def Ud.mpd (R : List Rw.Row) : List Int := (Ud.mr R).map (·.1)
def Ud.prs (T : List Rw.Row) (X : Int → Bool) (R : List Rw.Row) : List Rw.Row := (Ud.mr R).filter fun r => Md.prim T X r.1
def Ud.sec (T : List Rw.Row) (X : Int → Bool) (R : List Rw.Row) : List Int := (Ud.prs T X R).map fun r => r.2.2.getD 1 0
def Ud.beg (T R : List Rw.Row) (c : Int) : List Int := ((Ud.mr R).filter fun r => decide ((Ud.full T r.1).headD 0 = c)).map (·.1)
def Ud.joi (T : List Rw.Row) (X : Int → Bool) (R : List Rw.Row) (a b : Int) : Option Int := (Ud.prs T X R).foldl (fun o r => if r.2.2.getD 0 0 = a ∧ r.2.2.getD 1 0 = b then some r.1 else o) none

theorem Ud.plG_app (l : List Rw.Row) (r : Rw.Row) : ∀ k, Ud.plG k (l ++ [r]) = Ud.plG k l ++ [(r.1, ((k + l.length : Nat) : Int) + 1)] := by
  induction l with
  | nil => intro k; simp [Ud.plG]
  | cons q l ih =>
    intro k
    rw [List.cons_append]
    unfold Ud.plG
    rw [ih (k + 1), List.cons_append]
    congr 3
    simp
    omega
/-- A row that says nothing. -/
theorem Ud.add_none {T R : List Rw.Row} {X : Int → Bool} {r : Rw.Row} (h : Ud.says r = false) : Ud.keep (R ++ [r]) = Ud.keep R ∧ Ud.mr (R ++ [r]) = Ud.mr R := by
  have h2 : ¬ 0 < r.2.2.length := by
    unfold Ud.says at h
    simp only [Bool.or_eq_false_iff, decide_eq_false_iff_not] at h
    exact h.2
  constructor
  · unfold Ud.keep
    rw [List.filter_append, List.filter_cons, if_neg (by rw [h]; simp), List.filter_nil, List.append_nil]
  · unfold Ud.mr
    rw [List.filter_append, List.filter_cons, if_neg (by simpa using h2), List.filter_nil, List.append_nil]
/-- A row that is kept. -/
theorem Ud.add_keep {R : List Rw.Row} {r : Rw.Row} (h : Ud.says r = true) : Ud.keep (R ++ [r]) = Ud.keep R ++ [r] := by
  unfold Ud.keep
  simp [List.filter_append, h]
theorem Ud.add_plain {R : List Rw.Row} {r : Rw.Row} (h : r.2.2 = []) : Ud.mr (R ++ [r]) = Ud.mr R := by
  unfold Ud.mr
  simp [List.filter_append, h]
theorem Ud.add_map {R : List Rw.Row} {r : Rw.Row} (h : 0 < r.2.2.length) : Ud.mr (R ++ [r]) = Ud.mr R ++ [r] := by
  unfold Ud.mr
  rw [List.filter_append, List.filter_cons, if_pos (decide_eq_true h)]
  rfl
/-! ### What is looked up -/
theorem Ud.last_go (c : Int) : ∀ (L : List (Int × Int)) (a : Int), (L.Pairwise fun x y => x.1 ≠ y.1) → L.foldl (fun a x => if x.1 = c then x.2 else a) a = ((L.find? fun x => decide (x.1 = c)).map (·.2)).getD a
  | [], a, _ => rfl
  | x :: L, a, h => by
    rw [List.pairwise_cons] at h
    rw [List.foldl_cons, List.find?_cons, Ud.last_go c L _ h.2]
    by_cases hx : x.1 = c
    · rw [if_pos hx, decide_eq_true hx]
      have : (L.find? fun x => decide (x.1 = c)) = none := by
        rw [List.find?_eq_none]
        intro y hy
        have := h.1 y hy
        simp only [decide_eq_true_eq]
        omega
      rw [this]
      rfl
    · rw [if_neg hx, decide_eq_false hx]
theorem Ud.keep_rises {T : List Rw.Row} (h : Md.rises T) : Md.rises (Ud.keep T) := List.Pairwise.sublist List.filter_sublist h
theorem Ud.mr_rises {T : List Rw.Row} (h : Md.rises T) : Md.rises (Ud.mr T) := List.Pairwise.sublist List.filter_sublist h
theorem Ud.mem_mr {T : List Rw.Row} {r : Rw.Row} : r ∈ Ud.mr T ↔ r ∈ T ∧ 0 < r.2.2.length := by unfold Ud.mr; rw [List.mem_filter, decide_eq_true_eq]
theorem Ud.mem_keep {T : List Rw.Row} {r : Rw.Row} : r ∈ Ud.keep T ↔ r ∈ T ∧ Ud.says r = true := by unfold Ud.keep; rw [List.mem_filter]
theorem Ud.cls_last {T : List Rw.Row} (h : Md.rises T) (h0 : ∀ r ∈ T, 0 ≤ r.2.1) (c : Int) : Pg.last (Ud.cl T) c = Md.cls T c := by
  have hp : (Ud.cl T).Pairwise fun x y => x.1 ≠ y.1 := by
    unfold Ud.cl
    rw [List.pairwise_map]
    exact (Ud.keep_rises h).imp fun hab => by omega
  unfold Pg.last
  rw [Ud.last_go c _ _ hp]
  cases hf : (Ud.cl T).find? fun x => decide (x.1 = c) with
  | some x =>
    have h1 := List.mem_of_find?_eq_some hf
    have h2 := List.find?_some hf
    simp only [decide_eq_true_eq] at h2
    unfold Ud.cl at h1
    obtain ⟨r, hr, rfl⟩ := List.mem_map.1 h1
    have hr' := (Ud.mem_keep.1 hr).1
    unfold Md.cls
    rw [← h2, Md.find_mem h hr']
    rfl
  | none =>
    have hn := List.find?_eq_none.1 hf
    unfold Md.cls
    cases hm : Md.find T c with
    | none => rfl
    | some r =>
      obtain ⟨h1, h2⟩ := Md.find_some hm
      have hs : Ud.says r = false := by
        cases hs : Ud.says r with
        | false => rfl
        | true =>
          have := hn (r.1, r.2.1) (List.mem_map.2 ⟨r, Ud.mem_keep.2 ⟨h1, hs⟩, rfl⟩)
          simp only [decide_eq_true_eq] at this
          exact absurd h2 this
      unfold Ud.says at hs
      simp only [Bool.or_eq_false_iff, decide_eq_false_iff_not] at hs
      have := h0 r h1
      simp
      omega
theorem Ud.plG_get : ∀ (l : List Rw.Row) (k i : Nat), (Ud.plG k l)[i]? = (l[i]?).map fun r => (r.1, ((k + i : Nat) : Int) + 1)
  | [], k, i => by simp [Ud.plG]
  | r :: l, k, i => by
    unfold Ud.plG
    cases i with
    | zero => simp
    | succ i =>
      rw [List.getElem?_cons_succ, List.getElem?_cons_succ, Ud.plG_get l (k + 1) i]
      rw [show k + 1 + i = k + (i + 1) by omega]
theorem Ud.pl_pair {T : List Rw.Row} (h : Md.rises T) : (Ud.pl T).Pairwise fun x y => x.1 ≠ y.1 := by
  rw [List.pairwise_iff_getElem]
  intro i j hi hj hij
  have e1 := List.getElem?_eq_getElem hi
  have e2 := List.getElem?_eq_getElem hj
  unfold Ud.pl at e1 e2
  rw [Ud.plG_get] at e1 e2
  cases hr : (Ud.mr T)[i]? with
  | none => rw [hr] at e1; cases e1
  | some r =>
    cases hq : (Ud.mr T)[j]? with
    | none => rw [hq] at e2; cases e2
    | some q =>
      rw [hr, Option.map_some, Option.some.injEq] at e1
      rw [hq, Option.map_some, Option.some.injEq] at e2
      have := Md.rises_get (Ud.mr_rises h) hr hq hij
      unfold Ud.pl
      rw [← e1, ← e2]
      simp only
      omega
theorem Ud.place_at {T : List Rw.Row} (h : Md.rises T) {i : Nat} {r : Rw.Row} (hr : (Ud.mr T)[i]? = some r) : Pg.last (Ud.pl T) r.1 = (i : Int) + 1 := by
  unfold Pg.last
  rw [Ud.last_go _ _ _ (Ud.pl_pair h)]
  have hi : (Ud.pl T)[i]? = some (r.1, (i : Int) + 1) := by
    unfold Ud.pl
    rw [Ud.plG_get, hr, Option.map_some, Nat.zero_add]
  have hf : ((Ud.pl T).find? fun x => decide (x.1 = r.1)) = some (r.1, (i : Int) + 1) := by
    cases hf : (Ud.pl T).find? fun x => decide (x.1 = r.1) with
    | none =>
      have := List.find?_eq_none.1 hf _ (List.mem_of_getElem? hi)
      simp at this
    | some x =>
      have h1 := List.mem_of_find?_eq_some hf
      have h2 := List.find?_some hf
      simp only [decide_eq_true_eq] at h2
      obtain ⟨j, hj⟩ := List.mem_iff_getElem?.1 h1
      have hij : i = j := by
        obtain ⟨a1, b1⟩ := List.getElem?_eq_some_iff.1 hi
        obtain ⟨a2, b2⟩ := List.getElem?_eq_some_iff.1 hj
        have hp := List.pairwise_iff_getElem.1 (Ud.pl_pair h)
        rcases Nat.lt_trichotomy i j with hl | hl | hl
        · have := hp i j a1 a2 hl
          rw [b1, b2] at this
          exact absurd h2.symm this
        · exact hl
        · have := hp j i a2 a1 hl
          rw [b1, b2] at this
          exact absurd h2 this
      rw [← hij, hi] at hj
      exact hj.symm
  rw [hf]
  rfl
theorem Ud.place_no {T : List Rw.Row} {c : Int} (h : ∀ r ∈ Ud.mr T, r.1 ≠ c) : Pg.last (Ud.pl T) c = 0 := by
  have : ∀ (l : List Rw.Row) (k : Nat), (∀ r ∈ l, r.1 ≠ c) → (Ud.plG k l).foldl (fun (a : Int) x => if x.1 = c then x.2 else a) 0 = 0 := by
    intro l
    induction l with
    | nil => intro k _; rfl
    | cons r l ih =>
      intro k hl
      unfold Ud.plG
      rw [List.foldl_cons, if_neg (hl r List.mem_cons_self)]
      exact ih (k + 1) fun q hq => hl q (List.mem_cons_of_mem _ hq)
  exact this _ 0 h
/-- The row of a character with a mapping of its own. -/
theorem Ud.mr_find {T : List Rw.Row} (h : Md.rises T) (c : Int) : (∃ (i : Nat) (r : Rw.Row), (Ud.mr T)[i]? = some r ∧ r.1 = c ∧ Md.find T c = some r ∧ 0 < r.2.2.length) ∨ ((∀ r ∈ Ud.mr T, r.1 ≠ c) ∧ Md.rmp T c = []) := by
  cases hf : Md.find T c with
  | none =>
    refine .inr ⟨fun r hr e => ?_, by unfold Md.rmp; rw [hf]; rfl⟩
    have := Md.find_mem h (Ud.mem_mr.1 hr).1
    rw [e, hf] at this
    cases this
  | some r =>
    obtain ⟨h1, h2⟩ := Md.find_some hf
    by_cases hl : 0 < r.2.2.length
    · obtain ⟨i, hi⟩ := List.mem_iff_getElem?.1 (Ud.mem_mr.2 ⟨h1, hl⟩)
      exact .inl ⟨i, r, hi, h2, rfl, hl⟩
    · refine .inr ⟨fun q hq e => ?_, ?_⟩
      · obtain ⟨g1, g2⟩ := Ud.mem_mr.1 hq
        have := Md.find_mem h g1
        rw [e, hf] at this
        cases this
        exact hl g2
      · unfold Md.rmp
        rw [hf]
        have : r.2.2 = [] := List.eq_nil_of_length_eq_zero (by omega)
        simpa using this
theorem Ud.pair_kind (c : Int) : (Hg.pairK c).2.2 = decide (4 ≤ Hg.ofK c) := by
  by_cases h4 : Hg.ofK c = 4
  · rw [Hg.pairK_four c h4, h4]; rfl
  · by_cases h5 : Hg.ofK c = 5
    · rw [Hg.pairK_five c h5, h5]; rfl
    · rw [Hg.pairK_none c h4 h5]
      have : ¬ 4 ≤ Hg.ofK c := by unfold Hg.ofK at *; grind
      rw [decide_eq_false this]
theorem Ud.kind_le (c : Int) : 0 ≤ Hg.ofK c ∧ Hg.ofK c ≤ 5 := by unfold Hg.ofK; grind
theorem Ud.row_mp {T : List Rw.Row} (hg : ∀ r ∈ T, Md.good r) {c : Int} {r : Rw.Row} (h : Md.find T c = some r) : Md.mp T c = r.2.2 ∧ Hg.ofK c = 0 := by
  obtain ⟨h1, h2⟩ := Md.find_some h
  have hk : Hg.ofK c = 0 := by rw [← h2]; exact (hg r h1).2.2.2.2.1
  refine ⟨?_, hk⟩
  unfold Md.mp Md.rmp
  rw [Ud.pair_kind, hk, h]
  rfl
/-- What is composed is mapped to two. -/
theorem Ud.prim_two {T : List Rw.Row} {X : Int → Bool} {r : Rw.Row} (hg : Md.good r) (hr : Md.rises T) (hm : r ∈ T) (hp : Md.prim T X r.1 = true) : ∃ a b, r.2.2 = [a, b] := by
  unfold Md.prim at hp
  rw [Ud.pair_kind, hg.2.2.2.2.1, Md.find_mem hr hm] at hp
  simp only [show ¬ ((4 : Int) ≤ 0) by decide, decide_false, Bool.false_or, Option.map_some, Option.getD_some] at hp
  unfold Md.comp at hp
  simp only [Bool.and_eq_true, decide_eq_true_eq] at hp
  have h2 := hp.2.1
  match h : r.2.2, h2 with
  | [a, b], _ => exact ⟨a, b, rfl⟩
end Go.Proofs.YtkmfegamblmpeaaGreatDoor
