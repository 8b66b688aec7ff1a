/- strings.SplitSeq at a blank: its contract, by walking its texts. -/
import Derived.Test.YtkmfegamblmpeaaGreatDoorFiBits
import Derived.Test.YtkmfegamblmpeaaGreatDoorFiPlain2
import Derived.Lib.ItoaNum
import Derived.Lib.ItoaMem
import Derived.Lib.AtoiTie
import Derived.Lib.AtoiAllCases
import Derived.Test.YtkmfegamblmpeaaGreatDoorMdTab
namespace Go.Proofs.YtkmfegamblmpeaaGreatDoor
open Go.RowKit
attribute [local go_sem] Oper.semAt_some
set_option linter.unusedSimpArgs false
set_option linter.unusedVariables false

def Q.bas (l : List (List UInt8)) : List ByteArray := l.map fun x => ⟨x.toArray⟩
/-- How much of the text is left, read off the world. -/
def Q.left (b : Nat) (W : World) : Nat := match W.cell? ⟨b, 0, none⟩ with | some (.string r) => r.size | _ => 0
theorem Q.left_eq {W : World} {b : Nat} {t : TypeId} {r : ByteArray} (h : Boxed W b t (.string r)) : Q.left b W = r.size := by unfold Q.left; rw [h.cell]
theorem Q.kept {b : Nat} {ks : List Nat} {W W' : World} (h : R.Kept ks W W') {t : TypeId} {v : Value} (hb : Boxed W b t v) (hm : b ∈ ks) : Boxed W' b t v := h b hm _ hb
theorem Q.split_hit {r : ByteArray} {i : Nat} (h : Lib.indexByte r.data.toList 32 = i) : Q.bas (Fi.spl 32 [] r.data.toList) = r.extract 0 i :: Q.bas (Fi.spl 32 [] (r.extract (i + 1) r.size).data.toList) := by
  obtain ⟨h1, h2⟩ := Fi.idx_hit 32 _ i h
  have hd : (r.extract (i + 1) r.size).data.toList = r.data.toList.drop (i + 1) := by rw [Lib.extract_data, List.take_of_length_le (by simp)]
  have ht : (r.extract 0 i).data.toList = r.data.toList.take i := by rw [Lib.extract_data]; simp
  rw [hd]
  conv => lhs; rw [h1]
  rw [Fi.spl_hit 32 _ _ h2]
  unfold Q.bas
  rw [List.map_cons, ← ht, Lib.mk_data]
theorem Q.split_miss {r : ByteArray} (h : Lib.indexByte r.data.toList 32 = -1) : Q.bas (Fi.spl 32 [] r.data.toList) = [r] := by
  rw [Fi.spl_miss 32 _ (Fi.idx_miss 32 _ h)]
  unfold Q.bas
  rw [List.map_singleton, Lib.mk_data]
theorem Q.idx_lt {r : ByteArray} {i : Nat} (h : Lib.indexByte r.data.toList 32 = i) : i < r.size := by
  obtain ⟨h1, _⟩ := Fi.idx_hit 32 _ i h
  have := congrArg List.length h1
  have hl : r.data.toList.length = r.size := by simp
  rw [List.length_append, List.length_cons, List.length_take, List.length_drop, hl] at this
  omega

set_option maxRecDepth 100000 in
set_option maxHeartbeats 4000000 in
theorem Q.splitSeq1 (s : ByteArray) (hs : s.size ≤ 1000000) (n b : Nat) (hn : 1 ≤ n) (W : World) (h0 : Boxed W b 9 (.string s)) (h1 : Boxed W (b + 1) 9 (.string ⟨#[32]⟩)) (h2 : Boxed W (b + 2) 3 (.int .i64 0)) :
    R.Seq n Tryz.prog 196 #[.pointer (some ⟨b + 1, 0, none⟩), .pointer (some ⟨b, 0, none⟩), .pointer (some ⟨b + 2, 0, none⟩)] (fun x : ByteArray => #[Value.string x]) b [b, b + 1, b + 2]
      (fun xs => xs = Q.bas (Fi.spl 32 [] s.data.toList)) (fun pre => pre <+: Q.bas (Fi.spl 32 [] s.data.toList)) (Q.bas (Fi.spl 32 [] s.data.toList)).length W := fun l J Jx hJ hJx hY hj0 => by
  obtain ⟨L, hL⟩ : ∃ L, Q.bas (Fi.spl 32 [] s.data.toList) = L := ⟨_, rfl⟩
  rw [hL] at hY ⊢
  have c1 := h1.cell
  refine callsIn_of_wp Tryz.func196 rfl trivial ?_ rfl
  simp only [Tryz.ntmps196, List.size_toArray, List.length_cons, List.length_nil, Nat.reduceAdd, Nat.reduceSub, Array.replicate_succ, Array.replicate_zero, List.push_toArray, List.append_toArray, List.nil_append, List.cons_append]
  gi_wp2
  gi_loopw [7] (fun _ wr => ∃ (pre : List ByteArray) (r : ByteArray), L = pre ++ Q.bas (Fi.spl 32 [] r.data.toList) ∧ Boxed wr b 9 (.string r) ∧ Boxed wr (b + 1) 9 (.string ⟨#[32]⟩) ∧ Boxed wr (b + 2) 3 (.int .i64 0) ∧ J pre wr ∧ r.size ≤ s.size)
    (fun _ wr => Q.left b wr)
  case atStart => exact ⟨[], s, hL.symm, h0, h1, h2, hj0, Nat.le_refl _⟩
  case round =>
    obtain ⟨pre, r, hpre, b0, b1, b2, hJp, hrs⟩ := hrel
    have d0 := b0.cell
    have d1 := b1.cell
    have d2 := b2.cell
    by_cases hidx : Lib.indexByte r.data.toList 32 = -1
    · rw [Q.split_miss hidx] at hpre
      obtain ⟨fn, tmps, assign, body, hy, hR⟩ := hY pre r wr hJp (by rw [hpre]; simp) (by rw [hpre]; exact List.prefix_refl _)
      gi_wp2_with (refine ⟨trivial, ?_⟩; gi_at_call 167; refine (callsIn_wide.2 (Tryz.strings_Index_one r 32 _)).mono ?_; rintro e w1 ⟨rfl, rfl⟩; rw [hidx])
      refine hR.mono ?_
      rintro e W3 (⟨rfl, hJ3, hk3⟩ | ⟨rfl, hJx3⟩)
      · gi_wp2
        go_end0
        exact ⟨⟨_, rfl⟩, .inl ⟨pre ++ [r], hpre.symm, hJ3⟩⟩
      · gi_wp2
        go_end0
        exact ⟨⟨_, rfl⟩, .inr ⟨pre ++ [r], by rw [hpre]; exact List.prefix_refl _, hJx3⟩⟩
    · have hge := Lib.indexByte_ge r.data.toList 32
      obtain ⟨i, hi⟩ : ∃ i : Nat, Lib.indexByte r.data.toList 32 = i := ⟨(Lib.indexByte r.data.toList 32).toNat, by omega⟩
      have hir := Q.idx_lt hi
      rw [Q.split_hit hi] at hpre
      obtain ⟨x, hx⟩ : ∃ x, r.extract 0 i = x := ⟨_, rfl⟩
      obtain ⟨z, hz⟩ : ∃ z, r.extract (i + 1) r.size = z := ⟨_, rfl⟩
      rw [hx, hz] at hpre
      have hzs : z.size = r.size - (i + 1) := by rw [← hz, ByteArray.size_extract]; omega
      have i0 : ¬ (i : Int) < 0 := by omega
      have i1 : (0 : Int) ≤ (i : Int) := by omega
      have i2 : (i : Int) ≤ r.size := by omega
      have i3 : (0 : Int) ≤ (i : Int) + 1 := by omega
      have i4 : (i : Int) + 1 ≤ r.size := by omega
      obtain ⟨fn, tmps, assign, body, hy, hR⟩ := hY pre x wr hJp (by rw [hpre]; simp) ⟨_, by rw [hpre, List.append_assoc]; rfl⟩
      have HI := Lib.hid hi
      have HP := Lib.hid hpre
      clear hi hidx hpre hge
      gi_wp2_with (refine ⟨trivial, ?_⟩; gi_at_call 167; refine (callsIn_wide.2 (Tryz.strings_Index_one r 32 _)).mono ?_; rintro e w1 ⟨rfl, rfl⟩; rw [HI.out])
      refine hR.mono ?_
      rintro e W3 (⟨rfl, hJ3, hk3⟩ | ⟨rfl, hJx3⟩)
      · have k0 := Q.kept hk3 b0 (by simp)
        have k1 := Q.kept hk3 b1 (by simp)
        have k2 := Q.kept hk3 b2 (by simp)
        have e0 := k0.cell
        have e1 := k1.cell
        have e2 := k2.cell
        have f0 := k0.frozen
        have HJ3 := Lib.hid hJ3
        clear hk3 hJ3
        gi_wp2
        go_roundw
        case rel => exact ⟨pre ++ [x], z, by rw [HP.out]; simp, k0.set _, k1.other (by omega) _, k2.other (by omega) _, hJ _ _ _ _ HJ3.out (grownBy_setCell' W3 b (.string z)) (fun q e => by cases e; rfl), by omega⟩
        case measure => rw [Q.left_eq (k0.set _), Q.left_eq b0]; omega
      · gi_wp2
        refine bodyPost_ret (results_none rfl _ _ _) rfl ?_
        exact ⟨⟨_, rfl⟩, .inr ⟨pre ++ [x], ⟨_, by rw [HP.out, List.append_assoc]; rfl⟩, hJx3⟩⟩
end Go.Proofs.YtkmfegamblmpeaaGreatDoor

/- Layer field, plain: a decimal number, written and read; no program in sight. -/
namespace Go.Proofs.YtkmfegamblmpeaaGreatDoor
open Go.RowKit Go.Stop
set_option linter.unusedSimpArgs false

def Fi.numV (l : List UInt8) : Int := l.foldl (fun n b => 10 * n + ((b.toNat : Int) - 48)) 0
def Fi.isD (b : UInt8) : Bool := decide (48 ≤ b.toNat) && decide (b.toNat ≤ 57)
def Fi.isNum (l : List UInt8) (most : Int) : Bool := (l == Lib.decDigits (Fi.numV l).toNat) && decide (Fi.numV l ≤ most)
/-- A number up to another one. -/
def Fi.num (l : List UInt8) (most : Int) : Option Int := if Fi.isNum l most then some (Fi.numV l) else none

theorem Fi.numV_snoc (l : List UInt8) (b : UInt8) : Fi.numV (l ++ [b]) = 10 * Fi.numV l + ((b.toNat : Int) - 48) := by simp [Fi.numV, List.foldl_append]
theorem Fi.dig10 (d : Nat) (h : d < 10) : (UInt8.ofNat (48 + d)).toNat = 48 + d := by rw [UInt8.toNat_ofNat', Nat.mod_eq_of_lt (by omega)]
theorem Fi.numV_dec (u : Nat) : Fi.numV (Lib.decDigits u) = (u : Int) := by
  rw [Lib.decDigits]
  split
  · rename_i h
    simp only [Fi.numV, List.foldl_cons, List.foldl_nil, Fi.dig10 u h]
    omega
  · rename_i h
    rw [Fi.numV_snoc, Fi.numV_dec (u / 10), Fi.dig10 _ (by omega)]
    omega
  termination_by u
  decreasing_by omega
theorem Fi.dec_digits (u : Nat) : ∀ b ∈ Lib.decDigits u, Fi.isD b = true := by
  rw [Lib.decDigits]
  split
  · rename_i h
    intro b hb
    rw [List.mem_singleton] at hb
    subst hb
    unfold Fi.isD
    rw [Fi.dig10 u h, decide_eq_true (by omega), decide_eq_true (by omega)]
    rfl
  · intro b hb
    rcases List.mem_append.1 hb with h | h
    · exact Fi.dec_digits (u / 10) b h
    · rw [List.mem_singleton] at h
      subst h
      unfold Fi.isD
      rw [Fi.dig10 _ (by omega), decide_eq_true (by omega), decide_eq_true (by omega)]
      rfl
  termination_by u
  decreasing_by omega
theorem Fi.dec_ne (u : Nat) : Lib.decDigits u ≠ [] := by
  rw [Lib.decDigits]
  split
  · simp
  · simp
theorem Fi.dec_len : ∀ (k u : Nat), u < 10 ^ (k + 1) → (Lib.decDigits u).length ≤ k + 1
  | 0, u, h => by rw [Lib.decDigits, dif_pos (by simpa using h)]; simp
  | k + 1, u, h => by
    rw [Lib.decDigits]
    split
    · simp
    · have := Fi.dec_len k (u / 10) (by rw [Nat.pow_succ] at h; omega)
      simp; omega

theorem Fi.isNum_dec (u : Nat) (most : Int) (h : (u : Int) ≤ most) : Fi.num (Lib.decDigits u) most = some (u : Int) := by
  unfold Fi.num Fi.isNum
  rw [Fi.numV_dec, Int.toNat_natCast, beq_self_eq_true, decide_eq_true h]
  rfl
theorem Fi.num_some {l : List UInt8} {most v : Int} (h : Fi.num l most = some v) : ∃ u : Nat, v = u ∧ (u : Int) ≤ most ∧ l = Lib.decDigits u := by
  unfold Fi.num at h
  split at h
  · rename_i h1
    unfold Fi.isNum at h1
    rw [Bool.and_eq_true, beq_iff_eq, decide_eq_true_eq] at h1
    obtain ⟨h2, h3⟩ := h1
    have h4 : Fi.numV l = ((Fi.numV l).toNat : Int) := by
      conv => lhs; rw [h2, Fi.numV_dec]
    simp only [Option.some.injEq] at h
    exact ⟨(Fi.numV l).toNat, by rw [← h]; exact h4, by omega, h2⟩
  · cases h
theorem Fi.num_none_of {l : List UInt8} {most : Int} (h : ∀ u : Nat, (u : Int) ≤ most → l ≠ Lib.decDigits u) : Fi.num l most = none := by
  rcases hn : Fi.num l most with _ | v
  · rfl
  · obtain ⟨u, _, h2, h3⟩ := Fi.num_some hn
    exact absurd h3 (h u h2)

theorem Fi.decFrom_app : ∀ (a : List UInt8) (b : UInt8) (acc : Nat), Lib.decFrom acc (a ++ [b]) = (Lib.decFrom acc a).bind fun n => (Lib.digitVal b).map fun d => n * 10 + d
  | [], b, acc => by
    simp only [List.nil_append, Lib.decFrom]
    rcases Lib.digitVal b with _ | d <;> rfl
  | c :: t, b, acc => by
    simp only [List.cons_append, Lib.decFrom]
    rcases Lib.digitVal c with _ | d
    · rfl
    · exact Fi.decFrom_app t b _
theorem Fi.digitVal_dig (d : Nat) (h : d < 10) : Lib.digitVal (UInt8.ofNat (48 + d)) = some d := by
  have key : ∀ d : Fin 10, Lib.digitVal (UInt8.ofNat (48 + d.val)) = some d.val := by decide
  exact key ⟨d, h⟩
theorem Fi.decFrom_dec (u : Nat) : Lib.decFrom 0 (Lib.decDigits u) = some u := by
  rw [Lib.decDigits]
  split
  · rename_i h
    simp only [Lib.decFrom, Fi.digitVal_dig u h]
    simp
  · rename_i h
    rw [Fi.decFrom_app, Fi.decFrom_dec (u / 10), Option.bind_some, Fi.digitVal_dig _ (by omega), Option.map_some]
    congr 1
    omega
  termination_by u
  decreasing_by omega
theorem Fi.atoi_dec (u : Nat) (h : u < 10000000000) : Lib.atoiAll (Lib.decDigits u) = .ok (u : Int) := by
  have hl : (Lib.decDigits u).length ≤ 10 := Fi.dec_len 9 u (by rw [show (10 : Nat) ^ (9 + 1) = 10000000000 from by decide]; exact h)
  rw [Lib.atoiAll_short _ (by omega)]
  have hne := Fi.dec_ne u
  have hd := Fi.dec_digits u
  have hf := Fi.decFrom_dec u
  rcases hc : Lib.decDigits u with _ | ⟨b, r⟩
  · exact absurd hc hne
  · rw [hc] at hd hf
    have hb := hd b List.mem_cons_self
    unfold Fi.isD at hb
    rw [Bool.and_eq_true, decide_eq_true_eq, decide_eq_true_eq] at hb
    have h45 : (b == 45) = false := by
      rw [beq_eq_false_iff_ne]
      rintro rfl
      exact absurd hb.1 (by decide)
    have h43 : (b == 43) = false := by
      rw [beq_eq_false_iff_ne]
      rintro rfl
      exact absurd hb.1 (by decide)
    have hn : Lib.decNat (b :: r) = some u := by
      unfold Lib.decNat
      simpa using hf
    unfold Lib.atoi
    simp only [h45, h43, hn, Bool.false_eq_true, if_false]
    rfl
end Go.Proofs.YtkmfegamblmpeaaGreatDoor

/- Layer rows, plain: a text's lines, the row of a line, what a line turns; no program in sight. -/
namespace Go.Proofs.YtkmfegamblmpeaaGreatDoor
open Go.RowKit Go.Stop
set_option linter.unusedSimpArgs false
set_option linter.unusedVariables false

/-- A text's lines; w: what of the first one has come already. -/
def Rw.lns : List UInt8 → List UInt8 → List (List UInt8)
  | w, [] => if w = [] then [] else [w]
  | w, b :: r => if b = 10 then w :: Rw.lns [] r else Rw.lns (w ++ [b]) r
theorem Rw.lns_app : ∀ (a w r : List UInt8), (10 : UInt8) ∉ a → Rw.lns w (a ++ r) = Rw.lns (w ++ a) r
  | [], w, r, _ => by simp
  | b :: a, w, r, h => by
    have hb : b ≠ 10 := fun e => h (by rw [e]; exact List.mem_cons_self)
    rw [List.cons_append, Rw.lns, if_neg hb, Rw.lns_app a _ r (fun h' => h (List.mem_cons_of_mem _ h')), List.append_assoc]
    rfl
theorem Rw.lns_hit (a r : List UInt8) (h : (10 : UInt8) ∉ a) : Rw.lns [] (a ++ 10 :: r) = a :: Rw.lns [] r := by
  rw [Rw.lns_app a [] _ h, Rw.lns, if_pos rfl]; rfl
theorem Rw.lns_text : ∀ (l : List (List UInt8)), (∀ x ∈ l, (10 : UInt8) ∉ x) → Rw.lns [] (l.flatMap fun x => x ++ [10]) = l
  | [], _ => rfl
  | x :: l, h => by
    rw [List.flatMap_cons, List.append_assoc, List.singleton_append, Rw.lns_hit _ _ (h x List.mem_cons_self), Rw.lns_text l fun y hy => h y (List.mem_cons_of_mem _ hy)]
theorem Rw.lns_len : ∀ (l w : List UInt8), (Rw.lns w l).length ≤ l.length + 1
  | [], w => by unfold Rw.lns; split <;> simp
  | b :: r, w => by
    unfold Rw.lns
    split
    · have := Rw.lns_len r []; simp; omega
    · have := Rw.lns_len r (w ++ [b]); simp; omega

/-- May it be a line? -/
def Rw.plainL (x : List UInt8) : Bool := x.all fun b => decide (32 ≤ b.toNat) && decide (b.toNat ≤ 126)
def Rw.okl (x : List UInt8) : Bool := decide (x.length ≤ 1000) && Rw.plainL x

/-- A field's mapping. -/
def Rw.mp (f : List UInt8) : Option (List Int) :=
  if f = [] ∨ f.head? = some 60 then some []
  else if (Fi.spl 32 [] f).all (fun x => (Fi.hex x).isSome) = true ∧ (Fi.spl 32 [] f).length ≤ 2 then some ((Fi.spl 32 [] f).map fun x => (Fi.hex x).getD 0)
  else none
/-- The row of a line's fields. -/
def Rw.row (F : List (List UInt8)) : Option Rw.Row :=
  if F.length = 15 ∧ F.getD 1 [] ≠ [] then
    (Fi.hex (F.getD 0 [])).bind fun c => (Fi.num (F.getD 3 []) 254).bind fun k => (Rw.mp (F.getD 5 [])).map fun m => (c, k, m)
  else none
def Rw.quiet (r : Rw.Row) : Bool := decide (r.2.1 = 0) && decide (r.2.2.length = 0)
def Rw.first : List UInt8 := [44, 32, 70, 105, 114, 115, 116, 62]
def Rw.last : List UInt8 := [44, 32, 76, 97, 115, 116, 62]
def Rw.ends (s e : List UInt8) : Bool := decide (e.length ≤ s.length) && (s.drop (s.length - e.length) == e)
def Rw.cutE (s e : List UInt8) : List UInt8 := if Rw.ends s e then s.take (s.length - e.length) else s
/-- The range that is open behind a row. -/
def Rw.ranged (was name : List UInt8) (q : Bool) : Option (List UInt8) :=
  if was ≠ [] ∨ Rw.ends name Rw.last = true then (if Rw.ends name Rw.last = true ∧ Rw.cutE name Rw.last ++ Rw.first = was ∧ q = true then some [] else none)
  else if Rw.ends name Rw.first = true then (if q then some (Rw.cutE name Rw.first ++ Rw.first) else none)
  else some []
abbrev Rw.St := List Rw.Row × Int × List UInt8
/-- What a line turns. -/
def Rw.step (st : Rw.St) (l : List UInt8) : Option Rw.St :=
  (Rw.row (Fi.spl 59 [] l)).bind fun r =>
    if st.2.1 < r.1 then (Rw.ranged st.2.2 ((Fi.spl 59 [] l).getD 1 []) (Rw.quiet r)).bind fun o =>
      if C.isC r.1 = true ∨ Rw.quiet r = true then some (if Rw.quiet r then st.1 else st.1 ++ [r], r.1, o) else none
    else none
def Rw.steps : Rw.St → List (List UInt8) → Option Rw.St
  | st, [] => some st
  | st, l :: r => (Rw.step st l).bind fun st' => Rw.steps st' r
theorem Rw.steps_app : ∀ (a b : List (List UInt8)) (st : Rw.St), Rw.steps st (a ++ b) = (Rw.steps st a).bind fun st' => Rw.steps st' b
  | [], b, st => rfl
  | l :: a, b, st => by
    rw [List.cons_append, Rw.steps, Rw.steps]
    rcases Rw.step st l with _ | st'
    · rfl
    · exact Rw.steps_app a b st'
/-- The rows of a text. -/
def Rw.parse (s : List UInt8) : Option (List Rw.Row) :=
  if (Rw.lns [] s).all Rw.okl = true ∧ (Rw.lns [] s).length ≤ 40000 then (Rw.steps ([], -1, []) (Rw.lns [] s)).bind fun st => if st.2.2 = [] then some st.1 else none
  else none

/-- A row's line. -/
def Rw.line (r : Rw.Row) : List UInt8 :=
  Fi.text r.1.toNat ++ ([59, 88, 59, 59] ++ (Lib.decDigits r.2.1.toNat ++ ([59, 59] ++ (Fi.glue 32 (r.2.2.map fun c => Fi.text c.toNat) ++ [59, 59, 59, 59, 59, 59, 59, 59, 59]))))
def Rw.fields (r : Rw.Row) : List (List UInt8) :=
  [Fi.text r.1.toNat, [88], [], Lib.decDigits r.2.1.toNat, [], Fi.glue 32 (r.2.2.map fun c => Fi.text c.toNat), [], [], [], [], [], [], [], [], []]
def Rw.right (r : Rw.Row) : Prop := 0 ≤ r.1 ∧ r.1 ≤ 1114111 ∧ 0 ≤ r.2.1 ∧ r.2.1 ≤ 254 ∧ r.2.2.length ≤ 2 ∧ ∀ c ∈ r.2.2, 0 ≤ c ∧ c ≤ 1114111

theorem Rw.up_bytes : ∀ d : Fin 16, 48 ≤ (Fi.up d.val).toNat ∧ (Fi.up d.val).toNat ≤ 70 ∧ (Fi.up d.val) ≠ 59 := by decide
theorem Rw.text_bytes (n : Nat) : ∀ b ∈ Fi.text n, 48 ≤ b.toNat ∧ b.toNat ≤ 70 ∧ b ≠ 59 := by
  intro b hb
  unfold Fi.text at hb
  obtain ⟨d, hd, rfl⟩ := List.mem_map.1 hb
  exact Rw.up_bytes ⟨d, Fi.low_lt _ _ d hd⟩
theorem Rw.text_no (n : Nat) (c : UInt8) (h : c.toNat < 48 ∨ c = 59) : c ∉ Fi.text n := fun hb => by
  have := Rw.text_bytes n c hb
  rcases h with h | h
  · omega
  · exact this.2.2 h
theorem Rw.up_low : ∀ d : Fin 16, Fi.up d.val ≠ 60 := by decide
theorem Rw.text_low (n : Nat) : ∀ b ∈ Fi.text n, b ≠ 60 := by
  intro b hb
  unfold Fi.text at hb
  obtain ⟨d, hd, rfl⟩ := List.mem_map.1 hb
  exact Rw.up_low ⟨d, Fi.low_lt _ _ d hd⟩
theorem Rw.text_ne (n : Nat) : Fi.text n ≠ [] := fun h => by
  have := Fi.text_len n
  rw [h, List.length_nil] at this
  omega
theorem Rw.dec_bytes (n : Nat) : ∀ b ∈ Lib.decDigits n, 48 ≤ b.toNat ∧ b.toNat ≤ 57 := by
  intro b hb
  have := Fi.dec_digits n b hb
  unfold Fi.isD at this
  rw [Bool.and_eq_true, decide_eq_true_eq, decide_eq_true_eq] at this
  exact this
theorem Rw.dec_no (n : Nat) (c : UInt8) (h : c.toNat < 48 ∨ 57 < c.toNat) : c ∉ Lib.decDigits n := fun hb => by
  have := Rw.dec_bytes n c hb
  omega
theorem Rw.spl_glue (c : UInt8) : ∀ (l : List (List UInt8)) (x : List UInt8), c ∉ x → (∀ y ∈ l, c ∉ y) → Fi.spl c [] (Fi.glue c (x :: l)) = x :: l
  | [], x, hx, _ => by simp [Fi.glue]; exact Fi.spl_miss c x hx
  | y :: l, x, hx, h => by
    have e : Fi.glue c (x :: y :: l) = x ++ c :: Fi.glue c (y :: l) := by simp [Fi.glue]
    rw [e, Fi.spl_hit c _ _ hx, Rw.spl_glue c l y (h y List.mem_cons_self) fun z hz => h z (List.mem_cons_of_mem _ hz)]
theorem Rw.glue_bytes (c : UInt8) : ∀ (l : List (List UInt8)), ∀ b ∈ Fi.glue c l, b = c ∨ ∃ x ∈ l, b ∈ x
  | [], b, h => by simp [Fi.glue] at h
  | x :: l, b, h => by
    simp only [Fi.glue, List.mem_append, List.mem_flatten, List.mem_map] at h
    rcases h with h | ⟨y, ⟨z, hz, rfl⟩, hb⟩
    · exact .inr ⟨x, List.mem_cons_self, h⟩
    · rcases List.mem_cons.1 hb with h | h
      · exact .inl h
      · exact .inr ⟨z, List.mem_cons_of_mem _ hz, h⟩
theorem Rw.map_bytes (m : List Int) : ∀ b ∈ Fi.glue 32 (m.map fun c => Fi.text c.toNat), b = 32 ∨ (48 ≤ b.toNat ∧ b.toNat ≤ 70 ∧ b ≠ 59) := by
  intro b hb
  rcases Rw.glue_bytes 32 _ b hb with h | ⟨x, hx, hbx⟩
  · exact .inl h
  · obtain ⟨c, _, rfl⟩ := List.mem_map.1 hx
    exact .inr (Rw.text_bytes _ b hbx)
theorem Rw.line_fields (r : Rw.Row) : Fi.spl 59 [] (Rw.line r) = Rw.fields r := by
  have hm : (59 : UInt8) ∉ Fi.glue 32 (r.2.2.map fun c => Fi.text c.toNat) := fun h => by
    rcases Rw.map_bytes _ _ h with h | h
    · exact absurd h (by decide)
    · exact h.2.2 rfl
  unfold Rw.line Rw.fields
  rw [show ∀ x : List UInt8, [59, 88, 59, 59] ++ x = 59 :: ([88] ++ 59 :: ([] ++ 59 :: x)) from fun _ => rfl, Fi.spl_hit 59 _ _ (Rw.text_no _ _ (.inr rfl)), Fi.spl_hit 59 _ _ (by decide), Fi.spl_hit 59 _ _ (by decide),
    show ∀ x : List UInt8, [59, 59] ++ x = 59 :: ([] ++ 59 :: x) from fun _ => rfl, Fi.spl_hit 59 _ _ (Rw.dec_no _ _ (.inr (by decide))), Fi.spl_hit 59 _ _ (by decide), Fi.spl_hit 59 _ _ hm]
  rfl
theorem Rw.line_ok (r : Rw.Row) (hr : Rw.right r) : Rw.okl (Rw.line r) = true := by
  obtain ⟨c0, c1, k0, k1, hm, hc⟩ := hr
  have l1 := Fi.text_le r.1.toNat (by omega)
  have l2 := Fi.dec_len 9 r.2.1.toNat (by rw [show (10 : Nat) ^ (9 + 1) = 10000000000 from by decide]; omega)
  have l3 : (Fi.glue 32 (r.2.2.map fun c => Fi.text c.toNat)).length ≤ 20 := by
    obtain ⟨c, k, m⟩ := r
    rcases m with _ | ⟨a, _ | ⟨b, _ | ⟨d, t⟩⟩⟩
    · simp [Fi.glue]
    · have := Fi.text_le a.toNat (by have := (hc a (by simp)).2; omega)
      simp [Fi.glue]; omega
    · have h1 := Fi.text_le a.toNat (by have := (hc a (by simp)).2; omega)
      have h2 := Fi.text_le b.toNat (by have := (hc b (by simp)).2; omega)
      simp [Fi.glue]; omega
    · simp at hm
  unfold Rw.okl
  rw [Bool.and_eq_true, decide_eq_true_eq]
  refine ⟨?_, ?_⟩
  · unfold Rw.line
    simp only [List.length_append, List.length_cons, List.length_nil]
    omega
  · unfold Rw.plainL
    rw [List.all_eq_true]
    have key : ∀ b : UInt8, (b = 32 ∨ b = 59 ∨ b = 88 ∨ (48 ≤ b.toNat ∧ b.toNat ≤ 70)) → (decide (32 ≤ b.toNat) && decide (b.toNat ≤ 126)) = true := by
      intro b hb
      rw [Bool.and_eq_true, decide_eq_true_eq, decide_eq_true_eq]
      rcases hb with rfl | rfl | rfl | hb
      · decide
      · decide
      · decide
      · omega
    intro b hb
    apply key
    unfold Rw.line at hb
    simp only [List.mem_append] at hb
    rcases hb with hb | hb | hb | hb | hb | hb
    · have := Rw.text_bytes _ b hb; exact .inr (.inr (.inr ⟨this.1, this.2.1⟩))
    · simp at hb; rcases hb with rfl | rfl | rfl | rfl <;> simp
    · have := Rw.dec_bytes _ b hb; exact .inr (.inr (.inr ⟨this.1, by omega⟩))
    · simp at hb; subst hb; simp
    · rcases Rw.map_bytes _ b hb with h | h
      · exact .inl h
      · exact .inr (.inr (.inr ⟨h.1, h.2.1⟩))
    · simp at hb; subst hb; simp
theorem Rw.line_no (r : Rw.Row) (hr : Rw.right r) : (10 : UInt8) ∉ Rw.line r := fun h => by
  have := Rw.line_ok r hr
  unfold Rw.okl Rw.plainL at this
  rw [Bool.and_eq_true, List.all_eq_true] at this
  exact absurd (this.2 10 h) (by decide)
theorem Rw.nat_cast {c : Int} (h : 0 ≤ c) : ((c.toNat : Nat) : Int) = c := by omega
theorem Rw.mp_glue (m : List Int) (hm : m.length ≤ 2) (hc : ∀ c ∈ m, 0 ≤ c ∧ c ≤ 1114111) : Rw.mp (Fi.glue 32 (m.map fun c => Fi.text c.toNat)) = some m := by
  rcases m with _ | ⟨a, t⟩
  · simp [Fi.glue, Rw.mp]
  · have hs : Fi.spl 32 [] (Fi.glue 32 ((a :: t).map fun c => Fi.text c.toNat)) = (a :: t).map fun c => Fi.text c.toNat :=
      Rw.spl_glue 32 _ _ (Rw.text_no _ _ (.inl (by decide))) fun y hy => by
        obtain ⟨c, _, rfl⟩ := List.mem_map.1 hy
        exact Rw.text_no _ _ (.inl (by decide))
    have hx : ∀ c ∈ a :: t, Fi.hex (Fi.text c.toNat) = some c := fun c hcm => by
      rw [Fi.hex_text _ (by have := (hc c hcm).2; omega), Rw.nat_cast (hc c hcm).1]
    have hne : ¬ (Fi.glue 32 ((a :: t).map fun c => Fi.text c.toNat) = [] ∨ (Fi.glue 32 ((a :: t).map fun c => Fi.text c.toNat)).head? = some 60) := by
      obtain ⟨b, q, hb⟩ : ∃ b q, Fi.text a.toNat = b :: q := by
        rcases h : Fi.text a.toNat with _ | ⟨b, q⟩
        · exact absurd h (Rw.text_ne _)
        · exact ⟨b, q, rfl⟩
      have hbb := Rw.text_low a.toNat b (by rw [hb]; exact List.mem_cons_self)
      rw [List.map_cons, hb]
      simp only [Fi.glue, List.cons_append, List.head?_cons, Option.some.injEq]
      rintro (h | h)
      · cases h
      · subst h; exact hbb rfl
    have hall : (((a :: t).map fun c => Fi.text c.toNat).all fun x => (Fi.hex x).isSome) = true := by
      rw [List.all_eq_true]
      intro x hxm
      obtain ⟨c, hcm, rfl⟩ := List.mem_map.1 hxm
      rw [hx c hcm]
      rfl
    unfold Rw.mp
    rw [if_neg hne, hs, if_pos ⟨hall, by simpa using hm⟩, List.map_map]
    congr 1
    conv => rhs; rw [← List.map_id (a :: t)]
    refine List.map_congr_left fun c hcm => ?_
    show (Fi.hex (Fi.text c.toNat)).getD 0 = c
    rw [hx c hcm]; rfl
theorem Rw.row_fields (r : Rw.Row) (hr : Rw.right r) : Rw.row (Rw.fields r) = some r := by
  obtain ⟨c0, c1, k0, k1, hm, hc⟩ := hr
  unfold Rw.row
  rw [if_pos ⟨rfl, show ([88] : List UInt8) ≠ [] from by decide⟩]
  show (Fi.hex (Fi.text r.1.toNat)).bind (fun c => (Fi.num (Lib.decDigits r.2.1.toNat) 254).bind fun k => (Rw.mp (Fi.glue 32 (r.2.2.map fun c => Fi.text c.toNat))).map fun m => (c, k, m)) = _
  rw [Fi.hex_text _ (by omega), Fi.isNum_dec _ _ (by omega), Rw.mp_glue _ hm hc, Rw.nat_cast c0, Rw.nat_cast k0]
  rfl
/-- A row's line, behind others that rise. -/
theorem Rw.step_line (out : List Rw.Row) (c : Int) (r : Rw.Row) (hr : Rw.right r) (hlt : c < r.1) (hq : C.isC r.1 = true ∨ Rw.quiet r = true) :
    Rw.step (out, c, []) (Rw.line r) = some (if Rw.quiet r then out else out ++ [r], r.1, []) := by
  unfold Rw.step
  rw [Rw.line_fields, Rw.row_fields r hr, Option.bind_some, if_pos hlt]
  have : Rw.ranged [] ((Rw.fields r).getD 1 []) (Rw.quiet r) = some [] := by
    show Rw.ranged [] [88] (Rw.quiet r) = some []
    unfold Rw.ranged
    rw [if_neg (by decide), if_neg (by decide)]
  show (Rw.ranged [] ((Rw.fields r).getD 1 []) (Rw.quiet r)).bind _ = _
  rw [this, Option.bind_some, if_pos hq]
/-- Rows that rise. -/
def Rw.rise : Int → List Rw.Row → Prop
  | _, [] => True
  | c, r :: l => c < r.1 ∧ Rw.rise r.1 l
theorem Rw.steps_lines : ∀ (l : List Rw.Row) (out : List Rw.Row) (c : Int), (∀ r ∈ l, Rw.right r ∧ (C.isC r.1 = true ∨ Rw.quiet r = true)) → Rw.rise c l →
    ∃ c', Rw.steps (out, c, []) (l.map Rw.line) = some (out ++ l.filter (fun r => !Rw.quiet r), c', [])
  | [], out, c, _, _ => ⟨c, by simp [Rw.steps]⟩
  | r :: l, out, c, h, hr => by
    obtain ⟨h1, h2⟩ := h r List.mem_cons_self
    rw [List.map_cons, Rw.steps, Rw.step_line out c r h1 hr.1 h2, Option.bind_some]
    obtain ⟨c', hc'⟩ := Rw.steps_lines l (if Rw.quiet r then out else out ++ [r]) r.1 (fun q hq => h q (List.mem_cons_of_mem _ hq)) hr.2
    refine ⟨c', ?_⟩
    rw [hc', List.filter_cons]
    by_cases hq : Rw.quiet r = true
    · simp [hq]
    · simp [hq]
/-- The text of rows that rise is read back. -/
theorem Rw.parse_lines (l : List Rw.Row) (h : ∀ r ∈ l, Rw.right r ∧ (C.isC r.1 = true ∨ Rw.quiet r = true)) (hr : Rw.rise (-1) l) (hl : l.length ≤ 40000) :
    Rw.parse ((l.map Rw.line).flatMap fun x => x ++ [10]) = some (l.filter fun r => !Rw.quiet r) := by
  have hn : Rw.lns [] ((l.map Rw.line).flatMap fun x => x ++ [10]) = l.map Rw.line := Rw.lns_text _ fun x hx => by
    obtain ⟨r, hm, rfl⟩ := List.mem_map.1 hx
    exact Rw.line_no r (h r hm).1
  obtain ⟨c', hc'⟩ := Rw.steps_lines l [] (-1) h hr
  have hall : (l.map Rw.line).all Rw.okl = true := by
    rw [List.all_eq_true]
    intro x hx
    obtain ⟨r, hm, rfl⟩ := List.mem_map.1 hx
    exact Rw.line_ok r (h r hm).1
  unfold Rw.parse
  rw [hn, if_pos ⟨hall, by rw [List.length_map]; exact hl⟩, hc']
  rfl
end Go.Proofs.YtkmfegamblmpeaaGreatDoor
