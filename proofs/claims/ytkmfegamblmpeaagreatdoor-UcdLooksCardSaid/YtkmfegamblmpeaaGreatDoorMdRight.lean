/- The law's Right: a table that may be, of any one: by walking its text. -/
import Derived.Test.YtkmfegamblmpeaaGreatDoorMdRef4
import Derived.Test.YtkmfegamblmpeaaGreatDoorMdRef6
import Derived.BigRegion
import Derived.Deep.DeepCutAuto
namespace Go.Proofs.YtkmfegamblmpeaaGreatDoor
open Go.RowKit
set_option linter.unusedSimpArgs false
set_option linter.unusedVariables false

/-- A row as it is taken up. -/
def Md.rok (r : Rw.Row) : Prop := (-2147483648 ≤ r.1 ∧ r.1 ≤ 2147483647) ∧ (0 ≤ r.2.1 ∧ r.2.1 ≤ 254) ∧ r.2.2.length ≤ 2 ∧ (∀ c ∈ r.2.2, -2147483648 ≤ c ∧ c ≤ 2147483647) ∧ (r.2.1 = 0 → r.2.2 ≠ [])
/-- Mappings that lie below those that are still to come. -/
def Md.under (ads rest : List (Option Addr × Nat)) : Prop := ∀ a ∈ ads, ∀ p, a.1 = some p → ∀ a' ∈ rest, ∀ q, a'.1 = some q → p.block < q.block
/-- A right table that a call made. -/
def Md.RetRight (w : World) (e : Ending) (w' : World) : Prop :=
  ∃ v T E, e = .returned v ∧ Md.Doc w' v T E ∧ (∀ A n c A' n' c', v = .agg #[.slice A n c, .slice A' n' c'] → n ≤ c ∧ n' ≤ c') ∧ T.length ≤ 20 ∧ E.length ≤ 30 ∧ (∀ r ∈ T, Md.rok r) ∧ (∀ c ∈ E, C.isC c = true) ∧ Md.chk T (Md.xs E) = 0 ∧ Below w.heap.size w w'

theorem Slt.grownA {w w' : World} {t : TypeId} {A : Option Addr} {xs : List Value} {row : Option Nat} (h : Slt w t A xs) (hg : w.grownBy w' row) (hr : ∀ p, A = some p → row ≠ some p.block) : Slt w' t A xs := by
  intro hx
  obtain ⟨b, o, cs, hA, hb, hc⟩ := h hx
  exact ⟨b, o, cs, hA, (hg.block b (heap_lt hb) fun e => hr _ hA e.symm).trans hb, hc⟩
theorem Slt.take {w : World} {t : TypeId} {A : Option Addr} {xs : List Value} (h : Slt w t A xs) (n : Nat) : Slt w t A (xs.take n) := by
  intro hx
  rw [List.length_take] at hx
  obtain ⟨b, o, cs, hA, hb, hc⟩ := h (by omega)
  refine ⟨b, o, cs, hA, hb, fun i hi => ?_⟩
  rw [List.length_take] at hi
  rw [hc i (by omega), List.getElem?_take, if_pos (by omega)]
theorem Slt.set {w : World} {t : TypeId} {b o i : Nat} {xs : List Value} (h : Slt w t (some ⟨b, o, none⟩) xs) (hi : i < xs.length) (v : Value) : Slt (w.setCell ⟨b, o + i, none⟩ v) t (some ⟨b, o, none⟩) (xs.set i v) := by
  intro _
  obtain ⟨b', o', cs, hA, hb, hc⟩ := h (by omega)
  simp only [Option.some.injEq, Addr.mk.injEq] at hA
  obtain ⟨rfl, rfl, _⟩ := hA
  have hlt := heap_lt hb
  refine ⟨b, o, cs.setIfInBounds (o + i) v, rfl, ?_, fun j hj => ?_⟩
  · show (w.heap.modify b _)[b]? = _
    have hk := (Array.getElem?_eq_some_iff.1 hb).2
    rw [Array.getElem?_eq_getElem (by rw [Array.size_modify]; exact hlt), Array.getElem_modify_self, hk]
    simp
  · rw [List.length_set] at hj
    have hs : o + i < cs.size := by
      have := hc i hi
      rw [List.getElem?_eq_getElem hi] at this
      exact (Array.getElem?_eq_some_iff.1 this).1
    rw [Array.getElem?_setIfInBounds, List.getElem?_set]
    by_cases e : i = j
    · subst e
      rw [if_pos rfl, if_pos rfl, if_pos hs, if_pos hi]
    · rw [if_neg (by omega), if_neg e, hc j hj]
/-- What holds when k rows have been taken up. -/
structure Md.RI (b2 b3 lo mid B4 : Nat) (A2 : Option Addr) (n2 c2 : Nat) (XA2 : Option Addr) (xn2 xc2 : Nat) (T : List Rw.Row) (ads : List (Option Addr × Nat)) (E : List Int) (k : Nat) (wr : World) (To : List Rw.Row) (adso : List (Option Addr × Nat)) (vo : Value) : Prop where
  a2 : Rw.At wr b2 25 [.slice none 0 0, .slice none 0 0]
  a3 : Rw.At wr b3 25 [vo, .slice XA2 xn2 xc2]
  rows : wr.ownsRow lo 59 3 (.slice A2 n2 c2) n2 (Rw.flI T ads)
  maps : ∀ (j : Nat) (r : Rw.Row) (a : Option Addr × Nat), k ≤ j → T[j]? = some r → ads[j]? = some a → Slt wr 3 a.1 (r.2.2.map (Value.int .i64))
  excl : wr.ownsRow mid 3 1 (.slice XA2 xn2 xc2) xn2 (E.map (Value.int .i64))
  lens : adso.length = To.length ∧ Md.caps To adso
  out : wr.ownsRow B4 59 3 vo To.length (Rw.flI To adso)
  mo : Rw.MapsI wr To adso
  rok : ∀ r ∈ To, Md.rok r
  und : Md.under adso (ads.drop k)
  chk : Md.chk To (Md.xs E) = 0
  len : To.length ≤ k
section
variable {b2 b3 lo mid B4 n2 c2 xn2 xc2 k : Nat} {A2 XA2 : Option Addr} {T To : List Rw.Row} {ads adso : List (Option Addr × Nat)} {E : List Int} {wr w' : World} {vo : Value}
theorem Md.RI.below (h : Md.RI b2 b3 lo mid B4 A2 n2 c2 XA2 xn2 xc2 T ads E k wr To adso vo) (hb : Below wr.heap.size wr w') : Md.RI b2 b3 lo mid B4 A2 n2 c2 XA2 xn2 xc2 T ads E k w' To adso vo :=
  ⟨h.a2.below hb, h.a3.below hb, own_below h.rows hb (Nat.le_refl _), fun j r a h1 h2 h3 => (h.maps j r a h1 h2 h3).below hb, own_below h.excl hb (Nat.le_refl _), h.lens, own_below h.out hb (Nat.le_refl _), h.mo.below hb, h.rok, h.und, h.chk, h.len⟩
/-- The mapping of row k is written over. -/
theorem Md.RI.grown (h : Md.RI b2 b3 lo mid B4 A2 n2 c2 XA2 xn2 xc2 T ads E k wr To adso vo) {row : Option Nat} (hg : wr.grownBy w' row) {a : Option Addr × Nat} (ha : ads[k]? = some a) (hap : Md.apart lo mid ads)
    (hrow : ∀ p, row = some p → (∃ cs z, wr.heap[p]? = some (.cells cs 3 z)) ∧ ∃ q, a.1 = some q ∧ q.block = p) : Md.RI b2 b3 lo mid B4 A2 n2 c2 XA2 xn2 xc2 T ads E (k + 1) w' To adso vo := by
  have hk : k < ads.length := (List.getElem?_eq_some_iff.1 ha).1
  have hdrop : ads.drop k = a :: ads.drop (k + 1) := by
    obtain ⟨h1, h2⟩ := List.getElem?_eq_some_iff.1 ha
    rw [List.drop_eq_getElem_cons h1, h2]
  have hne : ∀ (b : Nat) (t : TypeId) cs z, wr.heap[b]? = some (.cells cs t z) → t ≠ 3 → row ≠ some b := fun b t cs z hb ht e => by
    obtain ⟨⟨cs', z', hc⟩, _⟩ := hrow b e
    rw [hb] at hc
    simp only [Option.some.injEq, Obj.cells.injEq] at hc
    exact ht hc.2.1
  have hown : ∀ {base n : Nat} {v : Value} {xs : List Value}, wr.ownsRow base 59 3 v n xs → w'.ownsRow base 59 3 v n xs := fun {base n v xs} ho => by
    refine ho.kept hg ?_
    rcases ho.2 with ⟨rfl, _⟩ | ⟨g, cap, cur, rfl, _, hgc, _⟩
    · exact .inl rfl
    · exact .inr fun e => hne g _ _ _ hgc (by decide) e.symm
  refine ⟨h.a2.grown hg (hne _ _ _ _ h.a2 (by decide)), h.a3.grown hg (hne _ _ _ _ h.a3 (by decide)), hown h.rows, fun j r a' h1 h2 h3 => ?_, ?_, h.lens, hown h.out, fun i r a' h1 h2 => ?_, h.rok, ?_, h.chk, Nat.le_succ_of_le h.len⟩
  · refine (h.maps j r a' (by omega) h2 h3).grownA hg fun p hp e => ?_
    obtain ⟨_, q, hq, hqe⟩ := hrow _ e
    obtain ⟨l1, l2⟩ := List.getElem?_eq_some_iff.1 h3
    obtain ⟨l3, l4⟩ := List.getElem?_eq_some_iff.1 ha
    have := List.pairwise_iff_getElem.1 hap.1 k j l3 l1 (by omega) q p (by rw [l4]; exact hq) (by rw [l2]; exact hp)
    omega
  · refine h.excl.kept hg ?_
    rcases hv : (Value.slice XA2 xn2 xc2).ownBlock with _ | g
    · exact .inl rfl
    · refine .inr fun e => ?_
      obtain ⟨_, q, hq, hqe⟩ := hrow g e.symm
      have h1 := (h.excl.lt g hv).1
      have h2 := (hap.2 a (List.mem_of_getElem? ha) q hq).2
      omega
  · refine (h.mo i r a' h1 h2).grownA hg fun p hp e => ?_
    obtain ⟨_, q, hq, hqe⟩ := hrow _ e
    have := h.und a' (List.mem_of_getElem? h2) p hp a (by rw [hdrop]; exact List.mem_cons_self) q hq
    omega
  · intro x hx p hp y hy q hq
    exact h.und x hx p hp y (by rw [hdrop]; exact List.mem_cons_of_mem _ hy) q hq
end
theorem Md.upto_get (f : Int → Int) {l : List Int} {q : Nat} {y : Int} (hy : l[q]? = some y) : (((l.take q).map f ++ l.drop q).map (Value.int .i64))[q]? = some (.int .i64 y) := by
  obtain ⟨h1, h2⟩ := List.getElem?_eq_some_iff.1 hy
  have hl : ((l.take q).map f).length = q := by rw [List.length_map, List.length_take]; omega
  rw [List.getElem?_map, List.getElem?_append_right (by omega), hl, Nat.sub_self, List.getElem?_drop, Nat.add_zero, hy]
  rfl
theorem Md.upto_set (f : Int → Int) {l : List Int} {q : Nat} {y : Int} (hy : l[q]? = some y) : (((l.take q).map f ++ l.drop q).map (Value.int .i64)).set q (.int .i64 (f y)) = ((l.take (q + 1)).map f ++ l.drop (q + 1)).map (Value.int .i64) := by
  obtain ⟨h1, h2⟩ := List.getElem?_eq_some_iff.1 hy
  have hl : (((l.take q).map f).map (Value.int .i64)).length = q := by rw [List.length_map, List.length_map, List.length_take]; omega
  rw [List.map_append, List.set_append_right _ _ (by omega), hl, Nat.sub_self, List.drop_eq_getElem_cons h1, h2, List.map_cons, List.set_cons_zero, List.take_add_one, hy]
  simp
/-- The table that is made next. -/
structure Md.NX (b7 : Nat) (x : Value) (rest : List (Option Addr × Nat)) (ws : World) (N : List Rw.Row) (nads : List (Option Addr × Nat)) (vn : Value) : Prop where
  tab : Rw.At ws b7 25 [vn, x]
  lens : nads.length = N.length ∧ Md.caps N nads
  own : ws.ownsRow (b7 + 1) 59 3 vn N.length (Rw.flI N nads)
  mo : Rw.MapsI ws N nads
  rok : ∀ r ∈ N, Md.rok r
  und : Md.under nads rest
theorem Md.NX.below {b7 : Nat} {x vn : Value} {rest nads : List (Option Addr × Nat)} {ws w' : World} {N : List Rw.Row} (h : Md.NX b7 x rest ws N nads vn) (hb : Below ws.heap.size ws w') : Md.NX b7 x rest w' N nads vn :=
  ⟨h.tab.below hb, h.lens, own_below h.own hb (Nat.le_refl _), h.mo.below hb, h.rok, h.und⟩
theorem Md.NX.push {b7 : Nat} {x vn v6 : Value} {rest nads : List (Option Addr × Nat)} {ws w6 : World} {N : List Rw.Row} (h : Md.NX b7 x rest ws N nads vn) {r : Rw.Row} {a : Option Addr × Nat} (hs : Slt ws 3 a.1 (r.2.2.map (Value.int .i64))) (hc : r.2.2.length ≤ a.2) (hr : Md.rok r) (hu : Md.under [a] rest)
    (hown : (w6.ownsRow (b7 + 1) 59 3 v6 (N.length + 1) (Rw.flI N nads ++ [.int .i64 r.1, .int .i64 r.2.1, .slice a.1 r.2.2.length a.2]))) {o : Obj} (hg : (ws.alloc o).grownBy w6 vn.ownBlock) :
    Md.NX b7 x rest (w6.setCell ⟨b7, 0, none⟩ v6) (N ++ [r]) (nads ++ [a]) v6 := by
  have hb : Below ws.heap.size ws (ws.alloc o) := (Below.refl _ _).alloc (Nat.le_refl _) _
  have hown0 := own_below h.own hb (Nat.le_refl _)
  have hat6 := (h.tab.below hb).grown hg (Rw.own_ne h.own b7 (Nat.lt_succ_self _))
  have hm6 := (h.mo.below hb).grown hg (Rw.own_not hown0 (by decide))
  have hs6 := (hs.below hb).grown hg (Rw.own_not hown0 (by decide))
  have hnot : ∀ q, some b7 = some q → ∀ cs z, w6.heap[q]? ≠ some (.cells cs 3 z) := fun q hq => by
    cases hq
    exact hat6.not (by decide)
  refine ⟨hat6.set 0 v6, ⟨by simp [h.lens.1], h.lens.2.app h.lens.1 hc⟩, ?_, (hm6.grown (Rw.grown_set b7 0 v6) hnot).app h.lens.1 (hs6.grown (Rw.grown_set b7 0 v6) hnot), fun q hq => ?_, fun q hq => ?_⟩
  · rw [List.length_append, List.length_singleton, Rw.flI_app _ _ _ _ h.lens.1]
    exact Rw.own_grown hown (Nat.lt_succ_self _) (Rw.grown_set b7 0 v6)
  · rcases List.mem_append.1 hq with hq | hq
    · exact h.rok q hq
    · rw [List.mem_singleton.1 hq]; exact hr
  · rcases List.mem_append.1 hq with hq | hq
    · exact h.und q hq
    · exact hu q hq
theorem Md.RI.take {b2 b3 b7 lo mid B4 n2 c2 xn2 xc2 k : Nat} {A2 XA2 : Option Addr} {T To N : List Rw.Row} {ads adso nads : List (Option Addr × Nat)} {E : List Int} {wx : World} {vo vn : Value}
    (h : Md.RI b2 b3 lo mid B4 A2 n2 c2 XA2 xn2 xc2 T ads E k wx To adso vo) (nx : Md.NX b7 (.slice XA2 xn2 xc2) (ads.drop k) wx N nads vn) (hc : Md.chk N (Md.xs E) = 0) (hl : N.length ≤ k) (hB : B4 ≤ b7 + 1) (hne : b2 ≠ b3) :
    Md.RI b2 b3 lo mid B4 A2 n2 c2 XA2 xn2 xc2 T ads E k ((wx.setCell ⟨b3, 0, none⟩ vn).setCell ⟨b3, 1, none⟩ (.slice XA2 xn2 xc2)) N nads vn := by
  have k1 := h.a3.set 0 vn
  have hn1 : ∀ q, some b3 = some q → ∀ cs z, wx.heap[q]? ≠ some (.cells cs 3 z) := fun q hq => by cases hq; exact h.a3.not (by decide)
  have hn2 : ∀ q, some b3 = some q → ∀ cs z, (wx.setCell ⟨b3, 0, none⟩ vn).heap[q]? ≠ some (.cells cs 3 z) := fun q hq => by cases hq; exact k1.not (by decide)
  have hown : ∀ {base n size : Nat} {e : TypeId} {v : Value} {xs : List Value}, e ≠ 25 → wx.ownsRow base e size v n xs → ((wx.setCell ⟨b3, 0, none⟩ vn).setCell ⟨b3, 1, none⟩ (.slice XA2 xn2 xc2)).ownsRow base e size v n xs := fun {base n size e v xs} he ho => by
    have h1 := ho.kept (Rw.grown_set b3 0 vn) (.inr fun e' => Rw.own_not ho he _ e' _ _ h.a3)
    exact h1.kept (Rw.grown_set b3 1 _) (.inr fun e' => Rw.own_not h1 he _ e' _ _ k1)
  have hsl : ∀ {A : Option Addr} {xs : List Value}, Slt wx 3 A xs → Slt ((wx.setCell ⟨b3, 0, none⟩ vn).setCell ⟨b3, 1, none⟩ (.slice XA2 xn2 xc2)) 3 A xs := fun {A xs} hs =>
    (hs.grown (Rw.grown_set b3 0 vn) hn1).grown (Rw.grown_set b3 1 _) hn2
  refine ⟨(h.a2.other hne _).other hne _, k1.set 1 _, hown (by decide) h.rows, fun j r a h1 h2 h3 => hsl (h.maps j r a h1 h2 h3), hown (by decide) h.excl, nx.lens, own_base (hown (by decide) nx.own) hB, fun i r a h1 h2 => hsl (nx.mo i r a h1 h2), nx.rok, nx.und, hc, hl⟩
theorem Md.note_ne {k : Nat} (h : k ≠ 0) : (Md.note k).toList.isEmpty = false := by
  have g1 : (Md.note 1).toList.isEmpty = false := by kernel_rfl
  have g2 : (Md.note 2).toList.isEmpty = false := by kernel_rfl
  have g3 : (Md.note 3).toList.isEmpty = false := by kernel_rfl
  have g4 : (Md.note 4).toList.isEmpty = false := by kernel_rfl
  have g5 : (Md.note 5).toList.isEmpty = false := by kernel_rfl
  match k, h with
  | 1, _ => exact g1
  | 2, _ => exact g2
  | 3, _ => exact g3
  | 4, _ => exact g4
  | _ + 5, _ => exact g5
theorem Md.tv_cap {A XA : Option Addr} {m c xn xc : Nat} (h : m ≤ c) : ∀ A' n' c' x', Md.tv A m c XA xn xc = .agg #[.slice A' n' c', x'] → n' ≤ c' := by
  intro A' n' c' x' he
  unfold Md.tv at he
  simp only [Value.agg.injEq, Array.mk.injEq, List.cons.injEq, Value.slice.injEq, and_true] at he
  obtain ⟨⟨rfl, rfl, rfl⟩, _⟩ := he
  exact h
theorem Md.grown_drew {w w' : World} {row : Option Nat} (h : w.grownBy w' row) : w.grownBy w'.drew row := ⟨h.os, h.tape, h.output, h.size, h.block⟩
theorem Md.and_8 (n : Int) : bits .and .i64 n 255 = n % 256 := by
  have hm : (BitVec.ofInt 64 255).toNat = 2 ^ 8 - 1 := by decide
  have key : (BitVec.ofInt 64 n &&& BitVec.ofInt 64 255).toNat = (n % ((2 ^ 64 : Nat) : Int)).toNat % 2 ^ 8 := by
    rw [BitVec.toNat_and, BitVec.toNat_ofInt, hm, Nat.and_two_pow_sub_one_eq_mod]
  show IntKind.i64.wrap ((BitVec.ofInt 64 n &&& BitVec.ofInt 64 255).toNat : Nat) = n % 256
  rw [key, IntKind.wrap_i64]
  omega
set_option maxRecDepth 100000 in
set_option maxHeartbeats 4000000 in
theorem Md.right_any (A XA : Option Addr) (n c xn xc : Nat) (T0 : List Rw.Row) (E0 : List Int) (w : World) (hn : T0.length = n) (hxn : E0.length = xn) (hnb : n ≤ maxLen) (hxb : xn ≤ maxLen) (hbd : ∀ r ∈ T0, Rw.bounds r) (h2 : Rw.SeesI w A T0) (hX : Sl w w.heap.size XA (E0.map (Value.int .i64))) :
    Calls Tryz.prog 32 #[.agg #[.slice A n c, .slice XA xn xc]] w (Md.RetRight w) := by
  obtain ⟨j0, hj0, jy0, jy1, jy2⟩ := info_parts infoRowI
  obtain ⟨T, hT⟩ : ∃ T, Md.fewT T0 = T := ⟨_, rfl⟩
  obtain ⟨E, hE⟩ : ∃ E, Md.fewE E0 = E := ⟨_, rfl⟩
  have hTl : T.length ≤ 20 := by rw [← hT]; unfold Md.fewT; simp; omega
  have hEl : E.length ≤ 30 := by rw [← hE]; unfold Md.fewE; simp; omega
  have hEc : ∀ c ∈ E, C.isC c = true := fun c hc => by
    rw [← hE] at hc
    unfold Md.fewE at hc
    obtain ⟨x, _, rfl⟩ := List.mem_map.1 hc
    exact Ch.K_is x
  have hTb : ∀ r ∈ T, r.2.2.length ≤ 4 := fun r hr => by
    rw [← hT] at hr
    unfold Md.fewT at hr
    obtain ⟨q, _, rfl⟩ := List.mem_map.1 hr
    unfold Md.fewR
    simp
    omega
  obtain ⟨wa, hwa⟩ : ∃ wa, (w.alloc (.cells #[.slice A n c, .slice XA xn xc] 25)).alloc (.cells #[.slice none 0 0, .slice none 0 0] 25) = wa := ⟨_, rfl⟩
  have hba : Below w.heap.size w wa := by rw [← hwa]; exact ((Below.refl _ _).alloc (Nat.le_refl _) _).alloc (by simp) _
  have hat1 : Rw.At wa w.heap.size 25 [.slice A n c, .slice XA xn xc] := by rw [← hwa]; exact (Rw.At.new w 25 [.slice A n c, .slice XA xn xc]).alloc _
  have hat2 : Rw.At wa (w.heap.size + 1) 25 [.slice none 0 0, .slice none 0 0] := by
    have := Rw.At.new (w.alloc (.cells #[.slice A n c, .slice XA xn xc] 25)) 25 [.slice none 0 0, .slice none 0 0]
    rw [← hwa]
    simpa using this
  have hza : wa.heap.size = w.heap.size + 2 := by rw [← hwa]; simp
  have HWA := Lib.hid hwa
  have HBA := Lib.hid hba
  have HAT1 := Lib.hid hat1
  have HAT2 := Lib.hid hat2
  have HZA := Lib.hid hza
  have HFEW : Hid (∀ W, Below w.heap.size w W → Calls Tryz.prog 21 #[.agg #[.slice A n c, .slice XA xn xc]] W fun e w' => ∃ v, e = .returned v ∧ Md.DocO w' v W.heap.size T E ∧ Below W.heap.size W w') := Lib.hid fun W hW => by
    rw [← hT, ← hE]
    exact Md.few_any A XA n c xn xc T0 E0 W hn hxn hnb hxb (fun r hr => (hbd r hr).2.2.1) (h2.below hW) (hX.below hW hW.size)
  have HTL := Lib.hid hTl
  have HEL := Lib.hid hEl
  have HEC := Lib.hid hEc
  have HTB := Lib.hid hTb
  have z0 := hat1.cell 0 rfl
  have z1 := hat1.cell 1 rfl
  have hl1 := hat1.lt
  clear hT hE hwa hba hat1 hat2 hza hTl hEl hEc hTb hn hxn hnb hxb hbd h2 hX
  go_enter Tryz.func32, Tryz.ntmps32
  go_upto_region 1 with (fail)
  rw [HWA.out]
  go_wp2_with fail
  refine (HFEW.out wa HBA.out).mono ?_
  rintro e w2 ⟨v2, rfl, hdo, hb2⟩
  obtain ⟨A2, c2, XA2, xc2, ads, rfl, ⟨hads, hcaps⟩, hrows, hmaps, mid, hmid1, hmid2, hap, hexcl⟩ := hdo
  obtain ⟨n2, hn2⟩ : ∃ k, T.length = k := ⟨_, rfl⟩
  obtain ⟨xn2, hxn2⟩ : ∃ k, E.length = k := ⟨_, rfl⟩
  rw [hn2] at hads hrows
  rw [hxn2] at hexcl
  rw [hn2, hxn2]
  unfold Md.tv
  have hat1 := HAT1.out.below hb2
  have hat2 := HAT2.out.below hb2
  have y0 := hat1.cell 0 rfl
  have y1 := hat1.cell 1 rfl
  have y2 := hat1.frozen 0
  have y3 := hat1.frozen 1
  have hl2 := hat1.lt
  have hza := HZA.out
  have ha1 := (hat1.set 0 (.slice A2 n2 c2)).set 1 (.slice XA2 xn2 xc2)
  have ha2 := (hat2.other (b' := w.heap.size) (i := 0) (by omega) (.slice A2 n2 c2)).other (b' := w.heap.size) (i := 1) (by omega) (.slice XA2 xn2 xc2)
  have hr3 := Rw.own_grown (Rw.own_grown hrows (by omega) (Rw.grown_set w.heap.size 0 (.slice A2 n2 c2))) (by omega) (Rw.grown_set w.heap.size 1 (.slice XA2 xn2 xc2))
  have hx3 := Rw.own_grown (Rw.own_grown hexcl (by omega) (Rw.grown_set w.heap.size 0 (.slice A2 n2 c2))) (by omega) (Rw.grown_set w.heap.size 1 (.slice XA2 xn2 xc2))
  have hm3 := (hmaps.grown (Rw.grown_set w.heap.size 0 (.slice A2 n2 c2)) (by intro q hq; cases hq; exact hat1.not (by decide))).grown (Rw.grown_set w.heap.size 1 (.slice XA2 xn2 xc2)) (by intro q hq; cases hq; exact (hat1.set 0 (.slice A2 n2 c2)).not (by decide))
  have hb3 : Below w.heap.size w ((w2.setCell ⟨w.heap.size, 0, none⟩ (.slice A2 n2 c2)).setCell ⟨w.heap.size, 1, none⟩ (.slice XA2 xn2 xc2)) :=
    ((HBA.out.trans (hb2.mono HBA.out.size)).setCell (p := ⟨w.heap.size, 0, none⟩) (Nat.le_refl _) _).setCell (p := ⟨w.heap.size, 1, none⟩) (Nat.le_refl _) _
  have hz3 : ((w2.setCell ⟨w.heap.size, 0, none⟩ (.slice A2 n2 c2)).setCell ⟨w.heap.size, 1, none⟩ (.slice XA2 xn2 xc2)).heap.size = w2.heap.size := by rw [World.size_setCell, World.size_setCell]
  obtain ⟨w3, hw3⟩ : ∃ w3, (w2.setCell ⟨w.heap.size, 0, none⟩ (.slice A2 n2 c2)).setCell ⟨w.heap.size, 1, none⟩ (.slice XA2 xn2 xc2) = w3 := ⟨_, rfl⟩
  rw [hw3] at ha1 ha2 hr3 hx3 hm3 hb3 hz3
  have HW3 := Lib.hid hw3
  have x0 := ha1.cell 0 rfl
  have x1 := ha1.cell 1 rfl
  have hl3 := ha1.lt
  have hzb := hb2.size
  have hbn : Below w3.heap.size w3 (w3.alloc (.cells #[.slice none 0 0, .slice XA2 xn2 xc2] 25)) := (Below.refl _ _).alloc (Nat.le_refl _) _
  have hat3 := Rw.At.new w3 25 [.slice none 0 0, .slice XA2 xn2 xc2]
  obtain ⟨w4, hw4⟩ : ∃ w4, w3.alloc (.cells #[.slice none 0 0, .slice XA2 xn2 xc2] 25) = w4 := ⟨_, rfl⟩
  have hat3 : Rw.At w4 w3.heap.size 25 [.slice none 0 0, .slice XA2 xn2 xc2] := by rw [← hw4]; exact hat3
  rw [hw4] at hbn
  have hz4 : w4.heap.size = w3.heap.size + 1 := by rw [← hw4]; simp
  have HW4 := Lib.hid hw4
  have ha14 := ha1.below hbn
  have t0 := ha14.cell 0 rfl
  have hl4 := ha14.lt
  have HA2 := Lib.hid (ha2.below hbn)
  have HA3 := Lib.hid hat3
  have HR4 := Lib.hid (own_below hr3 hbn (Nat.le_refl _))
  have HX4 := Lib.hid (own_below hx3 hbn (Nat.le_refl _))
  have HM4 := Lib.hid (hm3.below hbn)
  have HB4 := Lib.hid (hb3.trans (hbn.mono hb3.size))
  have HADS := Lib.hid hads
  have HCAPS := Lib.hid hcaps
  have HN2 := Lib.hid hn2
  have HXN := Lib.hid hxn2
  have HAP := Lib.hid hap
  have HSZ : Hid (wa.heap.size = w.heap.size + 2 ∧ w.heap.size + 2 ≤ mid ∧ mid ≤ w3.heap.size ∧ w4.heap.size = w3.heap.size + 1) := Lib.hid ⟨by omega, by omega, by omega, hz4⟩
  clear hads hcaps hrows hmaps hexcl hap hat1 hat2 ha1 ha2 hr3 hx3 hm3 hb3 hz3 hw3 hbn hat3 hw4 hz4 ha14 hn2 hxn2 hmid1 hmid2 hb2 hza hzb z0 z1 HFEW
  go_upto_region 2 with (fail)
  rw [HW3.out]
  clear y0 y1 y2 y3
  go_upto_region 3 with (fail)
  rw [HW4.out]
  clear x0 x1
  have hchk0 : Md.chk [] (Md.xs E) = 0 := rfl
  have HCHK0 := Lib.hid hchk0
  clear hchk0 hl1 hl2 hl3 HAT1 HAT2 HW3 HW4
  go_wp2_with fail
  clear t0
  go_loopw [19] (fun i wr => ∃ (k : Nat) (To : List Rw.Row) (adso : List (Option Addr × Nat)) (vo : Value), k ≤ n2 ∧ i = .int .i64 k ∧ Md.RI (w.heap.size + 1) w3.heap.size wa.heap.size mid w4.heap.size A2 n2 c2 XA2 xn2 xc2 T ads E k wr To adso vo ∧ Below w.heap.size w wr ∧ w4.heap.size ≤ wr.heap.size) (fun i _ => n2 - (intOf i).toNat)
  case atStart => exact ⟨0, [], [], .slice none 0 0, Nat.zero_le _, rfl, ⟨HA2.out, HA3.out, HR4.out, fun j r a _ h1 h2 => HM4.out j r a h1 h2, HX4.out, ⟨rfl, fun i r a h => absurd h (by simp)⟩, World.ownsRow_nil _ _ _ _, fun i r a h => absurd h (by simp), fun r hr => absurd hr (by simp), fun a ha => absurd ha (by simp), HCHK0.out, Nat.zero_le _⟩, HB4.out, Nat.le_refl _⟩
  case round =>
    obtain ⟨k, To, adso, vo, hk, rfl, iri, ibel, isz⟩ := hrel
    have IRI := Lib.hid iri
    have hn20 : n2 ≤ 20 := by rw [← HN2.out]; exact HTL.out
    have IBEL := Lib.hid ibel
    by_cases hlt : k < n2
    · obtain ⟨r, hr⟩ : ∃ r, T[k]? = some r := ⟨_, List.getElem?_eq_getElem (by rw [HN2.out]; exact hlt)⟩
      obtain ⟨a, ha⟩ : ∃ a, ads[k]? = some a := ⟨_, List.getElem?_eq_getElem (by rw [HADS.out]; exact hlt)⟩
      have hfl : (Rw.flI T ads).length = n2 * 3 := by rw [Rw.flI_len _ _ (by rw [HADS.out, HN2.out]), HN2.out]
      obtain ⟨b, o, rfl, hb, hcc⟩ := (Sl.of_own iri.rows) (by rw [hfl]; omega)
      obtain ⟨g0, g1, g2⟩ := Rw.flI_get T ads k r a hr ha
      have c0 := hcc (k * 3) (by rw [hfl]; omega)
      have c1 := hcc (k * 3 + 1) (by rw [hfl]; omega)
      have c2' := hcc (k * 3 + 2) (by rw [hfl]; omega)
      rw [g0] at c0
      rw [g1, ← Nat.add_assoc] at c1
      rw [g2, ← Nat.add_assoc] at c2'
      have hml4 := HTB.out r (List.mem_of_getElem? hr)
      have hslr := iri.maps k r a (Nat.le_refl _) hr ha
      have hcapr := HCAPS.out k r a hr ha
      obtain ⟨rc, rk, rm⟩ := r
      obtain ⟨aA, ac⟩ := a
      dsimp only at c0 c1 c2' hml4 hslr hcapr
      obtain ⟨ml, hml⟩ : ∃ ml, rm.length = ml := ⟨_, rfl⟩
      rw [hml] at c2' hml4 hcapr
      have HML := Lib.hid hml
      have HR := Lib.hid hr
      have HA := Lib.hid ha
      have hkI : (k : Int) < n2 := by omega
      have hk0 : (0 : Int) ≤ k := by omega
      have hbn : Below wr.heap.size wr (wr.alloc (.cells #[.int .i64 rc, .int .i64 rk, .slice aA ml ac] 59)) := (Below.refl _ _).alloc (Nat.le_refl _) _
      have hatr := Rw.At.new wr 59 [.int .i64 rc, .int .i64 rk, .slice aA ml ac]
      obtain ⟨w5, hw5⟩ : ∃ w5, wr.alloc (.cells #[.int .i64 rc, .int .i64 rk, .slice aA ml ac] 59) = w5 := ⟨_, rfl⟩
      have hatr2 : Rw.At w5 wr.heap.size 59 [.int .i64 rc, .int .i64 rk, .slice aA ml ac] := by rw [← hw5]; exact hatr
      rw [hw5] at hbn
      have HW5 := Lib.hid hw5
      have HBN := Lib.hid hbn
      have HATR := Lib.hid hatr2
      have HSLR := Lib.hid hslr
      have q0 := hatr2.cell 0 rfl
      have q1 := hatr2.cell 1 rfl
      have q2 := hatr2.cell 2 rfl
      have f0 := hatr2.frozen 0
      have f1 := hatr2.frozen 1
      have f2 := hatr2.frozen 2
      have hlr := hatr2.lt
      have hKb := Ch.K_bd rc
      have hK := Ch.char_any rc w5
      obtain ⟨kc, hkc⟩ : ∃ kc, Ch.K rc = kc := ⟨_, rfl⟩
      rw [hkc] at hK hKb
      have HK := Lib.hid hK
      have HKC := Lib.hid hkc
      have ek : IntKind.i64.wrap kc = kc := by rw [IntKind.wrap_i64]; omega
      have ecl := Md.and_8 rk
      obtain ⟨cl, hcl⟩ : ∃ cl, rk % 256 % 255 = cl := ⟨_, rfl⟩
      have hclb : 0 ≤ cl ∧ cl ≤ 254 := by omega
      have ermd : (rk % 256).tmod 255 = cl := by rw [Int.tmod_eq_emod_of_nonneg (by omega)]; exact hcl
      have ecl2 : IntKind.i64.wrap cl = cl := by rw [IntKind.wrap_i64]; omega
      clear iri ibel hfl hcc g0 g1 g2 hslr hml hr ha hbn hatr hatr2 hw5 hK hkc hb hcl
      go_upto_region 6 with (fail)
      rw [HW5.out]
      clear c0 c1 c2'
      go_wp2_with fail
      refine HK.out.mono ?_
      rintro e w6 ⟨rfl, rfl⟩
      go_upto_region 8 with (fail)
      obtain ⟨w8, hw8⟩ : ∃ w8, (w5.setCell ⟨wr.heap.size, 0, none⟩ (.int .i64 kc)).setCell ⟨wr.heap.size, 1, none⟩ (.int .i64 cl) = w8 := ⟨_, rfl⟩
      have hat8 : Rw.At w8 wr.heap.size 59 [.int .i64 kc, .int .i64 cl, .slice aA ml ac] := by rw [← hw8]; exact (HATR.out.set 0 (.int .i64 kc)).set 1 (.int .i64 cl)
      have hb8 : Below wr.heap.size wr w8 := by rw [← hw8]; exact (HBN.out.setCell (p := ⟨wr.heap.size, 0, none⟩) (Nat.le_refl _) _).setCell (p := ⟨wr.heap.size, 1, none⟩) (Nat.le_refl _) _
      rw [hw8]
      have HAT8 := Lib.hid hat8
      have HB8 := Lib.hid hb8
      have q2 := hat8.cell 2 rfl
      have f2 := hat8.frozen 2
      have hl8 := hat8.lt
      clear hat8 hb8 hw8 q0 q1 f0 f1 hlr ek ecl ermd ecl2 HW5
      go_upto_if 36 with (fail)
      go_cut [] (fun wx => Rw.At wx wr.heap.size 59 [.int .i64 kc, .int .i64 cl, .slice aA (min ml 2) ac] ∧ Below wr.heap.size wr wx)
      case first =>
        by_cases h2 : 2 < ml
        · have h2I : (2 : Int) < ml := by omega
          have hcI : (2 : Int) ≤ ac := by omega
          have hmin : min ml 2 = 2 := by omega
          have HMIN := Lib.hid hmin
          clear hmin
          go_wp2_with fail
          go_meet
          rw [HMIN.out]
          exact ⟨HAT8.out.set 2 _, HB8.out.setCell (p := ⟨wr.heap.size, 2, none⟩) (Nat.le_refl _) _⟩
        · have h2I : ¬ (2 : Int) < ml := by omega
          have hmin : min ml 2 = ml := by omega
          have HMIN := Lib.hid hmin
          clear hmin
          go_wp2_with fail
          go_meet
          rw [HMIN.out]
          exact ⟨HAT8.out, HB8.out⟩
      case rest =>
        obtain ⟨hatx, hbx⟩ := hcut
        obtain ⟨wx, rfl⟩ : ∃ wx : World, wx = wc := ⟨_, rfl⟩
        obtain ⟨m2, hm2⟩ : ∃ m2, min ml 2 = m2 := ⟨_, rfl⟩
        rw [hm2] at hatx
        have hm2b : m2 ≤ 2 := by omega
        have hm2l : m2 ≤ ml := by omega
        have HM2 := Lib.hid hm2
        have HATX := Lib.hid hatx
        have HBX := Lib.hid hbx
        have hslx := HSLR.out.below hbx
        have HSLX := Lib.hid hslx
        have HRI := Lib.hid (IRI.out.below hbx)
        obtain ⟨row, hrow0, hrow1, hrow2⟩ : ∃ row : Option Nat, (m2 = 0 → row = none) ∧ (∀ p, row = some p → (∃ cs z, wx.heap[p]? = some (.cells cs 3 z)) ∧ ∃ q, aA = some q ∧ q.block = p) ∧ (0 < m2 → ∃ bk ok, aA = some ⟨bk, ok, none⟩ ∧ row = some bk) := by
          by_cases h0 : m2 = 0
          · exact ⟨none, fun _ => rfl, fun p hp => absurd hp (by simp), fun h => absurd h (by omega)⟩
          · obtain ⟨bk, ok, cs, hA, hc, _⟩ := hslx (by rw [List.length_map, HML.out]; omega)
            refine ⟨some bk, fun h => absurd h h0, fun p hp => ?_, fun _ => ⟨bk, ok, hA, rfl⟩⟩
            cases hp
            exact ⟨⟨cs, _, hc⟩, _, hA, rfl⟩
        have HROW0 := Lib.hid hrow0
        have HROW1 := Lib.hid hrow1
        have HROW2 := Lib.hid hrow2
        have x2 := hatx.cell 2 rfl
        have hlx := hatx.lt
        clear hatx hbx hslx hm2 hrow0 hrow1 hrow2 q2 f2 hl8
        go_wp2_with fail
        clear x2
        go_loopw [44] (fun i wq => ∃ q : Nat, q ≤ m2 ∧ i = .int .i64 q ∧ Rw.At wq wr.heap.size 59 [.int .i64 kc, .int .i64 cl, .slice aA m2 ac] ∧ Slt wq 3 aA (((rm.take q).map Ch.K ++ rm.drop q).map (Value.int .i64)) ∧ wx.grownBy wq row) (fun i _ => m2 - (intOf i).toNat)
        case atStart => exact ⟨0, Nat.zero_le _, rfl, HATX.out, by simpa using HSLX.out, Rw.grown_bel (Below.refl _ _)⟩
        case round =>
          obtain ⟨q, hq, rfl, hatq, hslq, hgq⟩ := hrel
          obtain ⟨wq, rfl⟩ : ∃ wq : World, wq = wr := ⟨_, rfl⟩
          have HATQ := Lib.hid hatq
          have HSLQ := Lib.hid hslq
          have HGQ := Lib.hid hgq
          have q2 := hatq.cell 2 rfl
          have hlq := hatq.lt
          by_cases hltq : q < m2
          · obtain ⟨y, hy⟩ : ∃ y, rm[q]? = some y := ⟨_, List.getElem?_eq_getElem (by rw [HML.out]; omega)⟩
            obtain ⟨bk, ok, hA, hrw⟩ := HROW2.out (by omega)
            subst hA
            have hlen : (((rm.take q).map Ch.K ++ rm.drop q).map (Value.int .i64)).length = ml := by
              rw [List.length_map, List.length_append, List.length_map, List.length_take, List.length_drop, HML.out]; omega
            obtain ⟨b', o', hA', hb', hcc⟩ := hslq.sl (by rw [hlen]; omega)
            simp only [Option.some.injEq, Addr.mk.injEq] at hA'
            obtain ⟨rfl, rfl, _⟩ := hA'
            have cy := hcc q (by rw [hlen]; omega)
            rw [Md.upto_get Ch.K hy] at cy
            have fy := hslq.frozen (by rw [hlen]; omega) (ok + q)
            have hst := hslq.set (i := q) (by rw [hlen]; omega) (.int .i64 (Ch.K y))
            rw [Md.upto_set Ch.K hy] at hst
            have HST := Lib.hid hst
            obtain ⟨ky, hky⟩ : ∃ ky, Ch.K y = ky := ⟨_, rfl⟩
            have hkb := Ch.K_bd y
            rw [hky] at hkb HST
            have hCY : Hid (∀ W, Calls Tryz.prog 34 #[.int .i64 y] W fun e w' => e = .returned (.int .i32 ky) ∧ W = w') := Lib.hid fun W => by rw [← hky]; exact Ch.char_any y W
            have eky : IntKind.i64.wrap ky = ky := by rw [IntKind.wrap_i64]; omega
            have hqI : (q : Int) < m2 := by omega
            have hq0 : (0 : Int) ≤ q := by omega
            have hqm : q < m2 := hltq
            have HRW := Lib.hid hrw
            clear hatq hslq hgq hy hlen hcc hst hky hkb hrw
            have hne : wr.heap.size ≠ bk := fun e => by
              obtain ⟨b', o', cs, hA', hb', _⟩ := HSLQ.out (by rw [List.length_map, List.length_append, List.length_map, List.length_take, List.length_drop, HML.out]; omega)
              simp only [Option.some.injEq, Addr.mk.injEq] at hA'
              obtain ⟨rfl, rfl, _⟩ := hA'
              subst e
              exact HATQ.out.not (by decide) _ _ hb'
            have hg3 := Rw.grown_trans HGQ.out (by rw [HRW.out]; exact Rw.grown_set bk (ok + q) (.int .i64 ky))
            have hat3 := HATQ.out.other (i := ok + q) hne (.int .i64 ky)
            have HG3 := Lib.hid (Md.grown_drew hg3)
            have HAT3 := Lib.hid hat3
            clear hne hg3 hat3
            go_upto_region 13 with (fail)
            go_region_law
              (first
                | (refine step_quiet _ (by rfl) 34 _ _ (by rfl) (C.enter Tryz.func34 (by kernel_rfl) rfl) (.int .i64 y) (by rfl) _ (hCY.out _) ?_)
                | fail)
            all_goals go_wp2_with fail
            all_goals exact ⟨⟨q + 1, by omega, by go_num, HAT3.out, HST.out, HG3.out⟩, by simp [intOf]; omega⟩
          · obtain rfl : m2 = q := by omega
            have hri2 := HRI.out.grown hgq HA.out HAP.out HROW1.out
            have hbw : Below w.heap.size w wq := (IBEL.out.trans (HBX.out.mono IBEL.out.size)).trans (Rw.below_grown hgq (Nat.le_trans IBEL.out.size HBX.out.size) fun p hp => by
              obtain ⟨_, y, hy, hyp⟩ := HROW1.out p hp
              have h1 := (HAP.out.2 (aA, ac) (List.mem_of_getElem? HA.out) y hy).1
              have h2 := HSZ.out
              omega)
            have hszq : w4.heap.size ≤ wq.heap.size := by
              have h1 := HBX.out.size
              have h2 := hgq.size
              omega
            have hsl := hslq.take m2
            rw [← List.map_take, List.take_append_of_le_length (by rw [List.length_map, List.length_take, HML.out]; omega), List.take_of_length_le (by rw [List.length_map, List.length_take]; omega)] at hsl
            have hmlen : ((rm.take m2).map Ch.K).length = m2 := by rw [List.length_map, List.length_take, HML.out]; omega
            have hmbd : ∀ c ∈ (rm.take m2).map Ch.K, -2147483648 ≤ c ∧ c ≤ 2147483647 := fun c hc => by
              obtain ⟨y, _, rfl⟩ := List.mem_map.1 hc
              exact Ch.K_bd y
            obtain ⟨mp, hmp⟩ : ∃ mp, (rm.take m2).map Ch.K = mp := ⟨_, rfl⟩
            rw [hmp] at hsl hmlen hmbd
            have HRI2 := Lib.hid hri2
            have HBW := Lib.hid hbw
            have HSL := Lib.hid hsl
            have HMLEN := Lib.hid hmlen
            have HMBD := Lib.hid hmbd
            have z1 := hatq.cell 1 rfl
            have z2 := hatq.cell 2 rfl
            clear hri2 hbw hsl hmlen hmbd hmp hatq hslq hgq q2 hltq
            obtain ⟨gb, hgb⟩ : ∃ gb, decide (cl = 0 ∧ m2 = 0) = gb := ⟨_, rfl⟩
            have HGB := Lib.hid hgb
            clear hgb
            go_upto_region 15 with (fail)
            go_cut [67] (fun s wx => s = .bool gb ∧ wx = wq)
            case first =>
              rcases h1 : (cl == 0) with _ | _
              · have htt : gb = false := by
                  rw [← HGB.out]
                  have a1 : ¬ cl = 0 := by simpa using h1
                  simp [a1]
                subst htt
                go_wp2_with fail
                go_meet
                exact ⟨rfl, rfl⟩
              · rcases h2 : ((m2 : Int) == 0) with _ | _
                · have htt : gb = false := by
                    rw [← HGB.out]
                    have a1 : ¬ (m2 : Int) = 0 := by simpa using h2
                    have a2 : ¬ m2 = 0 := by omega
                    simp [a2]
                  subst htt
                  go_wp2_with fail
                  go_meet
                  exact ⟨rfl, rfl⟩
                · have htt : gb = true := by
                    rw [← HGB.out]
                    have a1 : cl = 0 := by simpa using h1
                    have a2 : (m2 : Int) = 0 := by simpa using h2
                    have a3 : m2 = 0 := by omega
                    simp [a1, a3]
                  subst htt
                  go_wp2_with fail
                  go_meet
                  exact ⟨rfl, rfl⟩
            case rest =>
              obtain ⟨rfl, rfl⟩ := hcut
              obtain ⟨wq, rfl⟩ : ∃ wq : World, wq = wc := ⟨_, rfl⟩
              rcases gb with _ | _
              · obtain ⟨Ao, co, rfl⟩ := own_form HRI2.out.out
                obtain ⟨on, hon⟩ : ∃ on, To.length = on := ⟨_, rfl⟩
                have hri := HRI2.out
                have hat3 := hri.a3
                rw [hon] at hat3
                have y1 := hat3.cell 1 rfl
                have h3l := hat3.lt
                have hbn : Below wq.heap.size wq (wq.alloc (.cells #[.slice none 0 0, .slice XA2 xn2 xc2] 25)) := (Below.refl _ _).alloc (Nat.le_refl _) _
                have hat7 := Rw.At.new wq 25 [.slice none 0 0, .slice XA2 xn2 xc2]
                obtain ⟨wn, hwn⟩ : ∃ wn, wq.alloc (.cells #[.slice none 0 0, .slice XA2 xn2 xc2] 25) = wn := ⟨_, rfl⟩
                have hat7n : Rw.At wn wq.heap.size 25 [.slice none 0 0, .slice XA2 xn2 xc2] := by rw [← hwn]; exact hat7
                rw [hwn] at hbn
                have hrest : Md.rok (kc, cl, mp) := by
                  refine ⟨hKb, hclb, by show mp.length ≤ 2; rw [HMLEN.out]; exact hm2b, HMBD.out, fun h0 hm0 => ?_⟩
                  have h1 : decide (cl = 0 ∧ m2 = 0) = false := HGB.out
                  rw [decide_eq_false_iff_not] at h1
                  apply h1
                  refine ⟨h0, ?_⟩
                  have := HMLEN.out
                  rw [show mp = [] from hm0] at this
                  simpa using this.symm
                have hund1 : Md.under [(aA, ac)] (ads.drop (k + 1)) := fun x hx p hp y hy q hq => by
                  rw [List.mem_singleton] at hx
                  subst hx
                  obtain ⟨l1, l2⟩ := List.getElem?_eq_some_iff.1 HA.out
                  obtain ⟨j, hj, hjy⟩ := List.getElem_of_mem hy
                  rw [List.getElem_drop] at hjy
                  rw [List.length_drop] at hj
                  have := List.pairwise_iff_getElem.1 HAP.out.1 k (k + 1 + j) l1 (by omega) (by omega) p q (by rw [l2]; exact hp) (by rw [hjy]; exact hq)
                  omega
                have HROK := Lib.hid hrest
                have HUND1 := Lib.hid hund1
                have HON := Lib.hid hon
                have HWN := Lib.hid hwn
                have HBN7 := Lib.hid hbn
                have HNX0 : Hid (Md.NX wq.heap.size (.slice XA2 xn2 xc2) (ads.drop (k + 1)) wn [] [] (.slice none 0 0)) := Lib.hid ⟨hat7n, ⟨rfl, fun i r a h => absurd h (by simp)⟩, World.ownsRow_nil _ _ _ _, fun i r a h => absurd h (by simp), fun r hr => absurd hr (by simp), fun a ha => absurd ha (by simp)⟩
                have hszn := hbn.size
                clear hri hat3 hon hbn hat7 hat7n hwn hrest hund1 z1 z2
                go_upto_region 17 with (fail)
                rw [HWN.out]
                clear y1
                have hat3 := (HRI2.out.below HBN7.out).a3
                rw [HON.out] at hat3
                have y0 := hat3.cell 0 rfl
                have h3l := hat3.lt
                clear hat3
                go_wp2_with fail
                clear y0
                have honb : on ≤ 20 := by have h1 := HRI2.out.len; rw [HON.out] at h1; omega
                go_loopw [8, 74] (fun v8 i ws => ∃ (j : Nat) (d : Bool) (N : List Rw.Row) (nads : List (Option Addr × Nat)) (vn : Value), j ≤ on ∧ i = .int .i64 j ∧ v8 = .bool d ∧ Md.NX wq.heap.size (.slice XA2 xn2 xc2) (ads.drop (k + 1)) ws N nads vn ∧ N.length ≤ j + (if d = true then 1 else 0) ∧ Below wq.heap.size wq ws) (fun _ i _ => on - (intOf i).toNat)
                case atStart => exact ⟨0, false, [], [], .slice none 0 0, Nat.zero_le _, rfl, rfl, HNX0.out, Nat.zero_le _, HBN7.out⟩
                case round =>
                  obtain ⟨j, d, N, nads, vn, hj, rfl, rfl, hnx, hnl, hbs⟩ := hrel
                  obtain ⟨ws, rfl⟩ : ∃ ws : World, ws = wr := ⟨_, rfl⟩
                  have HNX := Lib.hid hnx
                  have HNL := Lib.hid hnl
                  have HBS := Lib.hid hbs
                  by_cases hltj : j < on
                  · have hris := HRI2.out.below hbs
                    obtain ⟨q, hq⟩ : ∃ q, To[j]? = some q := ⟨_, List.getElem?_eq_getElem (by rw [HON.out]; exact hltj)⟩
                    obtain ⟨qa, hqa⟩ : ∃ qa, adso[j]? = some qa := ⟨_, List.getElem?_eq_getElem (by rw [hris.lens.1, HON.out]; exact hltj)⟩
                    have hrout := hris.out
                    have hofl : (Rw.flI To adso).length = on * 3 := by rw [Rw.flI_len _ _ hris.lens.1, HON.out]
                    rw [HON.out] at hrout
                    obtain ⟨b4, o4, rfl, hb4, hcc⟩ := (Sl.of_own hrout) (by rw [hofl]; omega)
                    obtain ⟨g0, g1, g2⟩ := Rw.flI_get To adso j q qa hq hqa
                    have c0 := hcc (j * 3) (by rw [hofl]; omega)
                    have c1 := hcc (j * 3 + 1) (by rw [hofl]; omega)
                    have c2 := hcc (j * 3 + 2) (by rw [hofl]; omega)
                    rw [g0] at c0
                    rw [g1, ← Nat.add_assoc] at c1
                    rw [g2, ← Nat.add_assoc] at c2
                    have hsq := hris.mo j q qa hq hqa
                    have hcq := hris.lens.2 j q qa hq hqa
                    have hrq := hris.rok q (List.mem_of_getElem? hq)
                    have huq : Md.under [qa] (ads.drop (k + 1)) := fun x hx p hp y hy z hz => by
                      rw [List.mem_singleton] at hx
                      subst hx
                      exact hris.und x (List.mem_of_getElem? hqa) p hp y hy z hz
                    obtain ⟨qc, qk, qm⟩ := q
                    obtain ⟨qA, qcap⟩ := qa
                    dsimp only at c0 c1 c2 hsq hcq
                    obtain ⟨ql, hql⟩ : ∃ ql, qm.length = ql := ⟨_, rfl⟩
                    rw [hql] at c2 hcq
                    have hqb := hrq.1
                    dsimp only at hqb
                    have HQL := Lib.hid hql
                    have HRQ := Lib.hid hrq
                    have HUQ := Lib.hid huq
                    have hjI : (j : Int) < on := by omega
                    have hj0' : (0 : Int) ≤ j := by omega
                    have hbv : Below ws.heap.size ws (ws.alloc (.cells #[.int .i64 qc, .int .i64 qk, .slice qA ql qcap] 59)) := (Below.refl _ _).alloc (Nat.le_refl _) _
                    have hatv := Rw.At.new ws 59 [.int .i64 qc, .int .i64 qk, .slice qA ql qcap]
                    obtain ⟨wv, hwv⟩ : ∃ wv, ws.alloc (.cells #[.int .i64 qc, .int .i64 qk, .slice qA ql qcap] 59) = wv := ⟨_, rfl⟩
                    have hatv2 : Rw.At wv ws.heap.size 59 [.int .i64 qc, .int .i64 qk, .slice qA ql qcap] := by rw [← hwv]; exact hatv
                    rw [hwv] at hbv
                    have hbqv := hbs.trans (hbv.mono hbs.size)
                    have HWV := Lib.hid hwv
                    have HATV := Lib.hid hatv2
                    have HSQ := Lib.hid (hsq.below hbv)
                    have HSR := Lib.hid (HSL.out.below hbqv)
                    have HNXV := Lib.hid (hnx.below hbv)
                    have HBQV := Lib.hid hbqv
                    have hatr := HATQ.out.below hbqv
                    have HATRV := Lib.hid hatr
                    have r0 := hatr.cell 0 rfl
                    have r1 := hatr.cell 1 rfl
                    have r2 := hatr.cell 2 rfl
                    have rl := hatr.lt
                    have p0 := hatv2.cell 0 rfl
                    have p1 := hatv2.cell 1 rfl
                    have p2 := hatv2.cell 2 rfl
                    have pl := hatv2.lt
                    have HOWNS : Hid (∀ q, vn.ownBlock = some q → q < ws.heap.size) := Lib.hid fun q hq => (hnx.own.lt q hq).2
                    have hnl20 : N.length ≤ 30 := by have := hnl; split at this <;> omega
                    clear hris hq hqa hrout hofl hcc g0 g1 g2 hsq hrq huq hql hbv hatv hatv2 hwv hbqv hatr hnx hbs
                    obtain ⟨gb2, hgb2⟩ : ∃ g, (!d && decide (kc < qc)) = g := ⟨_, rfl⟩
                    have HGB2 := Lib.hid hgb2
                    clear hgb2
                    go_upto_region 21 with (fail)
                    rw [HWV.out]
                    clear c0 c1 c2
                    go_cut [86] (fun s wx => s = .bool gb2 ∧ wx = wv)
                    case first =>
                      cases d
                      · by_cases hkq : kc < qc
                        · have htt : gb2 = true := by rw [← HGB2.out]; simp [hkq]
                          subst htt
                          go_wp2_with fail
                          go_meet
                          exact ⟨rfl, rfl⟩
                        · have htt : gb2 = false := by rw [← HGB2.out]; simp [hkq]
                          subst htt
                          go_wp2_with fail
                          go_meet
                          exact ⟨rfl, rfl⟩
                      · have htt : gb2 = false := by rw [← HGB2.out]; rfl
                        subst htt
                        go_wp2_with fail
                        go_meet
                        exact ⟨rfl, rfl⟩
                    case rest =>
                      obtain ⟨rfl, rfl⟩ := hcut
                      obtain ⟨wv, rfl⟩ : ∃ wv : World, wv = wc := ⟨_, rfl⟩
                      rcases gb2 with _ | _
                      · obtain ⟨AnX, cnX, rfl⟩ := own_form HNXV.out.own
                        obtain ⟨nnX, hnnX⟩ : ∃ nn, N.length = nn := ⟨_, rfl⟩
                        have htabX := HNXV.out.tab
                        have hownAX := HNXV.out.own.alloc (.cells #[.int .i64 qc, .int .i64 qk, .slice qA ql qcap] 59)
                        rw [hnnX] at htabX hownAX
                        have t0X := htabX.cell 0 rfl
                        have tlX := htabX.lt
                        have hszAX : wq.heap.size + 1 ≤ (wv.alloc (.cells #[.int .i64 qc, .int .i64 qk, .slice qA ql qcap] 59)).heap.size := by simp; omega
                        have hnewX := Lib.hid (Sl.lit (w := wv.alloc (.cells #[.int .i64 qc, .int .i64 qk, .slice qA ql qcap] 59)) (A := some ⟨wv.heap.size, 0, none⟩) (xs := [.int .i64 qc, .int .i64 qk, .slice qA ql qcap]) rfl 59 (0, 0) (heap_alloc_new wv _))
                        have HNEX := Lib.hid (Rw.own_ne hownAX wq.heap.size (Nat.lt_succ_self _))
                        have HOWNAX := Lib.hid hownAX
                        have HTABAX := Lib.hid (htabX.alloc (.cells #[.int .i64 qc, .int .i64 qk, .slice qA ql qcap] 59))
                        have HNNX := Lib.hid hnnX
                        have hnnbX : nnX ≤ 40 := by omega
                        clear htabX hownAX hnnX
                        go_wp2_with (first | (at_builtin; refine wpList_appendSl _ rfl _ _ _ rfl (wq.heap.size + 1) 59 j0 _ 3 40 Tryz.underlying22 hj0 jy0 jy1 jy2 rfl (by omega) (.slice AnX nnX cnX) nnX _ rfl HOWNAX.out _ (some ⟨wv.heap.size, 0, none⟩) 1 1 [.int .i64 qc, .int .i64 qk, .slice qA ql qcap] rfl rfl hnewX.out (by simp [Value.oneCell']) (by simp only [maxLen]; omega) (by omega) hszAX ?_; intro v1 w6X hown6X hb6X hgrowX; have hat6 := HTABAX.out.grown hgrowX HNEX.out; have u0 := hat6.cell 0 rfl; have u0f := hat6.frozen 0; have u2f := hat6.lt; obtain ⟨A8X, c8X, rfl⟩ := own_form hown6X) | fail)
                        have h6X := hown6X
                        rw [← HQL.out, ← HNNX.out] at h6X
                        have hnx6X := HNXV.out.push (r := (qc, qk, qm)) (a := (qA, qcap)) HSQ.out (by show _ ≤ _; rw [HQL.out]; exact hcq) HRQ.out HUQ.out h6X (by rw [HNNX.out]; exact hgrowX)
                        rw [HNNX.out] at hnx6X
                        have hb7X : Below wq.heap.size wq ((w6X).setCell ⟨wq.heap.size, 0, none⟩ (.slice A8X (nnX + 1) c8X)) := ((HBQV.out.alloc HBQV.out.size (.cells #[.int .i64 qc, .int .i64 qk, .slice qA ql qcap] 59)).trans (hb6X.mono (Nat.le_succ _))).setCell (p := ⟨wq.heap.size, 0, none⟩) (Nat.le_refl _) _
                        exact ⟨⟨j + 1, d, _, _, _, by omega, by go_num, rfl, hnx6X, by simp only [List.length_append, List.length_singleton]; have := HNL.out; omega, hb7X⟩, by simp [intOf]; omega⟩
                      · have hdf : d = false := by
                          have h := HGB2.out
                          cases d
                          · rfl
                          · exact absurd h (by simp)
                        subst hdf
                        obtain ⟨AnY, cnY, rfl⟩ := own_form HNXV.out.own
                        obtain ⟨nnY, hnnY⟩ : ∃ nn, N.length = nn := ⟨_, rfl⟩
                        have htabY := HNXV.out.tab
                        have hownAY := HNXV.out.own.alloc (.cells #[.int .i64 kc, .int .i64 cl, .slice aA m2 ac] 59)
                        rw [hnnY] at htabY hownAY
                        have t0Y := htabY.cell 0 rfl
                        have tlY := htabY.lt
                        have hszAY : wq.heap.size + 1 ≤ (wv.alloc (.cells #[.int .i64 kc, .int .i64 cl, .slice aA m2 ac] 59)).heap.size := by simp; omega
                        have hnewY := Lib.hid (Sl.lit (w := wv.alloc (.cells #[.int .i64 kc, .int .i64 cl, .slice aA m2 ac] 59)) (A := some ⟨wv.heap.size, 0, none⟩) (xs := [.int .i64 kc, .int .i64 cl, .slice aA m2 ac]) rfl 59 (0, 0) (heap_alloc_new wv _))
                        have HNEY := Lib.hid (Rw.own_ne hownAY wq.heap.size (Nat.lt_succ_self _))
                        have HOWNAY := Lib.hid hownAY
                        have HTABAY := Lib.hid (htabY.alloc (.cells #[.int .i64 kc, .int .i64 cl, .slice aA m2 ac] 59))
                        have HNNY := Lib.hid hnnY
                        have hnnbY : nnY ≤ 40 := by omega
                        clear htabY hownAY hnnY
                        go_upto_region 24 with (first | (at_builtin; refine wpList_appendSl _ rfl _ _ _ rfl (wq.heap.size + 1) 59 j0 _ 3 40 Tryz.underlying22 hj0 jy0 jy1 jy2 rfl (by omega) (.slice AnY nnY cnY) nnY _ rfl HOWNAY.out _ (some ⟨wv.heap.size, 0, none⟩) 1 1 [.int .i64 kc, .int .i64 cl, .slice aA m2 ac] rfl rfl hnewY.out (by simp [Value.oneCell']) (by simp only [maxLen]; omega) (by omega) hszAY ?_; intro v1 w6Y hown6Y hb6Y hgrowY; have hat6 := HTABAY.out.grown hgrowY HNEY.out; have u0 := hat6.cell 0 rfl; have u0f := hat6.frozen 0; have u2f := hat6.lt; obtain ⟨A8Y, c8Y, rfl⟩ := own_form hown6Y) | fail)
                        have h6Y := hown6Y
                        rw [← HMLEN.out, ← HNNY.out] at h6Y
                        have hnx6Y := HNXV.out.push (r := (kc, cl, mp)) (a := (aA, ac)) HSR.out (by show _ ≤ _; rw [HMLEN.out]; exact (by omega)) HROK.out HUND1.out h6Y (by rw [HNNY.out]; exact hgrowY)
                        rw [HNNY.out] at hnx6Y
                        have hbY : Below wq.heap.size wq (w6Y.setCell ⟨wq.heap.size, 0, none⟩ (.slice A8Y (nnY + 1) c8Y)) := ((HBQV.out.alloc HBQV.out.size (.cells #[.int .i64 kc, .int .i64 cl, .slice aA m2 ac] 59)).trans (hb6Y.mono (Nat.le_succ _))).setCell (p := ⟨wq.heap.size, 0, none⟩) (Nat.le_refl _) _
                        have hatq2 := ((HATV.out.alloc (.cells #[.int .i64 kc, .int .i64 cl, .slice aA m2 ac] 59)).grown hgrowY (fun e => Nat.lt_irrefl _ (HOWNS.out _ (by rw [HNNY.out]; exact e)))).other (b' := wq.heap.size) (i := 0) (by have := HBS.out.size; have := HNX.out.tab.lt; omega) (.slice A8Y (nnY + 1) c8Y)
                        have hsq2 := (((HSQ.out.below ((Below.refl _ _).alloc (Nat.le_refl _) (.cells #[.int .i64 kc, .int .i64 cl, .slice aA m2 ac] 59))).grown hgrowY (Rw.own_not HOWNAY.out (by decide))).grown (Rw.grown_set wq.heap.size 0 (.slice A8Y (nnY + 1) c8Y)) (by intro q hq; cases hq; exact hat6.not (by decide)))
                        obtain ⟨wy, hwy⟩ : ∃ wy, w6Y.setCell ⟨wq.heap.size, 0, none⟩ (.slice A8Y (nnY + 1) c8Y) = wy := ⟨_, rfl⟩
                        rw [hwy] at hnx6Y hbY hatq2 hsq2
                        obtain ⟨vy, hvy⟩ : ∃ v, Value.slice A8Y (nnY + 1) c8Y = v := ⟨_, rfl⟩
                        rw [hvy] at hnx6Y
                        clear hvy
                        rw [hwy]
                        have HNXY := Lib.hid hnx6Y
                        have HBY := Lib.hid hbY
                        have HSQ2 := Lib.hid hsq2
                        have p0 := hatq2.cell 0 rfl
                        have p1 := hatq2.cell 1 rfl
                        have p2 := hatq2.cell 2 rfl
                        have pl := hatq2.lt
                        clear hnx6Y hbY hatq2 hsq2 hwy h6Y hown6Y hb6Y hgrowY hat6 u0 u0f u2f r0 r1 r2 rl t0Y tlY
                        obtain ⟨AnZ, cnZ, rfl⟩ := own_form HNXY.out.own
                        obtain ⟨nnZ, hnnZ⟩ : ∃ nn, (N ++ [(kc, cl, mp)]).length = nn := ⟨_, rfl⟩
                        have htabZ := HNXY.out.tab
                        have hownAZ := HNXY.out.own.alloc (.cells #[.int .i64 qc, .int .i64 qk, .slice qA ql qcap] 59)
                        rw [hnnZ] at htabZ hownAZ
                        have t0Z := htabZ.cell 0 rfl
                        have tlZ := htabZ.lt
                        have hszAZ : wq.heap.size + 1 ≤ (wy.alloc (.cells #[.int .i64 qc, .int .i64 qk, .slice qA ql qcap] 59)).heap.size := by simp; omega
                        have hnewZ := Lib.hid (Sl.lit (w := wy.alloc (.cells #[.int .i64 qc, .int .i64 qk, .slice qA ql qcap] 59)) (A := some ⟨wy.heap.size, 0, none⟩) (xs := [.int .i64 qc, .int .i64 qk, .slice qA ql qcap]) rfl 59 (0, 0) (heap_alloc_new wy _))
                        have HNEZ := Lib.hid (Rw.own_ne hownAZ wq.heap.size (Nat.lt_succ_self _))
                        have HOWNAZ := Lib.hid hownAZ
                        have HTABAZ := Lib.hid (htabZ.alloc (.cells #[.int .i64 qc, .int .i64 qk, .slice qA ql qcap] 59))
                        have HNNZ := Lib.hid hnnZ
                        have hnnbZ : nnZ ≤ 40 := by rw [← hnnZ, List.length_append, List.length_singleton]; omega
                        clear htabZ hownAZ hnnZ
                        go_wp2_with (first | (at_builtin; refine wpList_appendSl _ rfl _ _ _ rfl (wq.heap.size + 1) 59 j0 _ 3 40 Tryz.underlying22 hj0 jy0 jy1 jy2 rfl (by omega) (.slice AnZ nnZ cnZ) nnZ _ rfl HOWNAZ.out _ (some ⟨wy.heap.size, 0, none⟩) 1 1 [.int .i64 qc, .int .i64 qk, .slice qA ql qcap] rfl rfl hnewZ.out (by simp [Value.oneCell']) (by simp only [maxLen]; omega) (by omega) hszAZ ?_; intro v1 w6Z hown6Z hb6Z hgrowZ; have hat6 := HTABAZ.out.grown hgrowZ HNEZ.out; have u0 := hat6.cell 0 rfl; have u0f := hat6.frozen 0; have u2f := hat6.lt; obtain ⟨A8Z, c8Z, rfl⟩ := own_form hown6Z) | fail)
                        have h6Z := hown6Z
                        rw [← HQL.out, ← HNNZ.out] at h6Z
                        have hnx6Z := HNXY.out.push (r := (qc, qk, qm)) (a := (qA, qcap)) HSQ2.out (by show _ ≤ _; rw [HQL.out]; exact hcq) HRQ.out HUQ.out h6Z (by rw [HNNZ.out]; exact hgrowZ)
                        rw [HNNZ.out] at hnx6Z
                        have hb7Z : Below wq.heap.size wq ((w6Z).setCell ⟨wq.heap.size, 0, none⟩ (.slice A8Z (nnZ + 1) c8Z)) := ((HBY.out.alloc HBY.out.size (.cells #[.int .i64 qc, .int .i64 qk, .slice qA ql qcap] 59)).trans (hb6Z.mono (Nat.le_succ _))).setCell (p := ⟨wq.heap.size, 0, none⟩) (Nat.le_refl _) _
                        exact ⟨⟨j + 1, true, _, _, _, by omega, by go_num, rfl, hnx6Z, by simp only [List.length_append, List.length_singleton]; have h1 := HNL.out; simp at h1 ⊢; omega, hb7Z⟩, by simp [intOf]; omega⟩
                  · obtain rfl : on = j := by omega
                    have HBQ := HBS
                    have hatr := HATQ.out.below hbs
                    have r0 := hatr.cell 0 rfl
                    have r1 := hatr.cell 1 rfl
                    have r2 := hatr.cell 2 rfl
                    have rl := hatr.lt
                    have HSR := Lib.hid (HSL.out.below hbs)
                    have hnl20 : N.length ≤ 30 := by have := hnl; split at this <;> omega
                    clear hnx hnl hbs hatr hltj
                    go_upto_if 101 with (fail)
                    go_cut [] (fun wx => ∃ (N' : List Rw.Row) (nads' : List (Option Addr × Nat)) (vn' : Value), Md.NX wq.heap.size (.slice XA2 xn2 xc2) (ads.drop (k + 1)) wx N' nads' vn' ∧ N'.length ≤ on + 1 ∧ Below wq.heap.size wq wx)
                    case first =>
                      cases d
                      · have hnl2 : N.length ≤ on := by have h1 := HNL.out; simpa using h1
                        obtain ⟨AnY, cnY, rfl⟩ := own_form HNX.out.own
                        obtain ⟨nnY, hnnY⟩ : ∃ nn, N.length = nn := ⟨_, rfl⟩
                        have htabY := HNX.out.tab
                        have hownAY := HNX.out.own.alloc (.cells #[.int .i64 kc, .int .i64 cl, .slice aA m2 ac] 59)
                        rw [hnnY] at htabY hownAY
                        have t0Y := htabY.cell 0 rfl
                        have tlY := htabY.lt
                        have hszAY : wq.heap.size + 1 ≤ (ws.alloc (.cells #[.int .i64 kc, .int .i64 cl, .slice aA m2 ac] 59)).heap.size := by simp; omega
                        have hnewY := Lib.hid (Sl.lit (w := ws.alloc (.cells #[.int .i64 kc, .int .i64 cl, .slice aA m2 ac] 59)) (A := some ⟨ws.heap.size, 0, none⟩) (xs := [.int .i64 kc, .int .i64 cl, .slice aA m2 ac]) rfl 59 (0, 0) (heap_alloc_new ws _))
                        have HNEY := Lib.hid (Rw.own_ne hownAY wq.heap.size (Nat.lt_succ_self _))
                        have HOWNAY := Lib.hid hownAY
                        have HTABAY := Lib.hid (htabY.alloc (.cells #[.int .i64 kc, .int .i64 cl, .slice aA m2 ac] 59))
                        have HNNY := Lib.hid hnnY
                        have hnnbY : nnY ≤ 40 := by omega
                        clear htabY hownAY hnnY
                        go_wp2_with (first | (at_builtin; refine wpList_appendSl _ rfl _ _ _ rfl (wq.heap.size + 1) 59 j0 _ 3 40 Tryz.underlying22 hj0 jy0 jy1 jy2 rfl (by omega) (.slice AnY nnY cnY) nnY _ rfl HOWNAY.out _ (some ⟨ws.heap.size, 0, none⟩) 1 1 [.int .i64 kc, .int .i64 cl, .slice aA m2 ac] rfl rfl hnewY.out (by simp [Value.oneCell']) (by simp only [maxLen]; omega) (by omega) hszAY ?_; intro v1 w6Y hown6Y hb6Y hgrowY; have hat6 := HTABAY.out.grown hgrowY HNEY.out; have u0 := hat6.cell 0 rfl; have u0f := hat6.frozen 0; have u2f := hat6.lt; obtain ⟨A8Y, c8Y, rfl⟩ := own_form hown6Y) | fail)
                        have h6Y := hown6Y
                        rw [← HMLEN.out, ← HNNY.out] at h6Y
                        have hnx6Y := HNX.out.push (r := (kc, cl, mp)) (a := (aA, ac)) HSR.out (by show _ ≤ _; rw [HMLEN.out]; exact (by omega)) HROK.out HUND1.out h6Y (by rw [HNNY.out]; exact hgrowY)
                        rw [HNNY.out] at hnx6Y
                        go_meet
                        exact ⟨_, _, _, hnx6Y, by rw [List.length_append, List.length_singleton]; omega, (((HBQ.out.alloc HBQ.out.size (.cells #[.int .i64 kc, .int .i64 cl, .slice aA m2 ac] 59)).trans (hb6Y.mono (Nat.le_succ _))).setCell (p := ⟨wq.heap.size, 0, none⟩) (Nat.le_refl _) _)⟩
                      · go_wp2_with fail
                        go_meet
                        exact ⟨N, nads, vn, HNX.out, by have h1 := HNL.out; simpa using h1, HBS.out⟩
                    case rest =>
                      obtain ⟨N', nads', vn', hnx', hnl', hbx'⟩ := hcut
                      obtain ⟨wx', rfl⟩ : ∃ w' : World, w' = wc := ⟨_, rfl⟩
                      obtain ⟨An, cn, rfl⟩ := own_form hnx'.own
                      have hrx := HRI2.out.below hbx'
                      have hxs := Sl.of_own hrx.excl
                      have hdoc : Md.Doc wx' (Md.tv An N'.length cn XA2 E.length xc2) N' E := ⟨An, cn, XA2, xc2, rfl, Rw.seesI_mk hnx'.lens.1 (Slt.of_own hnx'.own) hnx'.mo, hxs⟩
                      have hcapn := Md.own_cap hnx'.own
                      have hb1 : N'.length ≤ 100000 := by omega
                      have hb2 : E.length ≤ 1000000 := Nat.le_trans HEL.out (by decide)
                      have hrok' := hnx'.rok
                      have hb3 : Md.bd N' := fun r hr => ⟨(hrok' r hr).1, (hrok' r hr).2.2.2.1⟩
                      have hb4 : ∀ r ∈ N', r.2.2.length ≤ 1000 := fun r hr => Nat.le_trans (hrok' r hr).2.2.1 (by decide)
                      have hb5 : ∀ r ∈ N', -9223372036854775808 ≤ r.2.1 ∧ r.2.1 ≤ 9223372036854775807 := fun r hr => ⟨Int.le_trans (by decide) (hrok' r hr).2.1.1, Int.le_trans (hrok' r hr).2.1.2 (by decide)⟩
                      have hchk := Md.rcheck_any _ N' E wx' hb1 hb2 hb3 hb4 hb5 hdoc (Md.tv_cap hcapn)
                      clear hxs hb1 hb2 hrok' hb3 hb4 hb5
                      unfold Md.tv at hchk
                      rw [HXN.out] at hchk
                      obtain ⟨ck, hck⟩ : ∃ ck, Md.chk N' (Md.xs E) = ck := ⟨_, rfl⟩
                      rw [hck] at hchk
                      obtain ⟨nn, hnn⟩ : ∃ nn, N'.length = nn := ⟨_, rfl⟩
                      have htab := hnx'.tab
                      rw [hnn] at hchk htab hnl'
                      have t0 := htab.cell 0 rfl
                      have t1 := htab.cell 1 rfl
                      have tl := htab.lt
                      have HCHK := Lib.hid hchk
                      have HNXN := Lib.hid hnx'
                      have HBXN := Lib.hid hbx'
                      have HCK := Lib.hid hck
                      have HNN := Lib.hid hnn
                      clear hnx' hbx' hrx hdoc hcapn hchk hck hnn htab
                      go_wp2_with fail
                      refine HCHK.out.mono ?_
                      rintro e w9 ⟨rfl, hb9⟩
                      have hrz := (HRI2.out.below HBXN.out).below hb9
                      have hnz := HNXN.out.below hb9
                      rw [HNN.out] at hnz
                      have HRZ := Lib.hid hrz
                      have HNZ := Lib.hid (HNXN.out.below hb9)
                      have HB9 := Lib.hid (HBXN.out.trans (hb9.mono HBXN.out.size))
                      have t0 := hnz.tab.cell 0 rfl
                      have t1 := hnz.tab.cell 1 rfl
                      have tl := hnz.tab.lt
                      have a3c := hrz.a3
                      have s0 := a3c.cell 0 rfl
                      have s1 := a3c.cell 1 rfl
                      have g0 := a3c.frozen 0
                      have g1 := a3c.frozen 1
                      have gl := a3c.lt
                      clear hrz hnz hb9 a3c
                      by_cases hck0 : ck = 0
                      · subst hck0
                        have hnote : Md.note 0 = ⟨#[]⟩ := rfl
                        rw [hnote]
                        go_wp2_with fail
                        have hk1 : k + 1 ≤ n2 := hlt
                        have hsz := HSZ.out
                        have hl1 := IRI.out.len
                        rw [HON.out] at hl1
                        have hri2 := Md.RI.take HRZ.out HNZ.out HCK.out (by rw [HNN.out]; omega) (by omega) (by omega)
                        rw [HNN.out] at hri2
                        have hbb := HBW.out.trans (HB9.out.mono HBW.out.size)
                        have hs9 := HB9.out.size
                        refine ⟨⟨k + 1, N', nads', .slice An nn cn, hk1, ?_, hri2, ?_, ?_⟩, ?_⟩
                        · go_num
                        · exact (hbb.setCell (p := ⟨w3.heap.size, 0, none⟩) (by show w.heap.size ≤ w3.heap.size; omega) _).setCell (p := ⟨w3.heap.size, 1, none⟩) (by show w.heap.size ≤ w3.heap.size; omega) _
                        · rw [World.size_setCell, World.size_setCell]; omega
                        · simp [intOf]; omega
                      · have hem := Md.note_ne hck0
                        have hsne : ¬ Md.note ck = ⟨#[]⟩ := fun e => by
                          rw [e] at hem
                          revert hem
                          decide +kernel
                        obtain ⟨nt, hnt⟩ : ∃ nt, Md.note ck = nt := ⟨_, rfl⟩
                        rw [hnt] at hem hsne ⊢
                        clear hnt hck0
                        go_wp2_with fail
                        have hk1 : k + 1 ≤ n2 := hlt
                        have hbb := HBW.out.trans (HB9.out.mono HBW.out.size)
                        have hs9 := HB9.out.size
                        refine ⟨⟨k + 1, To, adso, _, hk1, ?_, HRZ.out, hbb, by omega⟩, ?_⟩
                        · go_num
                        · simp [intOf]; omega
              · go_wp2_with fail
                have hk1 : k + 1 ≤ n2 := hlt
                refine ⟨⟨k + 1, To, adso, vo, hk1, ?_, HRI2.out, HBW.out, hszq⟩, ?_⟩
                · go_num
                · simp [intOf]; omega
    · obtain rfl : n2 = k := by omega
      obtain ⟨wz, rfl⟩ : ∃ wz : World, wz = wr := ⟨_, rfl⟩
      obtain ⟨Ao, co, rfl⟩ := own_form iri.out
      obtain ⟨on, hon⟩ : ∃ on, To.length = on := ⟨_, rfl⟩
      have hat3 := iri.a3
      have hat2 := iri.a2
      rw [hon] at hat3
      have hsz := HSZ.out
      have y0 := hat3.cell 0 rfl
      have y1 := hat3.cell 1 rfl
      have x0 := hat2.cell 0 rfl
      have x1 := hat2.cell 1 rfl
      have f0 := hat2.frozen 0
      have f1 := hat2.frozen 1
      have h2l := hat2.lt
      have h3l := hat3.lt
      have HON := Lib.hid hon
      have HAT2' := Lib.hid hat2
      clear hat2 hat3 hon iri ibel hlt hk
      go_wp2_with fail
      have k1 := HAT2'.out.set 0 (.slice Ao on co)
      have k2 := k1.set 1 (.slice XA2 xn2 xc2)
      have hri := IRI.out
      rw [HON.out] at hri
      have hnot1 : ∀ q, some (w.heap.size + 1) = some q → ∀ cs z, wz.heap[q]? ≠ some (.cells cs 3 z) := fun q hq => by cases hq; exact HAT2'.out.not (by decide)
      have hnot2 : ∀ q, some (w.heap.size + 1) = some q → ∀ cs z, (wz.setCell ⟨w.heap.size + 1, 0, none⟩ (.slice Ao on co)).heap[q]? ≠ some (.cells cs 3 z) := fun q hq => by cases hq; exact k1.not (by decide)
      have ho := Rw.own_grown (Rw.own_grown hri.out (by omega) (Rw.grown_set (w.heap.size + 1) 0 (.slice Ao on co))) (by omega) (Rw.grown_set (w.heap.size + 1) 1 (.slice XA2 xn2 xc2))
      have hx := Rw.own_grown (Rw.own_grown hri.excl (by omega) (Rw.grown_set (w.heap.size + 1) 0 (.slice Ao on co))) (by omega) (Rw.grown_set (w.heap.size + 1) 1 (.slice XA2 xn2 xc2))
      have hm := (hri.mo.grown (Rw.grown_set (w.heap.size + 1) 0 (.slice Ao on co)) hnot1).grown (Rw.grown_set (w.heap.size + 1) 1 (.slice XA2 xn2 xc2)) hnot2
      refine bodyPost_ret (Rw.results1 rfl _ _ (w.heap.size + 1) _ _ _ _ rfl k2 Tryz.underlying25 rfl (by kernel_rfl)) rfl ⟨_, To, E, rfl, ⟨Ao, co, XA2, xc2, ?_, Rw.seesI_mk hri.lens.1 ?_ hm, Sl.of_own hx⟩, ?_, Nat.le_trans hri.len hn20, HEL.out, hri.rok, HEC.out, hri.chk, ?_⟩
      · rw [HON.out, HXN.out]; rfl
      · rw [HON.out] at ho
        exact Slt.of_own ho
      · intro A' n' c' A7 n7 c7 he
        simp only [Value.agg.injEq, Array.mk.injEq, List.cons.injEq, Value.slice.injEq, and_true] at he
        obtain ⟨⟨rfl, rfl, rfl⟩, rfl, rfl, rfl⟩ := he
        rw [HON.out] at ho
        exact ⟨Md.own_cap ho, Md.own_cap hx⟩
      · exact (IBEL.out.setCell (p := ⟨w.heap.size + 1, 0, none⟩) (Nat.le_succ _) _).setCell (p := ⟨w.heap.size + 1, 1, none⟩) (Nat.le_succ _) _
end Go.Proofs.YtkmfegamblmpeaaGreatDoor
