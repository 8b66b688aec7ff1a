/- The law of the numbers, by walking its text. -/
import Derived.Test.YthcdecncnppjaaaDoorNmPlain4
import Derived.Test.YthcdecncnppjaaaDoorNmApp
import Derived.Test.YthcdecncnppjaaaDoorStageC
import Derived.Deep.DeepCutAuto
namespace Go.Proofs.YthcdecncnppjaaaDoor
open Go.RowKit
set_option linter.unusedSimpArgs false
set_option linter.unusedVariables false
abbrev Nm.Lim := Option Addr × Nat × Nat × List Nat
/-- Rows of digits that came in. -/
def Nm.Arr (w : World) (A : Option Addr) (n c : Nat) (rs : List Nm.Lim) : Prop :=
  rs.length = n ∧ Sl w w.heap.size A (rs.map fun r => Value.slice r.1 r.2.1 r.2.2.1) ∧ ∀ r ∈ rs, r.2.2.2.length = r.2.1 ∧ r.2.1 ≤ r.2.2.1 ∧ r.2.2.1 ≤ maxLen ∧ Nm.Ok r.2.2.2 ∧ Sl w w.heap.size r.1 (Nm.u32s r.2.2.2)
/-- The numbers so far: each in its place, and what they come to. -/
def Nm.Els (w : World) (es : List (Value × Nat)) (L : Nat) : Prop := ∀ e ∈ es, Nm.Is w (.agg #[e.1]) e.2 L
theorem Nm.Els.below {w w' : World} {es : List (Value × Nat)} {L : Nat} (h : Nm.Els w es L) (hb : Below w.heap.size w w') : Nm.Els w' es L := fun e he => (h e he).below hb
theorem Nm.Els.nil (w : World) (L : Nat) : Nm.Els w [] L := fun e he => absurd he (by simp)
def Nm.St (w : World) (base b5 b6 k : Nat) (es : List (Value × Nat)) (lb : List Nat) (Ab : Option Addr) (nb : Nat) (A4 : Option Addr) (c4 : Nat) (S M : Value) : Prop :=
  es.length = k ∧ lb.length = nb ∧ nb ≤ 164 * k ∧ Slt w 5 Ab (Nm.u8s lb) ∧ Nm.Enc (es.map (·.2)) lb ∧ w.ownsRow base 27 1 (.slice A4 k c4) k (es.map (·.1)) ∧ Nm.Els w es 40 ∧
  Rw.At w b5 27 [S] ∧ Rw.At w b6 27 [M] ∧ Nm.Is w (.agg #[S]) (Nm.sm (es.map (·.2))) (40 + k) ∧ Nm.Is w (.agg #[M]) (Nm.pr (es.map (·.2))) (2 + 41 * k)
theorem Nm.slt_push {w w' : World} {o : Obj} {base : Nat} {e t : TypeId} {n : Nat} {v : Value} {A : Option Addr} {xs ys : List Value} (h : Slt w t A ys) (hown : w.ownsRow base e 1 v n xs) (hne : e ≠ t) (hg : (w.alloc o).grownBy w' v.ownBlock) : Slt w' t A ys := by
  refine (h.below (Nm.bel_alloc w o)).grown hg fun k hk cs z h => ?_
  obtain ⟨cs', z', h'⟩ := Nm.own_cells (hown.alloc o) k hk
  rw [h'] at h
  cases h
  exact hne rfl
theorem Nm.els_push {w w' : World} {o : Obj} {base : Nat} {e : TypeId} {n L : Nat} {v : Value} {xs : List Value} {es : List (Value × Nat)} (his : Nm.Els w es L) (hown : w.ownsRow base e 1 v n xs) (hne : e ≠ 47) (hg : (w.alloc o).grownBy w' v.ownBlock) : Nm.Els w' es L := fun x hx => Nm.is_push (his x hx) hown hne hg
theorem Nm.Els.setAt {w : World} {es : List (Value × Nat)} {L b : Nat} {t : TypeId} {cs : List Value} (h : Nm.Els w es L) (k : Rw.At w b t cs) (hne : t ≠ 47) (i : Nat) (u : Value) : Nm.Els (w.setCell ⟨b, i, none⟩ u) es L := fun x hx => (h x hx).setAt k hne i u
theorem Nm.Els.snoc {w : World} {es : List (Value × Nat)} {L n : Nat} {v : Value} (h : Nm.Els w es L) (hi : Nm.Is w (.agg #[v]) n L) : Nm.Els w (es ++ [(v, n)]) L := by
  intro e he
  rcases List.mem_append.1 he with he | he
  · exact h e he
  · rw [List.mem_singleton] at he
    subst he
    exact hi
theorem Nm.Els.more {w : World} {es : List (Value × Nat)} {L L' : Nat} (h : Nm.Els w es L) (hL : L ≤ L') : Nm.Els w es L' := fun e he => (h e he).more hL
theorem Nm.sl_new (w : World) (t : TypeId) (xs : List Value) : Sl (w.alloc (.cells xs.toArray t)) (w.alloc (.cells xs.toArray t)).heap.size (some ⟨w.heap.size, 0, none⟩) xs := fun _ => by
  have hat := Rw.At.new w t xs
  refine ⟨w.heap.size, 0, rfl, hat.lt, fun i hi => ?_⟩
  rw [Nat.zero_add, hat.cell i (List.getElem?_eq_getElem hi)]
  exact (List.getElem?_eq_getElem hi).symm
theorem Nm.put_len (lb out : List Nat) : (lb ++ (Nm.be4 out.length ++ out)).length = lb.length + (4 + out.length) := by rw [List.length_append, List.length_append]; rfl
theorem Nm.kept {w w' : World} {base : Nat} {e : TypeId} {A : Option Addr} {n c : Nat} {xs : List Value} (hown : w.ownsRow base e 1 (.slice A n c) n xs) (h : ∀ g cap, Value.slice A n c = .slice (some ⟨g, 0, none⟩) n cap → ∀ j u, xs[j]? = some u → w'.cell? ((⟨g, 0, none⟩ : Addr).add j) = some u) : Sl w' w'.heap.size A xs := by
  intro hne
  rcases hown.2 with ⟨hv, h0⟩ | ⟨g, cap, cur, hv, _⟩
  · have := hown.1
    omega
  · cases hv
    have hc : ∀ j, j < xs.length → w'.cell? ⟨g, 0 + j, none⟩ = xs[j]? := fun j hj => by
      have := h g c rfl j _ (List.getElem?_eq_getElem hj)
      rw [Addr.add_lit] at this
      rw [this, List.getElem?_eq_getElem hj]
    refine ⟨g, 0, rfl, ?_, hc⟩
    have := hc 0 hne
    rw [List.getElem?_eq_getElem hne] at this
    exact World.block_lt_of_cell? w' _ this
theorem Nm.ds_nil {s : ByteArray} (h : Nm.ds s = []) : s = ⟨#[]⟩ := by
  obtain ⟨d⟩ := s
  have : d.toList = [] := by
    have h1 : d.toList.map UInt8.toNat = [] := h
    simpa using h1
  have : d = #[] := by simpa using this
  rw [this]
theorem Nm.parse_of {w : World} {v : Value} {x L : Nat} (h : Nm.Is w v x L) (hL : L ≤ 900) (W : World) (t : ByteArray) (hD : Nm.Dec (Nm.ds t)) (hn : Nm.be 10 (Nm.dv (Nm.ds t)) = x) : Calls Tryd.prog 11 #[.string t] W (Nm.ParsePost x W) := Nm.parse_any t x W (by have := Nm.text_len hD hn h.lt; omega) hD hn
theorem infoNat : (Tryd.prog.info? 27).map (fun i => (i.zero, i.size, i.bytes)) = some (some (.agg #[.slice none 0 0]), 1, 24) := by kernel_rfl
set_option maxRecDepth 100000 in
set_option maxHeartbeats 2000000 in
theorem Nm.law_any (A : Option Addr) (n c : Nat) (rs : List Nm.Lim) (w : World) (h : Nm.Arr w A n c rs) :
    Calls Tryd.prog 3 #[.slice A n c] w fun e w' => e = .returned (.bool true) ∧ Below w.heap.size w w' := by
  obtain ⟨i0, hi, hz0, hz1, hz2⟩ := info_parts infoNat
  have HOF0 := hy' (fun W => Nm.of_any 0 W (by decide))
  have HOF1 := hy' (fun W => Nm.of_any 1 W (by decide))
  have HN := hy' h.1
  have HSL := hy' h.2.1
  have HRS := hy' h.2.2
  clear h
  go_enter Tryd.func3, Tryd.ntmps3
  go_upto_region 3 with (fail)
  go_wp2_with fail
  refine (HOF0.o w).mono ?_
  rintro e w1 ⟨v0, rfl, his0, hb1⟩
  have HI0 := hy' his0
  have HB1 := hy' hb1
  obtain ⟨A0, m0, c0, l0, rfl, -⟩ := his0
  clear hb1
  go_wp2_with fail
  refine (HOF1.o w1).mono ?_
  rintro e w2 ⟨v1, rfl, his1, hb2⟩
  have HI1 := hy' his1
  have HI02 := hy' (HI0.o.below hb2)
  have HB2 := hy' (HB1.o.trans (hb2.mono HB1.o.size))
  obtain ⟨A1, m1, c1, l1, rfl, -⟩ := his1
  clear hb2
  obtain ⟨wb, hwb⟩ : ∃ wb, (w2.alloc (.cells #[.slice A0 m0 c0] 27)).alloc (.cells #[.slice A1 m1 c1] 27) = wb := ⟨_, rfl⟩
  have hs0 : (w2.alloc (.cells #[.slice A0 m0 c0] 27)).heap.size = w2.heap.size + 1 := by simp
  have hat5 : Rw.At wb w2.heap.size 27 [.slice A0 m0 c0] := by rw [← hwb]; exact (Rw.At.new w2 27 [.slice A0 m0 c0]).alloc _
  have hat6 : Rw.At wb (w2.heap.size + 1) 27 [.slice A1 m1 c1] := by rw [← hwb, ← hs0]; exact Rw.At.new _ 27 [.slice A1 m1 c1]
  have hbb : Below w2.heap.size w2 wb := by rw [← hwb]; exact (Nm.bel_alloc w2 _).alloc (by rw [hs0]; omega) _
  have hszb : wb.heap.size = w2.heap.size + 2 := by rw [← hwb]; simp
  have HWB := hy' hwb
  have HAT5 := hy' hat5
  have HAT6 := hy' hat6
  have HBB := hy' (HB2.o.trans (hbb.mono HB2.o.size))
  have HIB0 := hy' (HI02.o.below hbb)
  have HIB1 := hy' (HI1.o.below hbb)
  obtain ⟨b5, hb5⟩ : ∃ b, w2.heap.size = b := ⟨_, rfl⟩
  have HSB := hy' (show wb.heap.size = b5 + 2 by rw [hszb, hb5])
  rw [hb5] at HAT5 HAT6
  have HW5 := hy' (show w.heap.size ≤ b5 by rw [← hb5]; exact HB2.o.size)
  clear hwb hat5 hat6 hbb hs0 hszb
  go_upto_region 4 with (fail)
  rw [HWB.o]
  have hb51 : b5 + 1 < wb.heap.size := by rw [HSB.o]; omega
  clear hb5
  go_wp2_with fail
  go_loopw [3, 4, 7] (fun vb va vi wr => ∃ (k : Nat) (es : List (Value × Nat)) (lb : List Nat) (Ab : Option Addr) (nb cb : Nat) (A4 : Option Addr) (c4 : Nat) (As : Option Addr) (ms cs : Nat) (Am : Option Addr) (mm cm : Nat), vb = .slice Ab nb cb ∧ va = .slice A4 k c4 ∧ vi = .int .i64 (k : Int) ∧ k ≤ n ∧ k ≤ 8 ∧ Nm.St wr wb.heap.size b5 (b5 + 1) k es lb Ab nb A4 c4 (.slice As ms cs) (.slice Am mm cm) ∧ Below w.heap.size w wr ∧ wb.heap.size ≤ wr.heap.size) (fun _ _ vi _ => 8 - (intOf vi).toNat)
  case atStart => exact ⟨0, [], [], none, 0, 0, none, 0, A0, m0, c0, A1, m1, c1, rfl, rfl, rfl, Nat.zero_le _, by omega, ⟨rfl, rfl, by omega, Slt.nil _ _ _, rfl, World.ownsRow_nil _ _ _ _, Nm.Els.nil _ _, HAT5.o, HAT6.o, HIB0.o.more (by omega), HIB1.o.more (by omega)⟩, HBB.o, Nat.le_refl _⟩
  case round =>
    obtain ⟨k, es, lb, Ab, nb, cb, A4, c4, As, ms, cs, Am, mm, cm, rfl, rfl, rfl, hkn, hk8, hst, hbe, hsz⟩ := hrel
    obtain ⟨wq, rfl⟩ : ∃ q : World, q = wr := ⟨_, rfl⟩
    obtain ⟨hel, hlb, hnb, hsl, henc, hown, hels, hs5, hs6, hi5, hi6⟩ := hst
    have HEL := hy' hel
    have HLB := hy' hlb
    have HSB' := hy' hsl
    have HENC := hy' henc
    have HOW := hy' hown
    have HELS := hy' hels
    have HS5 := hy' hs5
    have HS6 := hy' hs6
    have HI5 := hy' hi5
    have HI6 := hy' hi6
    have HBE := hy' hbe
    clear hel hlb hsl henc hown hels hs5 hs6 hi5 hi6 hbe
    go_upto_region 5 with (fail)
    go_cut [31] (fun v wx => v = .bool (decide (k < n ∧ k < 8)) ∧ wx = wq)
    case first =>
      by_cases h1 : k < n
      · have hI : (k : Int) < n := by omega
        by_cases h2 : k < 8
        · have hI2 : (k : Int) < 8 := by omega
          go_wp2_with fail
          go_meet
          exact ⟨by simp [h1, h2], rfl⟩
        · have hI2 : ¬ (k : Int) < 8 := by omega
          go_wp2_with fail
          go_meet
          exact ⟨by simp [h1, h2], rfl⟩
      · have hI : ¬ (k : Int) < n := by omega
        go_wp2_with fail
        go_meet
        exact ⟨by simp [h1], rfl⟩
    case rest =>
    obtain ⟨rfl, hwx⟩ := hcut
    replace hwx := hwx.symm
    subst hwx
    by_cases hkk : k < n ∧ k < 8
    · rw [decide_eq_true hkk]
      obtain ⟨hk1, hk2⟩ := hkk
      obtain ⟨r, hr⟩ : ∃ r, rs[k]? = some r := ⟨_, List.getElem?_eq_getElem (by rw [HN.o]; exact hk1)⟩
      obtain ⟨Ar, nr, cr, lr⟩ := r
      obtain ⟨hr1, hr2, hr3, hr4, hr5⟩ := HRS.o _ (List.mem_of_getElem? hr)
      simp only [] at hr1 hr2 hr3 hr4 hr5
      obtain ⟨b, o, rfl, hbw, hcell⟩ := (HSL.o.belowN HBE.o (Nat.le_refl _) (Nat.le_refl _)) (by rw [List.length_map, HN.o]; omega)
      have hc := hcell k (by rw [List.length_map, HN.o]; exact hk1)
      rw [List.getElem?_map, hr, Option.map_some] at hc
      have hbq : b < wq.heap.size := Nat.lt_of_lt_of_le hbw HBE.o.size
      have hI : (k : Int) < n := by omega
      have k0 : (0 : Int) ≤ k := by omega
      have HFEW := hy' (Nm.few_any Ar nr cr w.heap.size lr wq hr1 hr2 hr3 HBE.o.size (hr5.belowN HBE.o (Nat.le_refl _) (Nat.le_refl _)))
      have HOKR := hy' (show Nm.Ok (lr.take 40) from fun d hd => hr4 d (List.mem_of_mem_take hd))
      have hlt : (lr.take 40).length ≤ 40 := by rw [List.length_take]; omega
      obtain ⟨lt, hlt'⟩ : ∃ lt, lr.take 40 = lt := ⟨_, rfl⟩
      rw [hlt'] at HFEW HOKR hlt
      obtain ⟨nt, hnt⟩ : ∃ nt, lt.length = nt := ⟨_, rfl⟩
      rw [hnt] at HFEW hlt
      have HNT := hy' hnt
      clear hr hr1 hr2 hr3 hr4 hr5 hcell hlt' hnt
      go_wp2_with fail
      refine HFEW.o.mono ?_
      rintro e w3 ⟨A3, c3, rfl, hown3, hb3⟩
      have HLM := hy' (Nm.limbs_any A3 nt c3 w3.heap.size lt w3 HNT.o (by omega) (Nat.le_refl _) HOKR.o (Sl.of_own hown3))
      have HB3 := hy' hb3
      clear hown3 hb3
      go_wp2_with fail
      refine HLM.o.mono ?_
      rintro e w4 ⟨v4, rfl, his, hb4⟩
      obtain ⟨X, hX⟩ : ∃ X, Nm.val lt = X := ⟨_, rfl⟩
      rw [hX] at his
      have HIX := hy' (his.more hlt)
      obtain ⟨Ax, mx, cx, lx, rfl, -⟩ := his
      have HB4 := hy' (HB3.o.trans (hb4.mono HB3.o.size))
      clear hX hb4 hc
      obtain ⟨w5, hw5⟩ : ∃ w5, w4.alloc (.cells #[.slice Ax mx cx] 27) = w5 := ⟨_, rfl⟩
      have hb5' : Below w4.heap.size w4 w5 := by rw [← hw5]; exact Nm.bel_alloc _ _
      have hat8 : Rw.At w5 w4.heap.size 27 [.slice Ax mx cx] := by rw [← hw5]; exact Rw.At.new w4 27 [.slice Ax mx cx]
      have HW5' := hy' hw5
      have HB5 := hy' (HB4.o.trans (hb5'.mono HB4.o.size))
      have HIX5 := hy' (HIX.o.below hb5')
      have HAT8 := hy' hat8
      obtain ⟨b8, hb8⟩ : ∃ b, w4.heap.size = b := ⟨_, rfl⟩
      rw [hb8] at HAT8
      have HB8 := hy' (show wq.heap.size ≤ b8 by rw [← hb8]; exact HB4.o.size)
      clear hw5 hb5' hat8
      go_upto_region 8 with (fail)
      rw [HW5'.o]
      have hsz5 : wq.heap.size ≤ w5.heap.size := HB5.o.size
      have HO5 := hy' (own_below HOW.o HB5.o (Nat.le_refl _))
      have HELS5 := hy' (HELS.o.below HB5.o)
      have hsz5b := Nat.le_trans hsz hsz5
      have k8 := HAT8.o.cell 0 rfl
      have l8 := HAT8.o.lt
      go_upto_region 9 with (at_builtin; refine Nm.wpList_push _ rfl _ _ _ rfl wb.heap.size 27 i0 _ 24 Tryd.underlying24 hi hz0 hz1 hz2 rfl _ k _ rfl HO5.o _ rfl rfl (by simp only [maxLen]; omega) (by omega) hsz5b ?_; intro v1 w6 hown6 hb6 hgr6; obtain ⟨A6, c6, rfl⟩ := own_form hown6; have HO6 := hy' hown6; have HB6 := hy' hb6; have HGR6 := hy' hgr6; clear hown6 hb6 hgr6)
      have hne8 : ∀ j, (Value.slice A4 k c4).ownBlock = some j → j ≠ b8 := fun j hj e => by
        have h1 := (HOW.o.lt j hj).2
        have h2 := HB8.o
        omega
      have hx8 := (HAT8.o.alloc (.cells #[.slice Ax mx cx] 27)).grown HGR6.o (fun e => hne8 _ e rfl)
      have hs56 := (HS5.o.below HB5.o).below' HB6.o (show b5 < wb.heap.size by omega)
      have hs66 := (HS6.o.below HB5.o).below' HB6.o (show b5 + 1 < wb.heap.size by omega)
      have hix6 := Nm.is_push HIX5.o HO5.o (by decide) HGR6.o
      have hi56 := Nm.is_push (HI5.o.below HB5.o) HO5.o (by decide) HGR6.o
      have hi66 := Nm.is_push (HI6.o.below HB5.o) HO5.o (by decide) HGR6.o
      have hels6 := Nm.els_push HELS5.o HO5.o (by decide) HGR6.o
      have hsl6 := Nm.slt_push (HSB'.o.below HB5.o) HO5.o (by decide) HGR6.o
      have hbe6 := HBE.o.trans ((HB5.o.mono HBE.o.size))
      have HBE6 := hy' (hbe6.trans (HB6.o.mono HBB.o.size))
      have hszb6 := Nat.le_trans hsz5b HB6.o.size
      have HX8 := hy' hx8
      have HS56 := hy' hs56
      have HS66 := hy' hs66
      have HIX6 := hy' hix6
      have HI56 := hy' hi56
      have HI66 := hy' hi66
      have HELS6 := hy' hels6
      have HSL6 := hy' hsl6
      clear hne8 hx8 hs56 hs66 hix6 hi56 hi66 hels6 hsl6 hbe6 k8 l8
      have HP1 := hy' (fun W (hW : Below w6.heap.size w6 W) => Nm.add_any (.agg #[.slice As ms cs]) (.agg #[.slice Ax mx cx]) (Nm.sm (es.map (·.2))) X (40 + k) 40 W (by omega) (by omega) (HI56.o.below hW) (HIX6.o.below hW))
      have HP3 := hy' (fun W u (hW : Below w6.heap.size w6 W) (hu : Nm.Is W u 1 2) => Nm.add_any (.agg #[.slice Ax mx cx]) u X 1 40 2 W (by omega) (by omega) (HIX6.o.below hW) hu)
      have HP4 := hy' (fun W u (hW : Below w6.heap.size w6 W) (hu : Nm.Is W u (X + 1) (max 40 2 + 1)) => Nm.mul_any (.agg #[.slice Am mm cm]) u (Nm.pr (es.map (·.2))) (X + 1) (2 + 41 * k) (max 40 2 + 1) W (by omega) (by omega) (HI66.o.below hW) hu)
      have hzd : Below w6.heap.size w6 w6.drew := (Below.refl _ _).drew
      have e0 := Stg.Keep.cells (s := fun b => b < w6.heap.size) (w := w6.drew) (HS56.o.cell 0 rfl) HS56.o.lt
      have e1 := Stg.Keep.cells (s := fun b => b < w6.heap.size) (w := w6.drew) (HX8.o.cell 0 rfl) HX8.o.lt
      have e2 := Stg.Keep.cells (s := fun b => b < w6.heap.size) (w := w6.drew) (HS66.o.cell 0 rfl) HS66.o.lt
      refine Stg.wp_regionZ (fn := fun j => Nat.ble 8 j) (Stg.Keep fun b => b < w6.heap.size) (Stg.Keep.rel _) (by kernel_rfl) ?_
      refine Stg.takeZ 0 (by kernel_rfl) (Stg.Keep.rel _) rfl ?_; intro K hK; go_big_quiet_op; go_big_quiet_on
      refine Stg.takeZ 1 (by kernel_rfl) (Stg.Keep.rel _) rfl ?_; intro K hK; go_big_quiet_op; go_big_quiet_on
      refine Stg.takeZ 3 (by kernel_rfl) (Stg.Keep.rel _) rfl ?_; intro K hK; go_big_quiet_op; go_big_quiet_on
      refine Stg.takeZ 4 (by kernel_rfl) (Stg.Keep.rel _) rfl ?_; intro K hK; go_big_quiet_op; go_big_quiet_on
      clear e0 e1 e2
      refine Stg.oneZ 2 (by kernel_rfl) ?_
      refine Stg.callZ 2 rfl 7 _ _ rfl Tryd.func7 [.agg #[.slice As ms cs], .agg #[.slice Ax mx cx]] rfl _ (HP1.o w6.drew hzd) (by kernel_rfl) ?_
      rintro e q1 ⟨v, rfl, his, hb⟩
      refine ⟨_, rfl, fun _ => Stg.Keep.of_below hb (fun q hq => Nat.lt_of_lt_of_le hq hzd.size), ?_⟩
      have hz1 := hzd.trans (hb.mono hzd.size)
      have HV1 := hy' his; obtain ⟨Aa, ma, ca, la, rfl, ra⟩ := id his; clear his ra
      clear hb
      intro A' hA'; simp only [Act.put, List.setIfInBounds_toArray, List.set_cons_succ, List.set_cons_zero] at hA'; subst hA'
      refine Stg.oneZ 5 (by kernel_rfl) ?_
      refine Stg.callZ 5 rfl 4 _ _ rfl Tryd.func4 [.int .u64 1] rfl _ (HOF1.o q1) (by kernel_rfl) ?_
      rintro e q2 ⟨v, rfl, his, hb⟩
      refine ⟨_, rfl, fun _ => Stg.Keep.of_below hb (fun q hq => Nat.lt_of_lt_of_le hq hz1.size), ?_⟩
      have hz2 := hz1.trans (hb.mono hz1.size)
      have HV12 := hy' (HV1.o.below hb); obtain ⟨Ac, mc, cc, lc, rfl, ra⟩ := id his; have HV2 := hy' his; clear his ra
      clear hb
      intro A' hA'; simp only [Act.put, List.setIfInBounds_toArray, List.set_cons_succ, List.set_cons_zero] at hA'; subst hA'
      refine Stg.oneZ 6 (by kernel_rfl) ?_
      refine Stg.callZ 6 rfl 7 _ _ rfl Tryd.func7 [.agg #[.slice Ax mx cx], .agg #[.slice Ac mc cc]] rfl _ (HP3.o q2 _ hz2 HV2.o) (by kernel_rfl) ?_
      rintro e q3 ⟨v, rfl, his, hb⟩
      refine ⟨_, rfl, fun _ => Stg.Keep.of_below hb (fun q hq => Nat.lt_of_lt_of_le hq hz2.size), ?_⟩
      have hz3 := hz2.trans (hb.mono hz2.size)
      have HV13 := hy' (HV12.o.below hb); obtain ⟨Ad, md, cd, ld, rfl, ra⟩ := id his; have HV3 := hy' his; clear his ra
      clear hb
      intro A' hA'; simp only [Act.put, List.setIfInBounds_toArray, List.set_cons_succ, List.set_cons_zero] at hA'; subst hA'
      refine Stg.oneZ 7 (by kernel_rfl) ?_
      refine Stg.callZ 7 rfl 8 _ _ rfl Tryd.func8 [.agg #[.slice Am mm cm], .agg #[.slice Ad md cd]] rfl _ (HP4.o q3 _ hz3 HV3.o) (by kernel_rfl) ?_
      rintro e q4 ⟨v, rfl, his, hb⟩
      refine ⟨_, rfl, fun _ => Stg.Keep.of_below hb (fun q hq => Nat.lt_of_lt_of_le hq hz3.size), ?_⟩
      have hz4 := hz3.trans (hb.mono hz3.size)
      have HV14 := hy' (HV13.o.below hb); obtain ⟨Ae, me, ce, le, rfl, ra⟩ := id his; have HV4 := hy' his; clear his ra
      clear hb
      intro A' hA'; simp only [Act.put, List.setIfInBounds_toArray, List.set_cons_succ, List.set_cons_zero] at hA'; subst hA'
      have g5 := HS56.o.below hz4
      have u1 := g5.cell 0 rfl
      have u2 := g5.frozen 0
      have u3 := g5.lt
      refine Stg.oneZ 8 (by kernel_rfl) ?_
      refine Stg.stepZ 8 (by kernel_rfl) rfl ?_; intro K hK; go_simp
      obtain ⟨x1, hx1⟩ : ∃ wz, q4.setCell ⟨b5, 0, none⟩ (.slice Aa ma ca) = wz := ⟨_, rfl⟩
      rw [hx1]
      refine hK _ _ (fun h => absurd h (by decide)) ?_
      intro A' hA'; subst hA'
      clear u1 u2 u3
      have t5 : Rw.At x1 b5 27 [.slice Aa ma ca] := by rw [← hx1]; exact g5.set 0 _
      have t6 : Rw.At x1 (b5 + 1) 27 [.slice Am mm cm] := by rw [← hx1]; exact (HS66.o.below hz4).other (by omega) _
      have u1 := t6.cell 0 rfl
      have u2 := t6.frozen 0
      have u3 := t6.lt
      refine Stg.oneZ 9 (by kernel_rfl) ?_
      refine Stg.stepZ 9 (by kernel_rfl) rfl ?_; intro K hK; go_simp
      obtain ⟨w7, hw7⟩ : ∃ wz, x1.setCell ⟨b5 + 1, 0, none⟩ (.slice Ae me ce) = wz := ⟨_, rfl⟩
      rw [hw7]
      refine hK _ _ (fun h => absurd h (by decide)) ?_
      intro A' hA'; subst hA'
      clear u1 u2 u3
      refine Stg.endZ (by kernel_rfl) ?_
      have nb8 : b8 ≠ b5 ∧ b8 ≠ b5 + 1 := by
        have h1 := HB8.o
        have h2 := HSB.o
        omega
      have t5' : Rw.At w7 b5 27 [.slice Aa ma ca] := by rw [← hw7]; exact t5.other (by omega) _
      have t6' : Rw.At w7 (b5 + 1) 27 [.slice Ae me ce] := by rw [← hw7]; exact t6.set 0 _
      have t8' : Rw.At w7 b8 27 [.slice Ax mx cx] := by
        rw [← hw7]
        have h1 : Rw.At x1 b8 27 [.slice Ax mx cx] := by rw [← hx1]; exact (HX8.o.below hz4).other nb8.1 _
        exact h1.other nb8.2 _
      have IS7 : ∀ v n L, Nm.Is q4 v n L → Nm.Is w7 v n L := fun v n L h => by
        rw [← hw7]
        have h1 : Nm.Is x1 v n L := by rw [← hx1]; exact h.setAt g5 (by decide) 0 _
        exact h1.setAt t6 (by decide) 0 _
      have his7 := (IS7 _ _ _ HV14.o).more (show max (40 + k) 40 + 1 ≤ 40 + (k + 1) by omega)
      have him7 := (IS7 _ _ _ HV4.o).more (show 2 + 41 * k + (max 40 2 + 1) ≤ 2 + 41 * (k + 1) by omega)
      have hix7 := IS7 _ _ _ (HIX6.o.below hz4)
      have hels7 : Nm.Els w7 es 40 := fun e he => IS7 _ _ _ ((HELS6.o.below hz4) e he)
      have hsl7 : Slt w7 5 Ab (Nm.u8s lb) := by
        rw [← hw7]
        have h1 : Slt x1 5 Ab (Nm.u8s lb) := by rw [← hx1]; exact (HSL6.o.below hz4).setAt g5 (by decide) 0 _
        exact h1.setAt t6 (by decide) 0 _
      have hown7 : w7.ownsRow wb.heap.size 27 1 (.slice A6 (k + 1) c6) (k + 1) (es.map (·.1) ++ [.slice Ax mx cx]) := by
        rw [← hw7]
        have h1 : x1.ownsRow wb.heap.size 27 1 (.slice A6 (k + 1) c6) (k + 1) (es.map (·.1) ++ [.slice Ax mx cx]) := by rw [← hx1]; exact ownsRow_setCell_below (a := ⟨b5, 0, none⟩) (own_below HO6.o hz4 (Nat.le_refl _)) (by show b5 < wb.heap.size; omega) _
        exact ownsRow_setCell_below (a := ⟨b5 + 1, 0, none⟩) h1 (by show b5 + 1 < wb.heap.size; omega) _
      have hbe7 : Below w.heap.size w w7 := by
        rw [← hw7, ← hx1]
        exact ((HBE6.o.trans (hz4.mono HBE6.o.size)).setCell (p := ⟨b5, 0, none⟩) HW5.o _).setCell (p := ⟨b5 + 1, 0, none⟩) (Nat.le_trans HW5.o (Nat.le_succ _)) _
      have hsz7 : wb.heap.size ≤ w7.heap.size := by rw [← hw7, ← hx1]; simp only [World.size_setCell]; exact Nat.le_trans hszb6 hz4.size
      rw [← Nm.sm_snoc] at his7
      rw [← Nm.pr_snoc] at him7
      have T5 := hy' t5'
      have T6 := hy' t6'
      have T8 := hy' t8'
      have IS := hy' his7
      have IM := hy' him7
      have IX := hy' hix7
      have EL := hy' hels7
      have SL := hy' hsl7
      have OW := hy' hown7
      have BE := hy' hbe7
      have HPUT := hy' (Nm.put_any Ab nb cb w7.heap.size lb (.agg #[.slice Ax mx cx]) X 40 w7 (by decide) HLB.o (by omega) (Nat.le_refl _) SL.o.sl IX.o)
      have k8 := T8.o.cell 0 rfl
      have l8 := T8.o.lt
      clear t5' t6' t8' IS7 his7 him7 hix7 hels7 hsl7 hown7 hbe7 hw7 hx1 g5 t5 t6 hz1 hz2 hz3 hz4 hzd
      go_wp2_with fail
      refine HPUT.o.mono ?_
      rintro e w8 ⟨out, A9, c9, rfl, hBE, hlen, hsl9, hb9⟩
      have SL9 := hy' hsl9
      have T59 := hy' (T5.o.below hb9)
      have T69 := hy' (T6.o.below hb9)
      have IS9 := hy' (IS.o.below hb9)
      have IM9 := hy' (IM.o.below hb9)
      have EL9 := hy' ((EL.o.snoc IX.o).below hb9)
      have OW9 := hy' (own_below OW.o hb9 (Nat.le_refl _))
      have BE9 := hy' (BE.o.trans (hb9.mono BE.o.size))
      have hsz9 := Nat.le_trans hsz7 hb9.size
      have ENC := hy' (HENC.o.snoc hBE (by omega))
      clear hsl9 hBE hb9 k8 l8
      rw [HLB.o]
      go_wp2_with fail
      exact ⟨⟨k + 1, es ++ [(.slice Ax mx cx, X)], lb ++ (Nm.be4 out.length ++ out), A9, nb + (4 + out.length), c9, A6, c6, Aa, ma, ca, Ae, me, ce, rfl, rfl, by first | rfl | go_num, hk1, hk2, ⟨by rw [List.length_append, HEL.o]; rfl, by rw [List.length_append, List.length_append, HLB.o]; rfl, by omega, SL9.o, by rw [List.map_append]; exact ENC.o, by rw [List.map_append]; exact OW9.o, EL9.o, T59.o, T69.o, by rw [List.map_append]; exact IS9.o, by rw [List.map_append]; exact IM9.o⟩, BE9.o, hsz9⟩, by first | (simp [intOf]; done) | (simp [intOf]; omega)⟩
    · rw [decide_eq_false hkk]
      clear hkk HN HSL HRS
      have HG : Hy (∀ W, Below wq.heap.size wq W → (∀ u : Stg.Later Stg.Ex W, u.val.cell? ⟨b5, 0, none⟩ = some (.slice As ms cs)) ∧ (∀ u : Stg.Later Stg.Ex W, u.val.cell? ⟨b5 + 1, 0, none⟩ = some (.slice Am mm cm))) := hy' fun W hW =>
        have h0 := HS5.o.below hW
        have h1 := HS6.o.below hW
        ⟨Stg.cells (h0.cell 0 rfl) h0.lt, Stg.cells (h1.cell 0 rfl) h1.lt⟩
      have HPA := hy' (fun W (hW : Below wq.heap.size wq W) => Nm.put_any Ab nb cb W.heap.size lb (.agg #[.slice As ms cs]) (Nm.sm (es.map (·.2))) (40 + k) W (by omega) HLB.o (by omega) (Nat.le_refl _) (HSB'.o.below hW).sl (HI5.o.below hW))
      have HPB := hy' (fun W Ap np cp lp (hW : Below wq.heap.size wq W) (hl : List.length lp = np) (hn : np ≤ 400000) (hS : Slt W 5 Ap (Nm.u8s lp)) => Nm.put_any Ap np cp W.heap.size lp (.agg #[.slice Am mm cm]) (Nm.pr (es.map (·.2))) (2 + 41 * k) W (by omega) hl (by omega) (Nat.le_refl _) hS.sl (HI6.o.below hW))
      have HQ0 := hy' (Below.refl wq.heap.size wq).drew
      go_wp2_with fail
      refine Stg.wp_region (by kernel_rfl) Stg.Ex Stg.Ex.rel ?_
      refine Stg.readW (by kernel_rfl) ?_; intro K hK; go_big_quiet_op; go_big_quiet_on
      obtain ⟨f0, f1⟩ := HG.o wq.drew HQ0.o
      refine Stg.read 0 (by kernel_rfl) wq.drew rfl ?_; intro K hK; go_big_quiet_op; go_big_quiet_on
      refine Stg.call 9 _ _ rfl Tryd.func9 [.slice Ab nb cb, .agg #[.slice As ms cs]] rfl wq.drew _ (HPA.o wq.drew HQ0.o) (by kernel_rfl) rfl ?_
      rintro e q1 ⟨out1, Ap, cp, rfl, hBE1, hlen1, hsl1, hb⟩; refine ⟨_, rfl, hb, ?_⟩; have HQ1 := hy' (HQ0.o.trans (hb.mono HQ0.o.size)); obtain ⟨np, hnp⟩ : ∃ q, lb.length + (4 + out1.length) = q := ⟨_, rfl⟩; rw [hnp]; have hnp2 : (lb ++ (Nm.be4 out1.length ++ out1)).length = np := (by rw [Nm.put_len]; exact hnp); have hnp3 : np ≤ 1600 := (by have := HLB.o; omega); have HNP2 := hy' hnp2; have HBE1 := hy' hBE1; have HSL1 := hy' hsl1; clear hnp hnp2 hBE1 hsl1; clear hb; intro A' hA'; simp only [Act.put, List.setIfInBounds_toArray, List.set_cons_succ, List.set_cons_zero] at hA'; subst hA'
      refine Stg.read 1 (by kernel_rfl) wq.drew rfl ?_; intro K hK; go_big_quiet_op; go_big_quiet_on
      refine Stg.call 9 _ _ rfl Tryd.func9 [.slice Ap np cp, .agg #[.slice Am mm cm]] rfl q1 _ (HPB.o q1 Ap np cp _ HQ1.o HNP2.o (by omega) HSL1.o) (by kernel_rfl) rfl ?_
      rintro e q2 ⟨out2, Ar, cr, rfl, hBE2, hlen2, hsl2, hb⟩; refine ⟨_, rfl, hb, ?_⟩; have HQ2 := hy' (HQ1.o.trans (hb.mono HQ1.o.size)); obtain ⟨nr, hnr⟩ : ∃ q, (lb ++ (Nm.be4 out1.length ++ out1)).length + (4 + out2.length) = q := ⟨_, rfl⟩; rw [hnr]; have hnr2 : ((lb ++ (Nm.be4 out1.length ++ out1)) ++ (Nm.be4 out2.length ++ out2)).length = nr := (by rw [Nm.put_len]; exact hnr); have hnr3 : 0 < nr ∧ nr ≤ 3000 := (by have := HNP2.o; omega); have HNR2 := hy' hnr2; have HBE2 := hy' hBE2; have HSL2 := hy' hsl2; clear hnr hnr2 hBE2 hsl2; clear hb; intro A' hA'; simp only [Act.put, List.setIfInBounds_toArray, List.set_cons_succ, List.set_cons_zero] at hA'; subst hA'
      refine Stg.readW (by kernel_rfl) ?_; intro K hK; go_big_quiet_op; go_big_quiet_on
      clear f0 f1
      refine Stg.nil q2 rfl ?_
      have hal := HQ2.o
      obtain ⟨wp, hwp⟩ : ∃ q : World, q = q2 := ⟨_, rfl⟩
      rw [← hwp] at HSL2 HQ2 hal ⊢
      clear hwp
      have HENC2 := hy' ((HENC.o.snoc HBE1.o (by omega)).snoc HBE2.o (by omega))
      obtain ⟨lz, hlz⟩ : ∃ lz, lb ++ (Nm.be4 out1.length ++ out1) ++ (Nm.be4 out2.length ++ out2) = lz := ⟨_, rfl⟩
      rw [hlz] at HENC2 HSL2 HNR2
      clear hlz
      obtain ⟨s, hs, hds⟩ := Nm.conv_sl (c := cr) HNR2.o hnr3.1 HSL2.o.sl HENC2.o.lt
      have HDS := hy' hds
      have HSP := hy' (HS5.o.below hal)
      have HMP := hy' (HS6.o.below hal)
      have HIP := hy' (HI5.o.below hal)
      have HJP := hy' (HI6.o.below hal)
      have HEP := hy' (HELS.o.below hal)
      have HOP := hy' (own_below HOW.o hal (Nat.le_refl _))
      have hbp := HBE.o.trans (hal.mono HBE.o.size)
      have HBP := hy' hbp
      have hszp := Nat.le_trans hsz hal.size
      have k5 := HSP.o.cell 0 rfl
      have l5 := HSP.o.lt
      have k6 := HMP.o.cell 0 rfl
      have l6 := HMP.o.lt
      clear hal hds hbp
      have hone : ∀ u ∈ [Value.slice As ms cs, Value.slice Am mm cm], u.oneCell' = true := fun u hu => by
        rcases List.mem_cons.1 hu with rfl | hu
        · rfl
        · rw [List.mem_singleton] at hu; subst hu; rfl
      have HONE := hy' hone
      have HNEW : Hy (∀ j u, [Value.slice As ms cs, Value.slice Am mm cm][j]? = some u → (wp.alloc (.cells #[.slice As ms cs, .slice Am mm cm] 27)).cell? ((⟨wp.heap.size, 0, none⟩ : Addr).add j) = some u) := hy' fun j u hj => by
        rw [Addr.add_lit, Nat.zero_add]
        exact (Rw.At.new wp 27 [.slice As ms cs, .slice Am mm cm]).cell j hj
      have HOPA := hy' (HOP.o.alloc (.cells #[.slice As ms cs, .slice Am mm cm] 27))
      clear hone
      go_upto_region 14 with (at_builtin; refine Nm.wpList_append2 _ rfl _ _ _ rfl wb.heap.size 27 i0 _ 1 24 Tryd.underlying24 hi hz0 hz1 hz2 rfl (by omega) _ k _ rfl HOPA.o _ 2 2 _ rfl rfl HNEW.o HONE.o (by simp only [maxLen]; omega) (by omega) (by rw [World.size_alloc]; omega) ?_; intro v1 w6 hown6 hgr6 hkeep6; have hb6 := (Below.refl wb.heap.size (wp.alloc (.cells #[.slice As ms cs, .slice Am mm cm] 27))).grown hgr6 (by rw [World.size_alloc]; omega) (fun j hj => (HOPA.o.lt j hj).1); have hall := Nm.kept HOP.o hkeep6; obtain ⟨A6, c6, rfl⟩ := own_form hown6; obtain ⟨K2, hK2⟩ : ∃ q, k + 2 = q := ⟨_, rfl⟩; rw [hK2] at hown6 ⊢; have HO6 := hy' hown6; have HB6 := hy' hb6; have HGR6 := hy' hgr6; have HK2 := hy' hK2; have HALL := hy' hall; clear hown6 hb6 hgr6 hK2 hkeep6 hall)
      -- what is kept
      have hkb5 : b5 < wb.heap.size := by omega
      have hkb6 : b5 + 1 < wb.heap.size := by omega
      have hne5 : ∀ j, (Value.slice A4 k c4).ownBlock = some j → j ≠ b5 ∧ j ≠ b5 + 1 := fun j hj => by
        have := (HOW.o.lt j hj).1
        omega
      have HS := hy' ((HSP.o.alloc (.cells #[.slice As ms cs, .slice Am mm cm] 27)).grown HGR6.o (fun e => (hne5 _ e).1 rfl))
      have HM := hy' ((HMP.o.alloc (.cells #[.slice As ms cs, .slice Am mm cm] 27)).grown HGR6.o (fun e => (hne5 _ e).2 rfl))
      have HI := hy' ((Nm.is_push HIP.o HOP.o (by decide) HGR6.o).more (show 40 + k ≤ 400 by omega))
      have HJ := hy' ((Nm.is_push HJP.o HOP.o (by decide) HGR6.o).more (show 2 + 41 * k ≤ 400 by omega))
      have HE := hy' ((Nm.els_push HEP.o HOP.o (by decide) HGR6.o).more (show 40 ≤ 400 by decide))
      have HBW := hy' (HBP.o.trans ((Nm.bel_alloc wp (.cells #[.slice As ms cs, .slice Am mm cm] 27)).mono HBP.o.size |>.trans (HB6.o.mono HBB.o.size)))
      obtain ⟨s0, hs0⟩ : ∃ x, Nm.sm (es.map (·.2)) = x := ⟨_, rfl⟩
      obtain ⟨p0, hp0⟩ : ∃ x, Nm.pr (es.map (·.2)) = x := ⟨_, rfl⟩
      have hsle : ∀ e ∈ es, e.2 ≤ s0 := fun e he => by rw [← hs0]; exact Nm.mem_sm (List.mem_map.2 ⟨e, he, rfl⟩)
      have hpdv : ∀ e ∈ es, e.2 + 1 ∣ p0 := fun e he => by rw [← hp0]; exact Nm.mem_pr (List.mem_map.2 ⟨e, he, rfl⟩)
      have hppos : 0 < p0 := by rw [← hp0]; exact Nm.pr_pos _
      obtain ⟨es2, hes2⟩ : ∃ x, es ++ [(Value.slice As ms cs, s0), (Value.slice Am mm cm, p0)] = x := ⟨_, rfl⟩
      have hel2 : es2.length = K2 := by rw [← hes2, List.length_append, HEL.o, ← HK2.o]; rfl
      have henc2 : Nm.Enc (es2.map (·.2)) lz := by
        have := HENC2.o
        rw [hs0, hp0] at this
        rw [← hes2, List.map_append]
        simpa using this
      have hrow2 : es.map (·.1) ++ [Value.slice As ms cs, Value.slice Am mm cm] = es2.map (·.1) := by rw [← hes2, List.map_append]; rfl
      rw [hs0] at HI
      rw [hp0] at HJ
      have hels2 : Nm.Els w6 es2 400 := by
        rw [← hes2]
        intro e he
        rcases List.mem_append.1 he with he | he
        · exact HE.o e he
        · rcases List.mem_cons.1 he with rfl | he
          · exact HI.o
          · rw [List.mem_singleton] at he; subst he; exact HJ.o
      rw [hrow2] at HO6
      have HEL2 := hy' hel2
      have HN2 := hy' henc2
      have HELS2 := hy' hels2
      have HSLE := hy' hsle
      have HPDV := hy' hpdv
      have HPP := hy' hppos
      -- the bytes' number
      have hlz : lz.length ≤ 3000 := by rw [HNR2.o]; exact hnr3.2
      clear hs0 hp0 hsle hpdv hppos hes2 hel2 henc2 hrow2 hels2 hne5 hs k5 l5 k6 l6 HENC HENC2 HSB' HPA HPB HSL1 HSL2 HBE1 HBE2 HG HS5 HS6 HI5 HI6 HELS HOW
      go_loopw [9, 68] (fun v9 v68 wr => ∃ (i : Nat) (s1 : ByteArray), v9 = .string s1 ∧ v68 = .int .i64 (i : Int) ∧ i ≤ K2 ∧ Nm.Enc ((es2.map (·.2)).drop i) (Nm.ds s1) ∧ (Nm.ds s1).length ≤ 3000 ∧ Below w6.heap.size w6 wr) (fun _ v68 _ => K2 - (intOf v68).toNat)
      case atStart => exact ⟨0, s, rfl, rfl, Nat.zero_le _, by rw [HDS.o]; exact HN2.o, by rw [HDS.o]; exact hlz, Below.refl _ _⟩
      case round =>
        obtain ⟨i, s1, rfl, rfl, hiK, henc, hlen, hbe⟩ := hrel
        obtain ⟨wr2, rfl⟩ : ∃ q : World, q = wr := ⟨_, rfl⟩
        have HEN := hy' henc
        have HBE2 := hy' hbe
        clear henc hbe
        have hK10 : K2 ≤ 10 := by have := HK2.o; omega
        by_cases hik : i < K2
        · have hI : (i : Int) < K2 := by omega
          have i0' : (0 : Int) ≤ i := by omega
          obtain ⟨e, he⟩ : ∃ e, es2[i]? = some e := ⟨_, List.getElem?_eq_getElem (by rw [HEL2.o]; exact hik)⟩
          obtain ⟨v, x⟩ := e
          have hise := (HELS2.o _ (List.mem_of_getElem? he)).below HBE2.o
          simp only [] at hise
          obtain ⟨Av, mv, cv, hvv⟩ := hise.shape
          obtain rfl : v = .slice Av mv cv := by simpa using hvv
          obtain ⟨out, rest, hd, hBE, hol, hrest⟩ := HEN.o.at (n := x) (by rw [List.getElem?_map, he]; rfl)
          obtain ⟨b, o, hA6, hbw, hcell⟩ := (Sl.of_own (own_below HO6.o HBE2.o (Nat.le_refl _))) (by rw [List.length_map, HEL2.o]; omega)
          subst hA6
          have hc := hcell i (by rw [List.length_map, HEL2.o]; exact hik)
          rw [List.getElem?_map, he, Option.map_some] at hc
          have HISE := hy' hise
          have HREST := hy' hrest
          have HBEO := hy' hBE
          have HD := hy' hd
          clear hise hvv hd hBE hrest he hcell
          have hbq : b < wr2.heap.size := hbw
          have HTK := hy' (fun W => Nm.take2_any s1 out.length out rest W rfl (by omega) (by rw [← Nm.ds_len s1]; omega) HD.o HBEO.o.2.1)
          have HTX := hy' (fun W u (hu : Nm.Is W u x 750) => Nm.text_any u x 750 W (by decide) hu)
          have HPS := hy' (fun W (t : ByteArray) (hD : Nm.Dec (Nm.ds t)) (hn : Nm.be 10 (Nm.dv (Nm.ds t)) = x) => Nm.parse_of HISE.o (by decide) W t hD hn)
          have HSA := hy' (fun W u L (hu : Nm.Is W u x L) (hL : L ≤ 1000000) (h2 : Nm.Is W (.agg #[.slice Av mv cv]) x 400) => Nm.same_any u (.agg #[.slice Av mv cv]) x x L 400 W hL hu h2)
          go_upto_region 16 with (fail)
          obtain ⟨wa, hwa⟩ : ∃ wa, wr2.alloc (.cells #[.slice Av mv cv] 27) = wa := ⟨_, rfl⟩
          have hba : Below wr2.heap.size wr2 wa := by rw [← hwa]; exact Nm.bel_alloc _ _
          have hat : Rw.At wa wr2.heap.size 27 [.slice Av mv cv] := by rw [← hwa]; exact Rw.At.new wr2 27 [.slice Av mv cv]
          have HWA := hy' hwa
          have HBA := hy' (HBE2.o.trans (hba.mono HBE2.o.size))
          have HAT11 := hy' hat
          have HE1 := hy' (HISE.o.below hba)
          clear hwa hba hat hc
          rw [HWA.o]
          go_wp2_with fail
          refine (HTK.o wa).mono ?_
          rintro e w1' ⟨v1, s2, rfl, his1, hds2, hb1⟩
          have HAT11a := hy' (HAT11.o.below hb1)
          have HE2 := hy' (HE1.o.below hb1)
          have HBA2 := hy' (HBA.o.trans (hb1.mono HBA.o.size))
          have hxe : Nm.be 256 out = x := HBEO.o.1
          rw [hxe] at his1
          have his1' := his1.more (show (out.length + 3) / 4 ≤ 750 by omega)
          obtain ⟨Aq, mq, cq, lq, rfl, -⟩ := id his1'
          have HI1' := hy' his1'
          have HDS2 := hy' hds2
          clear his1 his1' hb1 hds2 hxe
          go_upto_region 17 with (fail)
          obtain ⟨wc, hwc⟩ : ∃ wc, w1'.alloc (.cells #[.slice Aq mq cq] 27) = wc := ⟨_, rfl⟩
          have hbc : Below w1'.heap.size w1' wc := by rw [← hwc]; exact Nm.bel_alloc _ _
          have hat12 : Rw.At wc w1'.heap.size 27 [.slice Aq mq cq] := by rw [← hwc]; exact Rw.At.new w1' 27 [.slice Aq mq cq]
          have HWC := hy' hwc
          have HAT11c := hy' (HAT11a.o.below hbc)
          have HAT12 := hy' hat12
          have HE3 := hy' (HE2.o.below hbc)
          have HBA3 := hy' (HBA2.o.trans (hbc.mono HBA2.o.size))
          have HI1c := hy' (HI1'.o.below hbc)
          have k12 := hat12.cell 0 rfl
          have l12 := hat12.lt
          clear hwc hat12 hbc
          rw [HWC.o]
          go_wp2_with fail
          refine (HTX.o wc _ HI1c.o).mono ?_
          rintro e w2' ⟨tx, rfl, hdec, hval, hb2'⟩
          have HAT11d := hy' (HAT11c.o.below hb2')
          have HAT12d := hy' (HAT12.o.below hb2')
          have HE4 := hy' (HE3.o.below hb2')
          have HBA4 := hy' (HBA3.o.trans (hb2'.mono HBA3.o.size))
          have HI1d := hy' (HI1c.o.below hb2')
          have HPS2 := hy' (fun W => HPS.o W tx hdec hval)
          clear hdec hval hb2' k12 l12
          go_wp2_with fail
          refine (HPS2.o w2').mono ?_
          rintro e w3' ⟨v3, rfl, his3, hb3'⟩
          have HAT11e := hy' (HAT11d.o.below hb3')
          have HAT12e := hy' (HAT12d.o.below hb3')
          have HE5 := hy' (HE4.o.below hb3')
          have HBA5 := hy' (HBA4.o.trans (hb3'.mono HBA4.o.size))
          have HI1e := hy' (HI1d.o.below hb3')
          obtain ⟨At, mt, ct, lt, rfl, -⟩ := id his3
          have HI3' := hy' his3
          clear his3 hb3'
          go_upto_region 18 with (fail)
          obtain ⟨wd, hwd⟩ : ∃ wd, w3'.alloc (.cells #[.slice At mt ct] 27) = wd := ⟨_, rfl⟩
          have hbd : Below w3'.heap.size w3' wd := by rw [← hwd]; exact Nm.bel_alloc _ _
          have hat15 : Rw.At wd w3'.heap.size 27 [.slice At mt ct] := by rw [← hwd]; exact Rw.At.new w3' 27 [.slice At mt ct]
          have HWD := hy' hwd
          have HAT11f := hy' (HAT11e.o.below hbd)
          have HAT12f := hy' (HAT12e.o.below hbd)
          have HAT15 := hy' hat15
          have HE6 := hy' (HE5.o.below hbd)
          have HBA6 := hy' (HBA5.o.trans (hbd.mono HBA5.o.size))
          have HI1f := hy' (HI1e.o.below hbd)
          have HI3f := hy' (HI3'.o.below hbd)
          have k11 := HAT11f.o.cell 0 rfl
          have l11 := HAT11f.o.lt
          have k12 := HAT12f.o.cell 0 rfl
          have l12 := HAT12f.o.lt
          clear hwd hat15 hbd
          rw [HWD.o]
          go_wp2_with fail
          refine (HSA.o wd _ 750 HI1f.o (by decide) HE6.o).mono ?_
          rintro e w4' ⟨rfl, hb4'⟩
          rw [show decide True = true from rfl]
          have HAT11g := hy' (HAT11f.o.below hb4')
          have HAT15g := hy' (HAT15.o.below hb4')
          have HE7 := hy' (HE6.o.below hb4')
          have HBA7 := hy' (HBA6.o.trans (hb4'.mono HBA6.o.size))
          have HI3g := hy' (HI3f.o.below hb4')
          clear hb4' k11 l11 k12 l12
          have k11 := HAT11g.o.cell 0 rfl
          have l11 := HAT11g.o.lt
          have k15 := HAT15g.o.cell 0 rfl
          have l15 := HAT15g.o.lt
          go_wp2_with fail
          refine (HSA.o w4' _ 20000 HI3g.o (by decide) HE7.o).mono ?_
          rintro e w5' ⟨rfl, hb5'⟩
          rw [show decide True = true from rfl]
          have HBA8 := hy' (HBA7.o.trans (hb5'.mono HBA7.o.size))
          clear hb5' k11 l11 k15 l15
          go_wp2_with fail
          have hd2 := HDS2.o
          have hlen2 : (Nm.ds s2).length ≤ 3000 := by
            have h1 := congrArg List.length HD.o
            rw [List.length_append, List.length_append] at h1
            rw [hd2]
            omega
          exact ⟨⟨i + 1, s2, rfl, by first | rfl | go_num, hik, by rw [hd2]; exact HREST.o, hlen2, HBA8.o⟩, by first | (simp [intOf]; done) | (simp [intOf]; omega)⟩
        · obtain rfl : i = K2 := by omega
          have hI : ¬ (i : Int) < i := by omega
          have hemp : Nm.ds s1 = [] := by
            have h1 := HEN.o
            rw [List.drop_eq_nil_of_le (by rw [List.length_map, HEL2.o]; exact Nat.le_refl _)] at h1
            exact h1
          obtain rfl := Nm.ds_nil hemp
          clear hemp HEN hlen
          go_wp2_with fail
          go_loopw [106] (fun v106 wr => ∃ (j : Nat), v106 = .int .i64 (j : Int) ∧ j ≤ k ∧ Below w6.heap.size w6 wr) (fun v106 _ => k - (intOf v106).toNat)
          case atStart => exact ⟨0, rfl, Nat.zero_le _, HBE2.o⟩
          case round =>
            obtain ⟨j, rfl, hjk, hbe⟩ := hrel
            obtain ⟨wx, rfl⟩ : ∃ q : World, q = wr := ⟨_, rfl⟩
            have HBX := hy' hbe
            clear hbe
            have HXS := hy' (HS.o.below HBX.o)
            have HXM := hy' (HM.o.below HBX.o)
            have HXI := hy' (HI.o.below HBX.o)
            have HXJ := hy' (HJ.o.below HBX.o)
            by_cases hjk2 : j < k
            · have hI3 : (j : Int) < k := by omega
              have j0 : (0 : Int) ≤ j := by omega
              obtain ⟨e, he⟩ : ∃ e, es[j]? = some e := ⟨_, List.getElem?_eq_getElem (by rw [HEL.o]; exact hjk2)⟩
              obtain ⟨v, x⟩ := e
              have hise := (HE.o _ (List.mem_of_getElem? he)).below HBX.o
              simp only [] at hise
              obtain ⟨Av, mv, cv, hvv⟩ := hise.shape
              obtain rfl : v = .slice Av mv cv := by simpa using hvv
              have hxs := HSLE.o _ (List.mem_of_getElem? he)
              have hxp := HPDV.o _ (List.mem_of_getElem? he)
              simp only [] at hxs hxp
              obtain ⟨b, o, hA4, hbw, hcell⟩ := (HALL.o.belowN HBX.o (Nat.le_refl _) (Nat.le_refl _)) (by rw [List.length_map, HEL.o]; omega)
              subst hA4
              have hc := hcell j (by rw [List.length_map, HEL.o]; exact hjk2)
              rw [List.getElem?_map, he, Option.map_some] at hc
              have hbq : b < wx.heap.size := Nat.lt_of_lt_of_le hbw HBX.o.size
              have HISE := hy' hise
              have HXS0 := hy' hxs
              have HXP := hy' hxp
              clear hise hvv he hcell hxs hxp
              go_upto_region 25 with (fail)
              obtain ⟨we, hwe⟩ : ∃ we, wx.alloc (.cells #[.slice Av mv cv] 27) = we := ⟨_, rfl⟩
              have hbe : Below wx.heap.size wx we := by rw [← hwe]; exact Nm.bel_alloc _ _
              have hat18 : Rw.At we wx.heap.size 27 [.slice Av mv cv] := by rw [← hwe]; exact Rw.At.new wx 27 [.slice Av mv cv]
              have HWE := hy' hwe
              have HE18 := hy' hat18
              have HBX2 := hy' (HBX.o.trans (hbe.mono HBX.o.size))
              have HES := hy' (HXS.o.below hbe)
              have HEM := hy' (HXM.o.below hbe)
              have HEI := hy' (HXI.o.below hbe)
              have HEJ := hy' (HXJ.o.below hbe)
              have HEX := hy' (HISE.o.below hbe)
              clear hwe hat18 hbe hc
              rw [HWE.o]
              obtain ⟨b18, hb18⟩ : ∃ b, wx.heap.size = b := ⟨_, rfl⟩
              rw [hb18] at HE18 ⊢
              clear hb18
              have HAD := hy' (fun W u (hW : Below we.heap.size we W) (hu : Nm.Is W u 1 2) => Nm.add_any (.agg #[.slice Av mv cv]) u x 1 400 2 W (by decide) (by decide) (HEX.o.below hW) hu)
              have HDV := hy' (fun W u (hW : Below we.heap.size we W) (hu : Nm.Is W u (x + 1) (max 400 2 + 1)) => Nm.div_any (.agg #[.slice Am mm cm]) u p0 (x + 1) 400 (max 400 2 + 1) W (by decide) (by decide) (Nat.succ_pos x) (HEJ.o.below hW) hu)
              go_cut [19, 20, 21] (fun s19 s20 s21 wy => ∃ (g9 g10 : Nat) (Aq : Option Addr) (mq cq : Nat) (Ar : Option Addr) (mr cr : Nat), s19 = .pointer (some ⟨g9, 0, none⟩) ∧ s20 = .pointer (some ⟨g10, 0, none⟩) ∧ s21 = .int .i64 0 ∧ Rw.At wy g9 27 [.slice Aq mq cq] ∧ Rw.At wy g10 27 [.slice Ar mr cr] ∧ Nm.Is wy (.agg #[.slice Aq mq cq]) (p0 / (x + 1)) 400 ∧ Nm.Is wy (.agg #[.slice Ar mr cr]) (p0 % (x + 1)) 400 ∧ we.heap.size ≤ g9 ∧ we.heap.size ≤ g10 ∧ Below we.heap.size we wy)
              case first =>
                refine Stg.wp_regionZ (fn := fun _ => false) (Stg.Keep fun b => b < we.heap.size) (Stg.Keep.rel _) (by kernel_rfl) ?_
                have hzd : Below we.heap.size we we.drew := (Below.refl _ _).drew
                have e1 := Stg.Keep.cells (s := fun b => b < we.heap.size) (w := we.drew) (HEM.o.cell 0 rfl) HEM.o.lt
                have e2 := Stg.Keep.cells (s := fun b => b < we.heap.size) (w := we.drew) (HE18.o.cell 0 rfl) HE18.o.lt
                refine Stg.takeZ 0 (by kernel_rfl) (Stg.Keep.rel _) rfl ?_; intro K hK; go_big_quiet_op; go_big_quiet_on
                refine Stg.takeZ 1 (by kernel_rfl) (Stg.Keep.rel _) rfl ?_; intro K hK; go_big_quiet_op; go_big_quiet_on
                clear e1 e2
                refine Stg.threeZ 2 9 10 (by kernel_rfl) ?_ ?_ ?_
                · skip
                  refine Stg.callZ 2 rfl 4 _ _ rfl Tryd.func4 [.int .u64 1] rfl _ (HOF1.o we.drew) (by kernel_rfl) ?_
                  rintro e x1 ⟨v1, rfl, his1, hb1⟩
                  obtain ⟨A1, m1, k1, l1, rfl, rr1⟩ := id his1
                  clear rr1
                  refine ⟨_, rfl, fun _ => (Stg.Keep.of_below hb1 (fun q hq => Nat.lt_of_lt_of_le hq hzd.size)), ?_⟩
                  intro A' hA'; simp only [Act.put, List.setIfInBounds_toArray, List.set_cons_succ, List.set_cons_zero] at hA'; subst hA'
                  have hz1 := hzd.trans (hb1.mono hzd.size)
                  refine Stg.threeZ 3 9 10 (by kernel_rfl) ?_ ?_ ?_
                  · skip
                    refine Stg.callZ 3 rfl 7 _ _ rfl Tryd.func7 [.agg #[.slice Av mv cv], .agg #[.slice A1 m1 k1]] rfl _ (HAD.o x1 _ hz1 his1) (by kernel_rfl) ?_
                    rintro e x2 ⟨v2, rfl, his2, hb2⟩
                    obtain ⟨A2, m2, k2, l2, rfl, rr2⟩ := id his2
                    clear rr2
                    refine ⟨_, rfl, fun _ => (Stg.Keep.of_below hb2 (fun q hq => Nat.lt_of_lt_of_le hq hz1.size)), ?_⟩
                    intro A' hA'; simp only [Act.put, List.setIfInBounds_toArray, List.set_cons_succ, List.set_cons_zero] at hA'; subst hA'
                    have cu2 := his1.below hb2
                    have hz2 := hz1.trans (hb2.mono hz1.size)
                    refine Stg.threeZ 4 9 10 (by kernel_rfl) ?_ ?_ ?_
                    · skip
                      refine Stg.callZ 4 rfl 14 _ _ rfl Tryd.func14 [.agg #[.slice Am mm cm], .agg #[.slice A2 m2 k2]] rfl _ (HDV.o x2 _ hz2 his2) (by kernel_rfl) ?_
                      rintro e x3 ⟨vq3, vr3, rfl, hisq3, hisr3, hb3⟩
                      obtain ⟨Aq3, mq3, kq3, lq3, rfl, rq3⟩ := id hisq3
                      obtain ⟨Ar3, mr3, kr3, lr3, rfl, rr3⟩ := id hisr3
                      clear rq3 rr3
                      refine ⟨_, rfl, fun _ => (Stg.Keep.of_below hb3 (fun q hq => Nat.lt_of_lt_of_le hq hz2.size)), ?_⟩
                      intro A' hA'; simp only [Act.put, List.setIfInBounds_toArray, List.set_cons_succ, List.set_cons_zero] at hA'; subst hA'
                      have cu3 := his2.below hb3
                      have hz3 := hz2.trans (hb3.mono hz2.size)
                      refine Stg.takeZ 5 (by kernel_rfl) (Stg.Keep.rel _) rfl ?_; intro K hK; go_big_quiet_op; go_big_quiet_on
                      refine Stg.takeZ 6 (by kernel_rfl) (Stg.Keep.rel _) rfl ?_; intro K hK; go_big_quiet_op; go_big_quiet_on
                      refine Stg.takeZ 7 (by kernel_rfl) (Stg.Keep.rel _) rfl ?_; intro K hK; go_big_quiet_op; go_big_quiet_on
                      refine Stg.takeZ 8 (by kernel_rfl) (Stg.Keep.rel _) rfl ?_; intro K hK; go_big_quiet_op; go_big_quiet_on
                      refine Stg.twoZ 9 10 (by kernel_rfl) ?_ ?_
                      · skip
                        refine Stg.stepZ 9 (by kernel_rfl) rfl ?_; intro K hK; go_simp
                        obtain ⟨x4, hw4⟩ : ∃ wz, x3.alloc (.cells #[.slice none 0 0] 27) = wz := ⟨_, rfl⟩
                        have hb4 : Below x3.heap.size x3 x4 := by rw [← hw4]; exact Nm.bel_alloc x3 _
                        have hat4 : Rw.At x4 x3.heap.size 27 [.slice none 0 0] := by rw [← hw4]; exact Rw.At.new x3 27 [.slice none 0 0]
                        rw [hw4]
                        refine hK _ _ (fun _ => (Stg.Keep.of_below hb4 (fun q hq => Nat.lt_of_lt_of_le hq hz3.size))) ?_
                        intro A' hA'; subst hA'
                        have cq4 := hisq3.below hb4
                        have cr4 := hisr3.below hb4
                        have hz4 := hz3.trans (hb4.mono hz3.size)
                        clear hw4
                        refine Stg.oneZ 10 (by kernel_rfl) ?_
                        refine Stg.stepZ 10 (by kernel_rfl) rfl ?_; intro K hK; go_simp
                        obtain ⟨x5, hw5⟩ : ∃ wz, x4.alloc (.cells #[.slice none 0 0] 27) = wz := ⟨_, rfl⟩
                        have hb5 : Below x4.heap.size x4 x5 := by rw [← hw5]; exact Nm.bel_alloc x4 _
                        have hat5 : Rw.At x5 x4.heap.size 27 [.slice none 0 0] := by rw [← hw5]; exact Rw.At.new x4 27 [.slice none 0 0]
                        rw [hw5]
                        refine hK _ _ (fun _ => (Stg.Keep.of_below hb5 (fun q hq => Nat.lt_of_lt_of_le hq hz4.size))) ?_
                        intro A' hA'; subst hA'
                        have cat95 := hat4.below hb5
                        have cq5 := cq4.below hb5
                        have cr5 := cr4.below hb5
                        have hz5 := hz4.trans (hb5.mono hz4.size)
                        clear hw5
                        have lt6 := hat4.lt
                        have ne7 : x4.heap.size ≠ x3.heap.size := Nat.ne_of_gt lt6
                        refine Stg.oneZ 11 (by kernel_rfl) ?_
                        have u18 := cat95.cell 0 rfl
                        have u28 := cat95.frozen 0
                        have u38 := cat95.lt
                        refine Stg.stepZ 11 (by kernel_rfl) rfl ?_; intro K hK; go_simp
                        obtain ⟨x8, hw8⟩ : ∃ wz, x5.setCell ⟨x3.heap.size, 0, none⟩ (.slice Aq3 mq3 kq3) = wz := ⟨_, rfl⟩
                        have hs8 : Rw.At x8 x3.heap.size 27 [.slice Aq3 mq3 kq3] := by rw [← hw8]; exact cat95.set 0 (.slice Aq3 mq3 kq3)
                        have ho8 : Rw.At x8 x4.heap.size 27 [.slice none 0 0] := by rw [← hw8]; exact hat5.other ne7 _
                        have hq8 := cq5.setAt cat95 (by decide) 0 (.slice Aq3 mq3 kq3)
                        have hr8 := cr5.setAt cat95 (by decide) 0 (.slice Aq3 mq3 kq3)
                        have hz8 := hz5.setCell (p := ⟨x3.heap.size, 0, none⟩) hz3.size (.slice Aq3 mq3 kq3)
                        rw [hw8] at hq8 hr8 hz8
                        rw [hw8]
                        refine hK _ _ (fun _ => by rw [← hw8]; exact Stg.Keep.of_grown (Rw.grown_set _ _ _) (fun q hq => ⟨Nat.lt_of_lt_of_le hq hz5.size, fun e => by cases e; exact absurd hq (Nat.not_lt.2 hz3.size)⟩)) ?_
                        intro A' hA'; subst hA'
                        clear hw8 u18 u28 u38
                        refine Stg.oneZ 12 (by kernel_rfl) ?_
                        have u19 := ho8.cell 0 rfl
                        have u29 := ho8.frozen 0
                        have u39 := ho8.lt
                        refine Stg.stepZ 12 (by kernel_rfl) rfl ?_; intro K hK; go_simp
                        obtain ⟨x9, hw9⟩ : ∃ wz, x8.setCell ⟨x4.heap.size, 0, none⟩ (.slice Ar3 mr3 kr3) = wz := ⟨_, rfl⟩
                        have hs9 : Rw.At x9 x4.heap.size 27 [.slice Ar3 mr3 kr3] := by rw [← hw9]; exact ho8.set 0 (.slice Ar3 mr3 kr3)
                        have ho9 : Rw.At x9 x3.heap.size 27 [.slice Aq3 mq3 kq3] := by rw [← hw9]; exact hs8.other ne7.symm _
                        have hq9 := hq8.setAt ho8 (by decide) 0 (.slice Ar3 mr3 kr3)
                        have hr9 := hr8.setAt ho8 (by decide) 0 (.slice Ar3 mr3 kr3)
                        have hz9 := hz8.setCell (p := ⟨x4.heap.size, 0, none⟩) hz4.size (.slice Ar3 mr3 kr3)
                        rw [hw9] at hq9 hr9 hz9
                        rw [hw9]
                        refine hK _ _ (fun _ => by rw [← hw9]; exact Stg.Keep.of_grown (Rw.grown_set _ _ _) (fun q hq => ⟨Nat.lt_of_lt_of_le hq hz8.size, fun e => by cases e; exact absurd hq (Nat.not_lt.2 hz4.size)⟩)) ?_
                        intro A' hA'; subst hA'
                        clear hw9 u19 u29 u39
                        refine Stg.takeZ 13 (by kernel_rfl) (Stg.Keep.rel _) rfl ?_; intro K hK; go_big_quiet_op; go_big_quiet_on
                        refine Stg.endZ (by kernel_rfl) ?_
                        go_wp2_with fail
                        go_meet
                        exact ⟨_, _, Aq3, mq3, kq3, Ar3, mr3, kr3, rfl, rfl, rfl, ho9, hs9, hq9, hr9, hz3.size, hz4.size, hz9⟩
                      · skip
                        refine Stg.stepZ 10 (by kernel_rfl) rfl ?_; intro K hK; go_simp
                        obtain ⟨x10, hw10⟩ : ∃ wz, x3.alloc (.cells #[.slice none 0 0] 27) = wz := ⟨_, rfl⟩
                        have hb10 : Below x3.heap.size x3 x10 := by rw [← hw10]; exact Nm.bel_alloc x3 _
                        have hat10 : Rw.At x10 x3.heap.size 27 [.slice none 0 0] := by rw [← hw10]; exact Rw.At.new x3 27 [.slice none 0 0]
                        rw [hw10]
                        refine hK _ _ (fun _ => (Stg.Keep.of_below hb10 (fun q hq => Nat.lt_of_lt_of_le hq hz3.size))) ?_
                        intro A' hA'; subst hA'
                        have cq10 := hisq3.below hb10
                        have cr10 := hisr3.below hb10
                        have hz10 := hz3.trans (hb10.mono hz3.size)
                        clear hw10
                        refine Stg.oneZ 9 (by kernel_rfl) ?_
                        refine Stg.stepZ 9 (by kernel_rfl) rfl ?_; intro K hK; go_simp
                        obtain ⟨x11, hw11⟩ : ∃ wz, x10.alloc (.cells #[.slice none 0 0] 27) = wz := ⟨_, rfl⟩
                        have hb11 : Below x10.heap.size x10 x11 := by rw [← hw11]; exact Nm.bel_alloc x10 _
                        have hat11 : Rw.At x11 x10.heap.size 27 [.slice none 0 0] := by rw [← hw11]; exact Rw.At.new x10 27 [.slice none 0 0]
                        rw [hw11]
                        refine hK _ _ (fun _ => (Stg.Keep.of_below hb11 (fun q hq => Nat.lt_of_lt_of_le hq hz10.size))) ?_
                        intro A' hA'; subst hA'
                        have cat1011 := hat10.below hb11
                        have cq11 := cq10.below hb11
                        have cr11 := cr10.below hb11
                        have hz11 := hz10.trans (hb11.mono hz10.size)
                        clear hw11
                        have lt12 := hat10.lt
                        have ne13 : x3.heap.size ≠ x10.heap.size := Nat.ne_of_lt lt12
                        refine Stg.oneZ 11 (by kernel_rfl) ?_
                        have u114 := hat11.cell 0 rfl
                        have u214 := hat11.frozen 0
                        have u314 := hat11.lt
                        refine Stg.stepZ 11 (by kernel_rfl) rfl ?_; intro K hK; go_simp
                        obtain ⟨x14, hw14⟩ : ∃ wz, x11.setCell ⟨x10.heap.size, 0, none⟩ (.slice Aq3 mq3 kq3) = wz := ⟨_, rfl⟩
                        have hs14 : Rw.At x14 x10.heap.size 27 [.slice Aq3 mq3 kq3] := by rw [← hw14]; exact hat11.set 0 (.slice Aq3 mq3 kq3)
                        have ho14 : Rw.At x14 x3.heap.size 27 [.slice none 0 0] := by rw [← hw14]; exact cat1011.other ne13 _
                        have hq14 := cq11.setAt hat11 (by decide) 0 (.slice Aq3 mq3 kq3)
                        have hr14 := cr11.setAt hat11 (by decide) 0 (.slice Aq3 mq3 kq3)
                        have hz14 := hz11.setCell (p := ⟨x10.heap.size, 0, none⟩) hz10.size (.slice Aq3 mq3 kq3)
                        rw [hw14] at hq14 hr14 hz14
                        rw [hw14]
                        refine hK _ _ (fun _ => by rw [← hw14]; exact Stg.Keep.of_grown (Rw.grown_set _ _ _) (fun q hq => ⟨Nat.lt_of_lt_of_le hq hz11.size, fun e => by cases e; exact absurd hq (Nat.not_lt.2 hz10.size)⟩)) ?_
                        intro A' hA'; subst hA'
                        clear hw14 u114 u214 u314
                        refine Stg.oneZ 12 (by kernel_rfl) ?_
                        have u115 := ho14.cell 0 rfl
                        have u215 := ho14.frozen 0
                        have u315 := ho14.lt
                        refine Stg.stepZ 12 (by kernel_rfl) rfl ?_; intro K hK; go_simp
                        obtain ⟨x15, hw15⟩ : ∃ wz, x14.setCell ⟨x3.heap.size, 0, none⟩ (.slice Ar3 mr3 kr3) = wz := ⟨_, rfl⟩
                        have hs15 : Rw.At x15 x3.heap.size 27 [.slice Ar3 mr3 kr3] := by rw [← hw15]; exact ho14.set 0 (.slice Ar3 mr3 kr3)
                        have ho15 : Rw.At x15 x10.heap.size 27 [.slice Aq3 mq3 kq3] := by rw [← hw15]; exact hs14.other ne13.symm _
                        have hq15 := hq14.setAt ho14 (by decide) 0 (.slice Ar3 mr3 kr3)
                        have hr15 := hr14.setAt ho14 (by decide) 0 (.slice Ar3 mr3 kr3)
                        have hz15 := hz14.setCell (p := ⟨x3.heap.size, 0, none⟩) hz3.size (.slice Ar3 mr3 kr3)
                        rw [hw15] at hq15 hr15 hz15
                        rw [hw15]
                        refine hK _ _ (fun _ => by rw [← hw15]; exact Stg.Keep.of_grown (Rw.grown_set _ _ _) (fun q hq => ⟨Nat.lt_of_lt_of_le hq hz14.size, fun e => by cases e; exact absurd hq (Nat.not_lt.2 hz3.size)⟩)) ?_
                        intro A' hA'; subst hA'
                        clear hw15 u115 u215 u315
                        refine Stg.takeZ 13 (by kernel_rfl) (Stg.Keep.rel _) rfl ?_; intro K hK; go_big_quiet_op; go_big_quiet_on
                        refine Stg.endZ (by kernel_rfl) ?_
                        go_wp2_with fail
                        go_meet
                        exact ⟨_, _, Aq3, mq3, kq3, Ar3, mr3, kr3, rfl, rfl, rfl, ho15, hs15, hq15, hr15, hz10.size, hz3.size, hz15⟩
                    · skip
                      refine Stg.stepZ 9 (by kernel_rfl) rfl ?_; intro K hK; go_simp
                      obtain ⟨x16, hw16⟩ : ∃ wz, x2.alloc (.cells #[.slice none 0 0] 27) = wz := ⟨_, rfl⟩
                      have hb16 : Below x2.heap.size x2 x16 := by rw [← hw16]; exact Nm.bel_alloc x2 _
                      have hat16 : Rw.At x16 x2.heap.size 27 [.slice none 0 0] := by rw [← hw16]; exact Rw.At.new x2 27 [.slice none 0 0]
                      rw [hw16]
                      refine hK _ _ (fun _ => (Stg.Keep.of_below hb16 (fun q hq => Nat.lt_of_lt_of_le hq hz2.size))) ?_
                      intro A' hA'; subst hA'
                      have cu16 := his2.below hb16
                      have hz16 := hz2.trans (hb16.mono hz2.size)
                      clear hw16
                      refine Stg.twoZ 4 10 (by kernel_rfl) ?_ ?_
                      · skip
                        refine Stg.callZ 4 rfl 14 _ _ rfl Tryd.func14 [.agg #[.slice Am mm cm], .agg #[.slice A2 m2 k2]] rfl _ (HDV.o x16 _ hz16 cu16) (by kernel_rfl) ?_
                        rintro e x17 ⟨vq17, vr17, rfl, hisq17, hisr17, hb17⟩
                        obtain ⟨Aq17, mq17, kq17, lq17, rfl, rq17⟩ := id hisq17
                        obtain ⟨Ar17, mr17, kr17, lr17, rfl, rr17⟩ := id hisr17
                        clear rq17 rr17
                        refine ⟨_, rfl, fun _ => (Stg.Keep.of_below hb17 (fun q hq => Nat.lt_of_lt_of_le hq hz16.size)), ?_⟩
                        intro A' hA'; simp only [Act.put, List.setIfInBounds_toArray, List.set_cons_succ, List.set_cons_zero] at hA'; subst hA'
                        have cat917 := hat16.below hb17
                        have cu17 := cu16.below hb17
                        have hz17 := hz16.trans (hb17.mono hz16.size)
                        refine Stg.takeZ 5 (by kernel_rfl) (Stg.Keep.rel _) rfl ?_; intro K hK; go_big_quiet_op; go_big_quiet_on
                        refine Stg.takeZ 6 (by kernel_rfl) (Stg.Keep.rel _) rfl ?_; intro K hK; go_big_quiet_op; go_big_quiet_on
                        refine Stg.takeZ 7 (by kernel_rfl) (Stg.Keep.rel _) rfl ?_; intro K hK; go_big_quiet_op; go_big_quiet_on
                        refine Stg.takeZ 8 (by kernel_rfl) (Stg.Keep.rel _) rfl ?_; intro K hK; go_big_quiet_op; go_big_quiet_on
                        refine Stg.oneZ 10 (by kernel_rfl) ?_
                        refine Stg.stepZ 10 (by kernel_rfl) rfl ?_; intro K hK; go_simp
                        obtain ⟨x18, hw18⟩ : ∃ wz, x17.alloc (.cells #[.slice none 0 0] 27) = wz := ⟨_, rfl⟩
                        have hb18 : Below x17.heap.size x17 x18 := by rw [← hw18]; exact Nm.bel_alloc x17 _
                        have hat18 : Rw.At x18 x17.heap.size 27 [.slice none 0 0] := by rw [← hw18]; exact Rw.At.new x17 27 [.slice none 0 0]
                        rw [hw18]
                        refine hK _ _ (fun _ => (Stg.Keep.of_below hb18 (fun q hq => Nat.lt_of_lt_of_le hq hz17.size))) ?_
                        intro A' hA'; subst hA'
                        have cat918 := cat917.below hb18
                        have cq18 := hisq17.below hb18
                        have cr18 := hisr17.below hb18
                        have hz18 := hz17.trans (hb18.mono hz17.size)
                        clear hw18
                        have lt19 := cat917.lt
                        have ne20 : x17.heap.size ≠ x2.heap.size := Nat.ne_of_gt lt19
                        refine Stg.oneZ 11 (by kernel_rfl) ?_
                        have u121 := cat918.cell 0 rfl
                        have u221 := cat918.frozen 0
                        have u321 := cat918.lt
                        refine Stg.stepZ 11 (by kernel_rfl) rfl ?_; intro K hK; go_simp
                        obtain ⟨x21, hw21⟩ : ∃ wz, x18.setCell ⟨x2.heap.size, 0, none⟩ (.slice Aq17 mq17 kq17) = wz := ⟨_, rfl⟩
                        have hs21 : Rw.At x21 x2.heap.size 27 [.slice Aq17 mq17 kq17] := by rw [← hw21]; exact cat918.set 0 (.slice Aq17 mq17 kq17)
                        have ho21 : Rw.At x21 x17.heap.size 27 [.slice none 0 0] := by rw [← hw21]; exact hat18.other ne20 _
                        have hq21 := cq18.setAt cat918 (by decide) 0 (.slice Aq17 mq17 kq17)
                        have hr21 := cr18.setAt cat918 (by decide) 0 (.slice Aq17 mq17 kq17)
                        have hz21 := hz18.setCell (p := ⟨x2.heap.size, 0, none⟩) hz2.size (.slice Aq17 mq17 kq17)
                        rw [hw21] at hq21 hr21 hz21
                        rw [hw21]
                        refine hK _ _ (fun _ => by rw [← hw21]; exact Stg.Keep.of_grown (Rw.grown_set _ _ _) (fun q hq => ⟨Nat.lt_of_lt_of_le hq hz18.size, fun e => by cases e; exact absurd hq (Nat.not_lt.2 hz2.size)⟩)) ?_
                        intro A' hA'; subst hA'
                        clear hw21 u121 u221 u321
                        refine Stg.oneZ 12 (by kernel_rfl) ?_
                        have u122 := ho21.cell 0 rfl
                        have u222 := ho21.frozen 0
                        have u322 := ho21.lt
                        refine Stg.stepZ 12 (by kernel_rfl) rfl ?_; intro K hK; go_simp
                        obtain ⟨x22, hw22⟩ : ∃ wz, x21.setCell ⟨x17.heap.size, 0, none⟩ (.slice Ar17 mr17 kr17) = wz := ⟨_, rfl⟩
                        have hs22 : Rw.At x22 x17.heap.size 27 [.slice Ar17 mr17 kr17] := by rw [← hw22]; exact ho21.set 0 (.slice Ar17 mr17 kr17)
                        have ho22 : Rw.At x22 x2.heap.size 27 [.slice Aq17 mq17 kq17] := by rw [← hw22]; exact hs21.other ne20.symm _
                        have hq22 := hq21.setAt ho21 (by decide) 0 (.slice Ar17 mr17 kr17)
                        have hr22 := hr21.setAt ho21 (by decide) 0 (.slice Ar17 mr17 kr17)
                        have hz22 := hz21.setCell (p := ⟨x17.heap.size, 0, none⟩) hz17.size (.slice Ar17 mr17 kr17)
                        rw [hw22] at hq22 hr22 hz22
                        rw [hw22]
                        refine hK _ _ (fun _ => by rw [← hw22]; exact Stg.Keep.of_grown (Rw.grown_set _ _ _) (fun q hq => ⟨Nat.lt_of_lt_of_le hq hz21.size, fun e => by cases e; exact absurd hq (Nat.not_lt.2 hz17.size)⟩)) ?_
                        intro A' hA'; subst hA'
                        clear hw22 u122 u222 u322
                        refine Stg.takeZ 13 (by kernel_rfl) (Stg.Keep.rel _) rfl ?_; intro K hK; go_big_quiet_op; go_big_quiet_on
                        refine Stg.endZ (by kernel_rfl) ?_
                        go_wp2_with fail
                        go_meet
                        exact ⟨_, _, Aq17, mq17, kq17, Ar17, mr17, kr17, rfl, rfl, rfl, ho22, hs22, hq22, hr22, hz2.size, hz17.size, hz22⟩
                      · skip
                        refine Stg.stepZ 10 (by kernel_rfl) rfl ?_; intro K hK; go_simp
                        obtain ⟨x23, hw23⟩ : ∃ wz, x16.alloc (.cells #[.slice none 0 0] 27) = wz := ⟨_, rfl⟩
                        have hb23 : Below x16.heap.size x16 x23 := by rw [← hw23]; exact Nm.bel_alloc x16 _
                        have hat23 : Rw.At x23 x16.heap.size 27 [.slice none 0 0] := by rw [← hw23]; exact Rw.At.new x16 27 [.slice none 0 0]
                        rw [hw23]
                        refine hK _ _ (fun _ => (Stg.Keep.of_below hb23 (fun q hq => Nat.lt_of_lt_of_le hq hz16.size))) ?_
                        intro A' hA'; subst hA'
                        have cat923 := hat16.below hb23
                        have cu23 := cu16.below hb23
                        have hz23 := hz16.trans (hb23.mono hz16.size)
                        clear hw23
                        have lt24 := hat16.lt
                        refine Stg.oneZ 4 (by kernel_rfl) ?_
                        refine Stg.callZ 4 rfl 14 _ _ rfl Tryd.func14 [.agg #[.slice Am mm cm], .agg #[.slice A2 m2 k2]] rfl _ (HDV.o x23 _ hz23 cu23) (by kernel_rfl) ?_
                        rintro e x25 ⟨vq25, vr25, rfl, hisq25, hisr25, hb25⟩
                        obtain ⟨Aq25, mq25, kq25, lq25, rfl, rq25⟩ := id hisq25
                        obtain ⟨Ar25, mr25, kr25, lr25, rfl, rr25⟩ := id hisr25
                        clear rq25 rr25
                        refine ⟨_, rfl, fun _ => (Stg.Keep.of_below hb25 (fun q hq => Nat.lt_of_lt_of_le hq hz23.size)), ?_⟩
                        intro A' hA'; simp only [Act.put, List.setIfInBounds_toArray, List.set_cons_succ, List.set_cons_zero] at hA'; subst hA'
                        have cat925 := cat923.below hb25
                        have cat1025 := hat23.below hb25
                        have cu25 := cu23.below hb25
                        have hz25 := hz23.trans (hb25.mono hz23.size)
                        refine Stg.takeZ 5 (by kernel_rfl) (Stg.Keep.rel _) rfl ?_; intro K hK; go_big_quiet_op; go_big_quiet_on
                        refine Stg.takeZ 6 (by kernel_rfl) (Stg.Keep.rel _) rfl ?_; intro K hK; go_big_quiet_op; go_big_quiet_on
                        refine Stg.takeZ 7 (by kernel_rfl) (Stg.Keep.rel _) rfl ?_; intro K hK; go_big_quiet_op; go_big_quiet_on
                        refine Stg.takeZ 8 (by kernel_rfl) (Stg.Keep.rel _) rfl ?_; intro K hK; go_big_quiet_op; go_big_quiet_on
                        have ne26 : x16.heap.size ≠ x2.heap.size := Nat.ne_of_gt lt24
                        refine Stg.oneZ 11 (by kernel_rfl) ?_
                        have u127 := cat925.cell 0 rfl
                        have u227 := cat925.frozen 0
                        have u327 := cat925.lt
                        refine Stg.stepZ 11 (by kernel_rfl) rfl ?_; intro K hK; go_simp
                        obtain ⟨x27, hw27⟩ : ∃ wz, x25.setCell ⟨x2.heap.size, 0, none⟩ (.slice Aq25 mq25 kq25) = wz := ⟨_, rfl⟩
                        have hs27 : Rw.At x27 x2.heap.size 27 [.slice Aq25 mq25 kq25] := by rw [← hw27]; exact cat925.set 0 (.slice Aq25 mq25 kq25)
                        have ho27 : Rw.At x27 x16.heap.size 27 [.slice none 0 0] := by rw [← hw27]; exact cat1025.other ne26 _
                        have hq27 := hisq25.setAt cat925 (by decide) 0 (.slice Aq25 mq25 kq25)
                        have hr27 := hisr25.setAt cat925 (by decide) 0 (.slice Aq25 mq25 kq25)
                        have hz27 := hz25.setCell (p := ⟨x2.heap.size, 0, none⟩) hz2.size (.slice Aq25 mq25 kq25)
                        rw [hw27] at hq27 hr27 hz27
                        rw [hw27]
                        refine hK _ _ (fun _ => by rw [← hw27]; exact Stg.Keep.of_grown (Rw.grown_set _ _ _) (fun q hq => ⟨Nat.lt_of_lt_of_le hq hz25.size, fun e => by cases e; exact absurd hq (Nat.not_lt.2 hz2.size)⟩)) ?_
                        intro A' hA'; subst hA'
                        clear hw27 u127 u227 u327
                        refine Stg.oneZ 12 (by kernel_rfl) ?_
                        have u128 := ho27.cell 0 rfl
                        have u228 := ho27.frozen 0
                        have u328 := ho27.lt
                        refine Stg.stepZ 12 (by kernel_rfl) rfl ?_; intro K hK; go_simp
                        obtain ⟨x28, hw28⟩ : ∃ wz, x27.setCell ⟨x16.heap.size, 0, none⟩ (.slice Ar25 mr25 kr25) = wz := ⟨_, rfl⟩
                        have hs28 : Rw.At x28 x16.heap.size 27 [.slice Ar25 mr25 kr25] := by rw [← hw28]; exact ho27.set 0 (.slice Ar25 mr25 kr25)
                        have ho28 : Rw.At x28 x2.heap.size 27 [.slice Aq25 mq25 kq25] := by rw [← hw28]; exact hs27.other ne26.symm _
                        have hq28 := hq27.setAt ho27 (by decide) 0 (.slice Ar25 mr25 kr25)
                        have hr28 := hr27.setAt ho27 (by decide) 0 (.slice Ar25 mr25 kr25)
                        have hz28 := hz27.setCell (p := ⟨x16.heap.size, 0, none⟩) hz16.size (.slice Ar25 mr25 kr25)
                        rw [hw28] at hq28 hr28 hz28
                        rw [hw28]
                        refine hK _ _ (fun _ => by rw [← hw28]; exact Stg.Keep.of_grown (Rw.grown_set _ _ _) (fun q hq => ⟨Nat.lt_of_lt_of_le hq hz27.size, fun e => by cases e; exact absurd hq (Nat.not_lt.2 hz16.size)⟩)) ?_
                        intro A' hA'; subst hA'
                        clear hw28 u128 u228 u328
                        refine Stg.takeZ 13 (by kernel_rfl) (Stg.Keep.rel _) rfl ?_; intro K hK; go_big_quiet_op; go_big_quiet_on
                        refine Stg.endZ (by kernel_rfl) ?_
                        go_wp2_with fail
                        go_meet
                        exact ⟨_, _, Aq25, mq25, kq25, Ar25, mr25, kr25, rfl, rfl, rfl, ho28, hs28, hq28, hr28, hz2.size, hz16.size, hz28⟩
                    · skip
                      refine Stg.stepZ 10 (by kernel_rfl) rfl ?_; intro K hK; go_simp
                      obtain ⟨x29, hw29⟩ : ∃ wz, x2.alloc (.cells #[.slice none 0 0] 27) = wz := ⟨_, rfl⟩
                      have hb29 : Below x2.heap.size x2 x29 := by rw [← hw29]; exact Nm.bel_alloc x2 _
                      have hat29 : Rw.At x29 x2.heap.size 27 [.slice none 0 0] := by rw [← hw29]; exact Rw.At.new x2 27 [.slice none 0 0]
                      rw [hw29]
                      refine hK _ _ (fun _ => (Stg.Keep.of_below hb29 (fun q hq => Nat.lt_of_lt_of_le hq hz2.size))) ?_
                      intro A' hA'; subst hA'
                      have cu29 := his2.below hb29
                      have hz29 := hz2.trans (hb29.mono hz2.size)
                      clear hw29
                      refine Stg.twoZ 4 9 (by kernel_rfl) ?_ ?_
                      · skip
                        refine Stg.callZ 4 rfl 14 _ _ rfl Tryd.func14 [.agg #[.slice Am mm cm], .agg #[.slice A2 m2 k2]] rfl _ (HDV.o x29 _ hz29 cu29) (by kernel_rfl) ?_
                        rintro e x30 ⟨vq30, vr30, rfl, hisq30, hisr30, hb30⟩
                        obtain ⟨Aq30, mq30, kq30, lq30, rfl, rq30⟩ := id hisq30
                        obtain ⟨Ar30, mr30, kr30, lr30, rfl, rr30⟩ := id hisr30
                        clear rq30 rr30
                        refine ⟨_, rfl, fun _ => (Stg.Keep.of_below hb30 (fun q hq => Nat.lt_of_lt_of_le hq hz29.size)), ?_⟩
                        intro A' hA'; simp only [Act.put, List.setIfInBounds_toArray, List.set_cons_succ, List.set_cons_zero] at hA'; subst hA'
                        have cat1030 := hat29.below hb30
                        have cu30 := cu29.below hb30
                        have hz30 := hz29.trans (hb30.mono hz29.size)
                        refine Stg.takeZ 5 (by kernel_rfl) (Stg.Keep.rel _) rfl ?_; intro K hK; go_big_quiet_op; go_big_quiet_on
                        refine Stg.takeZ 6 (by kernel_rfl) (Stg.Keep.rel _) rfl ?_; intro K hK; go_big_quiet_op; go_big_quiet_on
                        refine Stg.takeZ 7 (by kernel_rfl) (Stg.Keep.rel _) rfl ?_; intro K hK; go_big_quiet_op; go_big_quiet_on
                        refine Stg.takeZ 8 (by kernel_rfl) (Stg.Keep.rel _) rfl ?_; intro K hK; go_big_quiet_op; go_big_quiet_on
                        refine Stg.oneZ 9 (by kernel_rfl) ?_
                        refine Stg.stepZ 9 (by kernel_rfl) rfl ?_; intro K hK; go_simp
                        obtain ⟨x31, hw31⟩ : ∃ wz, x30.alloc (.cells #[.slice none 0 0] 27) = wz := ⟨_, rfl⟩
                        have hb31 : Below x30.heap.size x30 x31 := by rw [← hw31]; exact Nm.bel_alloc x30 _
                        have hat31 : Rw.At x31 x30.heap.size 27 [.slice none 0 0] := by rw [← hw31]; exact Rw.At.new x30 27 [.slice none 0 0]
                        rw [hw31]
                        refine hK _ _ (fun _ => (Stg.Keep.of_below hb31 (fun q hq => Nat.lt_of_lt_of_le hq hz30.size))) ?_
                        intro A' hA'; subst hA'
                        have cat1031 := cat1030.below hb31
                        have cq31 := hisq30.below hb31
                        have cr31 := hisr30.below hb31
                        have hz31 := hz30.trans (hb31.mono hz30.size)
                        clear hw31
                        have lt32 := cat1030.lt
                        have ne33 : x2.heap.size ≠ x30.heap.size := Nat.ne_of_lt lt32
                        refine Stg.oneZ 11 (by kernel_rfl) ?_
                        have u134 := hat31.cell 0 rfl
                        have u234 := hat31.frozen 0
                        have u334 := hat31.lt
                        refine Stg.stepZ 11 (by kernel_rfl) rfl ?_; intro K hK; go_simp
                        obtain ⟨x34, hw34⟩ : ∃ wz, x31.setCell ⟨x30.heap.size, 0, none⟩ (.slice Aq30 mq30 kq30) = wz := ⟨_, rfl⟩
                        have hs34 : Rw.At x34 x30.heap.size 27 [.slice Aq30 mq30 kq30] := by rw [← hw34]; exact hat31.set 0 (.slice Aq30 mq30 kq30)
                        have ho34 : Rw.At x34 x2.heap.size 27 [.slice none 0 0] := by rw [← hw34]; exact cat1031.other ne33 _
                        have hq34 := cq31.setAt hat31 (by decide) 0 (.slice Aq30 mq30 kq30)
                        have hr34 := cr31.setAt hat31 (by decide) 0 (.slice Aq30 mq30 kq30)
                        have hz34 := hz31.setCell (p := ⟨x30.heap.size, 0, none⟩) hz30.size (.slice Aq30 mq30 kq30)
                        rw [hw34] at hq34 hr34 hz34
                        rw [hw34]
                        refine hK _ _ (fun _ => by rw [← hw34]; exact Stg.Keep.of_grown (Rw.grown_set _ _ _) (fun q hq => ⟨Nat.lt_of_lt_of_le hq hz31.size, fun e => by cases e; exact absurd hq (Nat.not_lt.2 hz30.size)⟩)) ?_
                        intro A' hA'; subst hA'
                        clear hw34 u134 u234 u334
                        refine Stg.oneZ 12 (by kernel_rfl) ?_
                        have u135 := ho34.cell 0 rfl
                        have u235 := ho34.frozen 0
                        have u335 := ho34.lt
                        refine Stg.stepZ 12 (by kernel_rfl) rfl ?_; intro K hK; go_simp
                        obtain ⟨x35, hw35⟩ : ∃ wz, x34.setCell ⟨x2.heap.size, 0, none⟩ (.slice Ar30 mr30 kr30) = wz := ⟨_, rfl⟩
                        have hs35 : Rw.At x35 x2.heap.size 27 [.slice Ar30 mr30 kr30] := by rw [← hw35]; exact ho34.set 0 (.slice Ar30 mr30 kr30)
                        have ho35 : Rw.At x35 x30.heap.size 27 [.slice Aq30 mq30 kq30] := by rw [← hw35]; exact hs34.other ne33.symm _
                        have hq35 := hq34.setAt ho34 (by decide) 0 (.slice Ar30 mr30 kr30)
                        have hr35 := hr34.setAt ho34 (by decide) 0 (.slice Ar30 mr30 kr30)
                        have hz35 := hz34.setCell (p := ⟨x2.heap.size, 0, none⟩) hz2.size (.slice Ar30 mr30 kr30)
                        rw [hw35] at hq35 hr35 hz35
                        rw [hw35]
                        refine hK _ _ (fun _ => by rw [← hw35]; exact Stg.Keep.of_grown (Rw.grown_set _ _ _) (fun q hq => ⟨Nat.lt_of_lt_of_le hq hz34.size, fun e => by cases e; exact absurd hq (Nat.not_lt.2 hz2.size)⟩)) ?_
                        intro A' hA'; subst hA'
                        clear hw35 u135 u235 u335
                        refine Stg.takeZ 13 (by kernel_rfl) (Stg.Keep.rel _) rfl ?_; intro K hK; go_big_quiet_op; go_big_quiet_on
                        refine Stg.endZ (by kernel_rfl) ?_
                        go_wp2_with fail
                        go_meet
                        exact ⟨_, _, Aq30, mq30, kq30, Ar30, mr30, kr30, rfl, rfl, rfl, ho35, hs35, hq35, hr35, hz30.size, hz2.size, hz35⟩
                      · skip
                        refine Stg.stepZ 9 (by kernel_rfl) rfl ?_; intro K hK; go_simp
                        obtain ⟨x36, hw36⟩ : ∃ wz, x29.alloc (.cells #[.slice none 0 0] 27) = wz := ⟨_, rfl⟩
                        have hb36 : Below x29.heap.size x29 x36 := by rw [← hw36]; exact Nm.bel_alloc x29 _
                        have hat36 : Rw.At x36 x29.heap.size 27 [.slice none 0 0] := by rw [← hw36]; exact Rw.At.new x29 27 [.slice none 0 0]
                        rw [hw36]
                        refine hK _ _ (fun _ => (Stg.Keep.of_below hb36 (fun q hq => Nat.lt_of_lt_of_le hq hz29.size))) ?_
                        intro A' hA'; subst hA'
                        have cat1036 := hat29.below hb36
                        have cu36 := cu29.below hb36
                        have hz36 := hz29.trans (hb36.mono hz29.size)
                        clear hw36
                        have lt37 := hat29.lt
                        refine Stg.oneZ 4 (by kernel_rfl) ?_
                        refine Stg.callZ 4 rfl 14 _ _ rfl Tryd.func14 [.agg #[.slice Am mm cm], .agg #[.slice A2 m2 k2]] rfl _ (HDV.o x36 _ hz36 cu36) (by kernel_rfl) ?_
                        rintro e x38 ⟨vq38, vr38, rfl, hisq38, hisr38, hb38⟩
                        obtain ⟨Aq38, mq38, kq38, lq38, rfl, rq38⟩ := id hisq38
                        obtain ⟨Ar38, mr38, kr38, lr38, rfl, rr38⟩ := id hisr38
                        clear rq38 rr38
                        refine ⟨_, rfl, fun _ => (Stg.Keep.of_below hb38 (fun q hq => Nat.lt_of_lt_of_le hq hz36.size)), ?_⟩
                        intro A' hA'; simp only [Act.put, List.setIfInBounds_toArray, List.set_cons_succ, List.set_cons_zero] at hA'; subst hA'
                        have cat938 := hat36.below hb38
                        have cat1038 := cat1036.below hb38
                        have cu38 := cu36.below hb38
                        have hz38 := hz36.trans (hb38.mono hz36.size)
                        refine Stg.takeZ 5 (by kernel_rfl) (Stg.Keep.rel _) rfl ?_; intro K hK; go_big_quiet_op; go_big_quiet_on
                        refine Stg.takeZ 6 (by kernel_rfl) (Stg.Keep.rel _) rfl ?_; intro K hK; go_big_quiet_op; go_big_quiet_on
                        refine Stg.takeZ 7 (by kernel_rfl) (Stg.Keep.rel _) rfl ?_; intro K hK; go_big_quiet_op; go_big_quiet_on
                        refine Stg.takeZ 8 (by kernel_rfl) (Stg.Keep.rel _) rfl ?_; intro K hK; go_big_quiet_op; go_big_quiet_on
                        have ne39 : x2.heap.size ≠ x29.heap.size := Nat.ne_of_lt lt37
                        refine Stg.oneZ 11 (by kernel_rfl) ?_
                        have u140 := cat938.cell 0 rfl
                        have u240 := cat938.frozen 0
                        have u340 := cat938.lt
                        refine Stg.stepZ 11 (by kernel_rfl) rfl ?_; intro K hK; go_simp
                        obtain ⟨x40, hw40⟩ : ∃ wz, x38.setCell ⟨x29.heap.size, 0, none⟩ (.slice Aq38 mq38 kq38) = wz := ⟨_, rfl⟩
                        have hs40 : Rw.At x40 x29.heap.size 27 [.slice Aq38 mq38 kq38] := by rw [← hw40]; exact cat938.set 0 (.slice Aq38 mq38 kq38)
                        have ho40 : Rw.At x40 x2.heap.size 27 [.slice none 0 0] := by rw [← hw40]; exact cat1038.other ne39 _
                        have hq40 := hisq38.setAt cat938 (by decide) 0 (.slice Aq38 mq38 kq38)
                        have hr40 := hisr38.setAt cat938 (by decide) 0 (.slice Aq38 mq38 kq38)
                        have hz40 := hz38.setCell (p := ⟨x29.heap.size, 0, none⟩) hz29.size (.slice Aq38 mq38 kq38)
                        rw [hw40] at hq40 hr40 hz40
                        rw [hw40]
                        refine hK _ _ (fun _ => by rw [← hw40]; exact Stg.Keep.of_grown (Rw.grown_set _ _ _) (fun q hq => ⟨Nat.lt_of_lt_of_le hq hz38.size, fun e => by cases e; exact absurd hq (Nat.not_lt.2 hz29.size)⟩)) ?_
                        intro A' hA'; subst hA'
                        clear hw40 u140 u240 u340
                        refine Stg.oneZ 12 (by kernel_rfl) ?_
                        have u141 := ho40.cell 0 rfl
                        have u241 := ho40.frozen 0
                        have u341 := ho40.lt
                        refine Stg.stepZ 12 (by kernel_rfl) rfl ?_; intro K hK; go_simp
                        obtain ⟨x41, hw41⟩ : ∃ wz, x40.setCell ⟨x2.heap.size, 0, none⟩ (.slice Ar38 mr38 kr38) = wz := ⟨_, rfl⟩
                        have hs41 : Rw.At x41 x2.heap.size 27 [.slice Ar38 mr38 kr38] := by rw [← hw41]; exact ho40.set 0 (.slice Ar38 mr38 kr38)
                        have ho41 : Rw.At x41 x29.heap.size 27 [.slice Aq38 mq38 kq38] := by rw [← hw41]; exact hs40.other ne39.symm _
                        have hq41 := hq40.setAt ho40 (by decide) 0 (.slice Ar38 mr38 kr38)
                        have hr41 := hr40.setAt ho40 (by decide) 0 (.slice Ar38 mr38 kr38)
                        have hz41 := hz40.setCell (p := ⟨x2.heap.size, 0, none⟩) hz2.size (.slice Ar38 mr38 kr38)
                        rw [hw41] at hq41 hr41 hz41
                        rw [hw41]
                        refine hK _ _ (fun _ => by rw [← hw41]; exact Stg.Keep.of_grown (Rw.grown_set _ _ _) (fun q hq => ⟨Nat.lt_of_lt_of_le hq hz40.size, fun e => by cases e; exact absurd hq (Nat.not_lt.2 hz2.size)⟩)) ?_
                        intro A' hA'; subst hA'
                        clear hw41 u141 u241 u341
                        refine Stg.takeZ 13 (by kernel_rfl) (Stg.Keep.rel _) rfl ?_; intro K hK; go_big_quiet_op; go_big_quiet_on
                        refine Stg.endZ (by kernel_rfl) ?_
                        go_wp2_with fail
                        go_meet
                        exact ⟨_, _, Aq38, mq38, kq38, Ar38, mr38, kr38, rfl, rfl, rfl, ho41, hs41, hq41, hr41, hz29.size, hz2.size, hz41⟩
                  · skip
                    refine Stg.stepZ 9 (by kernel_rfl) rfl ?_; intro K hK; go_simp
                    obtain ⟨x42, hw42⟩ : ∃ wz, x1.alloc (.cells #[.slice none 0 0] 27) = wz := ⟨_, rfl⟩
                    have hb42 : Below x1.heap.size x1 x42 := by rw [← hw42]; exact Nm.bel_alloc x1 _
                    have hat42 : Rw.At x42 x1.heap.size 27 [.slice none 0 0] := by rw [← hw42]; exact Rw.At.new x1 27 [.slice none 0 0]
                    rw [hw42]
                    refine hK _ _ (fun _ => (Stg.Keep.of_below hb42 (fun q hq => Nat.lt_of_lt_of_le hq hz1.size))) ?_
                    intro A' hA'; subst hA'
                    have cu42 := his1.below hb42
                    have hz42 := hz1.trans (hb42.mono hz1.size)
                    clear hw42
                    refine Stg.twoZ 3 10 (by kernel_rfl) ?_ ?_
                    · skip
                      refine Stg.callZ 3 rfl 7 _ _ rfl Tryd.func7 [.agg #[.slice Av mv cv], .agg #[.slice A1 m1 k1]] rfl _ (HAD.o x42 _ hz42 cu42) (by kernel_rfl) ?_
                      rintro e x43 ⟨v43, rfl, his43, hb43⟩
                      obtain ⟨A43, m43, k43, l43, rfl, rr43⟩ := id his43
                      clear rr43
                      refine ⟨_, rfl, fun _ => (Stg.Keep.of_below hb43 (fun q hq => Nat.lt_of_lt_of_le hq hz42.size)), ?_⟩
                      intro A' hA'; simp only [Act.put, List.setIfInBounds_toArray, List.set_cons_succ, List.set_cons_zero] at hA'; subst hA'
                      have cat943 := hat42.below hb43
                      have cu43 := cu42.below hb43
                      have hz43 := hz42.trans (hb43.mono hz42.size)
                      refine Stg.twoZ 4 10 (by kernel_rfl) ?_ ?_
                      · skip
                        refine Stg.callZ 4 rfl 14 _ _ rfl Tryd.func14 [.agg #[.slice Am mm cm], .agg #[.slice A43 m43 k43]] rfl _ (HDV.o x43 _ hz43 his43) (by kernel_rfl) ?_
                        rintro e x44 ⟨vq44, vr44, rfl, hisq44, hisr44, hb44⟩
                        obtain ⟨Aq44, mq44, kq44, lq44, rfl, rq44⟩ := id hisq44
                        obtain ⟨Ar44, mr44, kr44, lr44, rfl, rr44⟩ := id hisr44
                        clear rq44 rr44
                        refine ⟨_, rfl, fun _ => (Stg.Keep.of_below hb44 (fun q hq => Nat.lt_of_lt_of_le hq hz43.size)), ?_⟩
                        intro A' hA'; simp only [Act.put, List.setIfInBounds_toArray, List.set_cons_succ, List.set_cons_zero] at hA'; subst hA'
                        have cat944 := cat943.below hb44
                        have cu44 := his43.below hb44
                        have hz44 := hz43.trans (hb44.mono hz43.size)
                        refine Stg.takeZ 5 (by kernel_rfl) (Stg.Keep.rel _) rfl ?_; intro K hK; go_big_quiet_op; go_big_quiet_on
                        refine Stg.takeZ 6 (by kernel_rfl) (Stg.Keep.rel _) rfl ?_; intro K hK; go_big_quiet_op; go_big_quiet_on
                        refine Stg.takeZ 7 (by kernel_rfl) (Stg.Keep.rel _) rfl ?_; intro K hK; go_big_quiet_op; go_big_quiet_on
                        refine Stg.takeZ 8 (by kernel_rfl) (Stg.Keep.rel _) rfl ?_; intro K hK; go_big_quiet_op; go_big_quiet_on
                        refine Stg.oneZ 10 (by kernel_rfl) ?_
                        refine Stg.stepZ 10 (by kernel_rfl) rfl ?_; intro K hK; go_simp
                        obtain ⟨x45, hw45⟩ : ∃ wz, x44.alloc (.cells #[.slice none 0 0] 27) = wz := ⟨_, rfl⟩
                        have hb45 : Below x44.heap.size x44 x45 := by rw [← hw45]; exact Nm.bel_alloc x44 _
                        have hat45 : Rw.At x45 x44.heap.size 27 [.slice none 0 0] := by rw [← hw45]; exact Rw.At.new x44 27 [.slice none 0 0]
                        rw [hw45]
                        refine hK _ _ (fun _ => (Stg.Keep.of_below hb45 (fun q hq => Nat.lt_of_lt_of_le hq hz44.size))) ?_
                        intro A' hA'; subst hA'
                        have cat945 := cat944.below hb45
                        have cq45 := hisq44.below hb45
                        have cr45 := hisr44.below hb45
                        have hz45 := hz44.trans (hb45.mono hz44.size)
                        clear hw45
                        have lt46 := cat944.lt
                        have ne47 : x44.heap.size ≠ x1.heap.size := Nat.ne_of_gt lt46
                        refine Stg.oneZ 11 (by kernel_rfl) ?_
                        have u148 := cat945.cell 0 rfl
                        have u248 := cat945.frozen 0
                        have u348 := cat945.lt
                        refine Stg.stepZ 11 (by kernel_rfl) rfl ?_; intro K hK; go_simp
                        obtain ⟨x48, hw48⟩ : ∃ wz, x45.setCell ⟨x1.heap.size, 0, none⟩ (.slice Aq44 mq44 kq44) = wz := ⟨_, rfl⟩
                        have hs48 : Rw.At x48 x1.heap.size 27 [.slice Aq44 mq44 kq44] := by rw [← hw48]; exact cat945.set 0 (.slice Aq44 mq44 kq44)
                        have ho48 : Rw.At x48 x44.heap.size 27 [.slice none 0 0] := by rw [← hw48]; exact hat45.other ne47 _
                        have hq48 := cq45.setAt cat945 (by decide) 0 (.slice Aq44 mq44 kq44)
                        have hr48 := cr45.setAt cat945 (by decide) 0 (.slice Aq44 mq44 kq44)
                        have hz48 := hz45.setCell (p := ⟨x1.heap.size, 0, none⟩) hz1.size (.slice Aq44 mq44 kq44)
                        rw [hw48] at hq48 hr48 hz48
                        rw [hw48]
                        refine hK _ _ (fun _ => by rw [← hw48]; exact Stg.Keep.of_grown (Rw.grown_set _ _ _) (fun q hq => ⟨Nat.lt_of_lt_of_le hq hz45.size, fun e => by cases e; exact absurd hq (Nat.not_lt.2 hz1.size)⟩)) ?_
                        intro A' hA'; subst hA'
                        clear hw48 u148 u248 u348
                        refine Stg.oneZ 12 (by kernel_rfl) ?_
                        have u149 := ho48.cell 0 rfl
                        have u249 := ho48.frozen 0
                        have u349 := ho48.lt
                        refine Stg.stepZ 12 (by kernel_rfl) rfl ?_; intro K hK; go_simp
                        obtain ⟨x49, hw49⟩ : ∃ wz, x48.setCell ⟨x44.heap.size, 0, none⟩ (.slice Ar44 mr44 kr44) = wz := ⟨_, rfl⟩
                        have hs49 : Rw.At x49 x44.heap.size 27 [.slice Ar44 mr44 kr44] := by rw [← hw49]; exact ho48.set 0 (.slice Ar44 mr44 kr44)
                        have ho49 : Rw.At x49 x1.heap.size 27 [.slice Aq44 mq44 kq44] := by rw [← hw49]; exact hs48.other ne47.symm _
                        have hq49 := hq48.setAt ho48 (by decide) 0 (.slice Ar44 mr44 kr44)
                        have hr49 := hr48.setAt ho48 (by decide) 0 (.slice Ar44 mr44 kr44)
                        have hz49 := hz48.setCell (p := ⟨x44.heap.size, 0, none⟩) hz44.size (.slice Ar44 mr44 kr44)
                        rw [hw49] at hq49 hr49 hz49
                        rw [hw49]
                        refine hK _ _ (fun _ => by rw [← hw49]; exact Stg.Keep.of_grown (Rw.grown_set _ _ _) (fun q hq => ⟨Nat.lt_of_lt_of_le hq hz48.size, fun e => by cases e; exact absurd hq (Nat.not_lt.2 hz44.size)⟩)) ?_
                        intro A' hA'; subst hA'
                        clear hw49 u149 u249 u349
                        refine Stg.takeZ 13 (by kernel_rfl) (Stg.Keep.rel _) rfl ?_; intro K hK; go_big_quiet_op; go_big_quiet_on
                        refine Stg.endZ (by kernel_rfl) ?_
                        go_wp2_with fail
                        go_meet
                        exact ⟨_, _, Aq44, mq44, kq44, Ar44, mr44, kr44, rfl, rfl, rfl, ho49, hs49, hq49, hr49, hz1.size, hz44.size, hz49⟩
                      · skip
                        refine Stg.stepZ 10 (by kernel_rfl) rfl ?_; intro K hK; go_simp
                        obtain ⟨x50, hw50⟩ : ∃ wz, x43.alloc (.cells #[.slice none 0 0] 27) = wz := ⟨_, rfl⟩
                        have hb50 : Below x43.heap.size x43 x50 := by rw [← hw50]; exact Nm.bel_alloc x43 _
                        have hat50 : Rw.At x50 x43.heap.size 27 [.slice none 0 0] := by rw [← hw50]; exact Rw.At.new x43 27 [.slice none 0 0]
                        rw [hw50]
                        refine hK _ _ (fun _ => (Stg.Keep.of_below hb50 (fun q hq => Nat.lt_of_lt_of_le hq hz43.size))) ?_
                        intro A' hA'; subst hA'
                        have cat950 := cat943.below hb50
                        have cu50 := his43.below hb50
                        have hz50 := hz43.trans (hb50.mono hz43.size)
                        clear hw50
                        have lt51 := cat943.lt
                        refine Stg.oneZ 4 (by kernel_rfl) ?_
                        refine Stg.callZ 4 rfl 14 _ _ rfl Tryd.func14 [.agg #[.slice Am mm cm], .agg #[.slice A43 m43 k43]] rfl _ (HDV.o x50 _ hz50 cu50) (by kernel_rfl) ?_
                        rintro e x52 ⟨vq52, vr52, rfl, hisq52, hisr52, hb52⟩
                        obtain ⟨Aq52, mq52, kq52, lq52, rfl, rq52⟩ := id hisq52
                        obtain ⟨Ar52, mr52, kr52, lr52, rfl, rr52⟩ := id hisr52
                        clear rq52 rr52
                        refine ⟨_, rfl, fun _ => (Stg.Keep.of_below hb52 (fun q hq => Nat.lt_of_lt_of_le hq hz50.size)), ?_⟩
                        intro A' hA'; simp only [Act.put, List.setIfInBounds_toArray, List.set_cons_succ, List.set_cons_zero] at hA'; subst hA'
                        have cat952 := cat950.below hb52
                        have cat1052 := hat50.below hb52
                        have cu52 := cu50.below hb52
                        have hz52 := hz50.trans (hb52.mono hz50.size)
                        refine Stg.takeZ 5 (by kernel_rfl) (Stg.Keep.rel _) rfl ?_; intro K hK; go_big_quiet_op; go_big_quiet_on
                        refine Stg.takeZ 6 (by kernel_rfl) (Stg.Keep.rel _) rfl ?_; intro K hK; go_big_quiet_op; go_big_quiet_on
                        refine Stg.takeZ 7 (by kernel_rfl) (Stg.Keep.rel _) rfl ?_; intro K hK; go_big_quiet_op; go_big_quiet_on
                        refine Stg.takeZ 8 (by kernel_rfl) (Stg.Keep.rel _) rfl ?_; intro K hK; go_big_quiet_op; go_big_quiet_on
                        have ne53 : x43.heap.size ≠ x1.heap.size := Nat.ne_of_gt lt51
                        refine Stg.oneZ 11 (by kernel_rfl) ?_
                        have u154 := cat952.cell 0 rfl
                        have u254 := cat952.frozen 0
                        have u354 := cat952.lt
                        refine Stg.stepZ 11 (by kernel_rfl) rfl ?_; intro K hK; go_simp
                        obtain ⟨x54, hw54⟩ : ∃ wz, x52.setCell ⟨x1.heap.size, 0, none⟩ (.slice Aq52 mq52 kq52) = wz := ⟨_, rfl⟩
                        have hs54 : Rw.At x54 x1.heap.size 27 [.slice Aq52 mq52 kq52] := by rw [← hw54]; exact cat952.set 0 (.slice Aq52 mq52 kq52)
                        have ho54 : Rw.At x54 x43.heap.size 27 [.slice none 0 0] := by rw [← hw54]; exact cat1052.other ne53 _
                        have hq54 := hisq52.setAt cat952 (by decide) 0 (.slice Aq52 mq52 kq52)
                        have hr54 := hisr52.setAt cat952 (by decide) 0 (.slice Aq52 mq52 kq52)
                        have hz54 := hz52.setCell (p := ⟨x1.heap.size, 0, none⟩) hz1.size (.slice Aq52 mq52 kq52)
                        rw [hw54] at hq54 hr54 hz54
                        rw [hw54]
                        refine hK _ _ (fun _ => by rw [← hw54]; exact Stg.Keep.of_grown (Rw.grown_set _ _ _) (fun q hq => ⟨Nat.lt_of_lt_of_le hq hz52.size, fun e => by cases e; exact absurd hq (Nat.not_lt.2 hz1.size)⟩)) ?_
                        intro A' hA'; subst hA'
                        clear hw54 u154 u254 u354
                        refine Stg.oneZ 12 (by kernel_rfl) ?_
                        have u155 := ho54.cell 0 rfl
                        have u255 := ho54.frozen 0
                        have u355 := ho54.lt
                        refine Stg.stepZ 12 (by kernel_rfl) rfl ?_; intro K hK; go_simp
                        obtain ⟨x55, hw55⟩ : ∃ wz, x54.setCell ⟨x43.heap.size, 0, none⟩ (.slice Ar52 mr52 kr52) = wz := ⟨_, rfl⟩
                        have hs55 : Rw.At x55 x43.heap.size 27 [.slice Ar52 mr52 kr52] := by rw [← hw55]; exact ho54.set 0 (.slice Ar52 mr52 kr52)
                        have ho55 : Rw.At x55 x1.heap.size 27 [.slice Aq52 mq52 kq52] := by rw [← hw55]; exact hs54.other ne53.symm _
                        have hq55 := hq54.setAt ho54 (by decide) 0 (.slice Ar52 mr52 kr52)
                        have hr55 := hr54.setAt ho54 (by decide) 0 (.slice Ar52 mr52 kr52)
                        have hz55 := hz54.setCell (p := ⟨x43.heap.size, 0, none⟩) hz43.size (.slice Ar52 mr52 kr52)
                        rw [hw55] at hq55 hr55 hz55
                        rw [hw55]
                        refine hK _ _ (fun _ => by rw [← hw55]; exact Stg.Keep.of_grown (Rw.grown_set _ _ _) (fun q hq => ⟨Nat.lt_of_lt_of_le hq hz54.size, fun e => by cases e; exact absurd hq (Nat.not_lt.2 hz43.size)⟩)) ?_
                        intro A' hA'; subst hA'
                        clear hw55 u155 u255 u355
                        refine Stg.takeZ 13 (by kernel_rfl) (Stg.Keep.rel _) rfl ?_; intro K hK; go_big_quiet_op; go_big_quiet_on
                        refine Stg.endZ (by kernel_rfl) ?_
                        go_wp2_with fail
                        go_meet
                        exact ⟨_, _, Aq52, mq52, kq52, Ar52, mr52, kr52, rfl, rfl, rfl, ho55, hs55, hq55, hr55, hz1.size, hz43.size, hz55⟩
                    · skip
                      refine Stg.stepZ 10 (by kernel_rfl) rfl ?_; intro K hK; go_simp
                      obtain ⟨x56, hw56⟩ : ∃ wz, x42.alloc (.cells #[.slice none 0 0] 27) = wz := ⟨_, rfl⟩
                      have hb56 : Below x42.heap.size x42 x56 := by rw [← hw56]; exact Nm.bel_alloc x42 _
                      have hat56 : Rw.At x56 x42.heap.size 27 [.slice none 0 0] := by rw [← hw56]; exact Rw.At.new x42 27 [.slice none 0 0]
                      rw [hw56]
                      refine hK _ _ (fun _ => (Stg.Keep.of_below hb56 (fun q hq => Nat.lt_of_lt_of_le hq hz42.size))) ?_
                      intro A' hA'; subst hA'
                      have cat956 := hat42.below hb56
                      have cu56 := cu42.below hb56
                      have hz56 := hz42.trans (hb56.mono hz42.size)
                      clear hw56
                      have lt57 := hat42.lt
                      refine Stg.oneZ 3 (by kernel_rfl) ?_
                      refine Stg.callZ 3 rfl 7 _ _ rfl Tryd.func7 [.agg #[.slice Av mv cv], .agg #[.slice A1 m1 k1]] rfl _ (HAD.o x56 _ hz56 cu56) (by kernel_rfl) ?_
                      rintro e x58 ⟨v58, rfl, his58, hb58⟩
                      obtain ⟨A58, m58, k58, l58, rfl, rr58⟩ := id his58
                      clear rr58
                      refine ⟨_, rfl, fun _ => (Stg.Keep.of_below hb58 (fun q hq => Nat.lt_of_lt_of_le hq hz56.size)), ?_⟩
                      intro A' hA'; simp only [Act.put, List.setIfInBounds_toArray, List.set_cons_succ, List.set_cons_zero] at hA'; subst hA'
                      have cat958 := cat956.below hb58
                      have cat1058 := hat56.below hb58
                      have cu58 := cu56.below hb58
                      have hz58 := hz56.trans (hb58.mono hz56.size)
                      refine Stg.oneZ 4 (by kernel_rfl) ?_
                      refine Stg.callZ 4 rfl 14 _ _ rfl Tryd.func14 [.agg #[.slice Am mm cm], .agg #[.slice A58 m58 k58]] rfl _ (HDV.o x58 _ hz58 his58) (by kernel_rfl) ?_
                      rintro e x59 ⟨vq59, vr59, rfl, hisq59, hisr59, hb59⟩
                      obtain ⟨Aq59, mq59, kq59, lq59, rfl, rq59⟩ := id hisq59
                      obtain ⟨Ar59, mr59, kr59, lr59, rfl, rr59⟩ := id hisr59
                      clear rq59 rr59
                      refine ⟨_, rfl, fun _ => (Stg.Keep.of_below hb59 (fun q hq => Nat.lt_of_lt_of_le hq hz58.size)), ?_⟩
                      intro A' hA'; simp only [Act.put, List.setIfInBounds_toArray, List.set_cons_succ, List.set_cons_zero] at hA'; subst hA'
                      have cat959 := cat958.below hb59
                      have cat1059 := cat1058.below hb59
                      have cu59 := his58.below hb59
                      have hz59 := hz58.trans (hb59.mono hz58.size)
                      refine Stg.takeZ 5 (by kernel_rfl) (Stg.Keep.rel _) rfl ?_; intro K hK; go_big_quiet_op; go_big_quiet_on
                      refine Stg.takeZ 6 (by kernel_rfl) (Stg.Keep.rel _) rfl ?_; intro K hK; go_big_quiet_op; go_big_quiet_on
                      refine Stg.takeZ 7 (by kernel_rfl) (Stg.Keep.rel _) rfl ?_; intro K hK; go_big_quiet_op; go_big_quiet_on
                      refine Stg.takeZ 8 (by kernel_rfl) (Stg.Keep.rel _) rfl ?_; intro K hK; go_big_quiet_op; go_big_quiet_on
                      have ne60 : x42.heap.size ≠ x1.heap.size := Nat.ne_of_gt lt57
                      refine Stg.oneZ 11 (by kernel_rfl) ?_
                      have u161 := cat959.cell 0 rfl
                      have u261 := cat959.frozen 0
                      have u361 := cat959.lt
                      refine Stg.stepZ 11 (by kernel_rfl) rfl ?_; intro K hK; go_simp
                      obtain ⟨x61, hw61⟩ : ∃ wz, x59.setCell ⟨x1.heap.size, 0, none⟩ (.slice Aq59 mq59 kq59) = wz := ⟨_, rfl⟩
                      have hs61 : Rw.At x61 x1.heap.size 27 [.slice Aq59 mq59 kq59] := by rw [← hw61]; exact cat959.set 0 (.slice Aq59 mq59 kq59)
                      have ho61 : Rw.At x61 x42.heap.size 27 [.slice none 0 0] := by rw [← hw61]; exact cat1059.other ne60 _
                      have hq61 := hisq59.setAt cat959 (by decide) 0 (.slice Aq59 mq59 kq59)
                      have hr61 := hisr59.setAt cat959 (by decide) 0 (.slice Aq59 mq59 kq59)
                      have hz61 := hz59.setCell (p := ⟨x1.heap.size, 0, none⟩) hz1.size (.slice Aq59 mq59 kq59)
                      rw [hw61] at hq61 hr61 hz61
                      rw [hw61]
                      refine hK _ _ (fun _ => by rw [← hw61]; exact Stg.Keep.of_grown (Rw.grown_set _ _ _) (fun q hq => ⟨Nat.lt_of_lt_of_le hq hz59.size, fun e => by cases e; exact absurd hq (Nat.not_lt.2 hz1.size)⟩)) ?_
                      intro A' hA'; subst hA'
                      clear hw61 u161 u261 u361
                      refine Stg.oneZ 12 (by kernel_rfl) ?_
                      have u162 := ho61.cell 0 rfl
                      have u262 := ho61.frozen 0
                      have u362 := ho61.lt
                      refine Stg.stepZ 12 (by kernel_rfl) rfl ?_; intro K hK; go_simp
                      obtain ⟨x62, hw62⟩ : ∃ wz, x61.setCell ⟨x42.heap.size, 0, none⟩ (.slice Ar59 mr59 kr59) = wz := ⟨_, rfl⟩
                      have hs62 : Rw.At x62 x42.heap.size 27 [.slice Ar59 mr59 kr59] := by rw [← hw62]; exact ho61.set 0 (.slice Ar59 mr59 kr59)
                      have ho62 : Rw.At x62 x1.heap.size 27 [.slice Aq59 mq59 kq59] := by rw [← hw62]; exact hs61.other ne60.symm _
                      have hq62 := hq61.setAt ho61 (by decide) 0 (.slice Ar59 mr59 kr59)
                      have hr62 := hr61.setAt ho61 (by decide) 0 (.slice Ar59 mr59 kr59)
                      have hz62 := hz61.setCell (p := ⟨x42.heap.size, 0, none⟩) hz42.size (.slice Ar59 mr59 kr59)
                      rw [hw62] at hq62 hr62 hz62
                      rw [hw62]
                      refine hK _ _ (fun _ => by rw [← hw62]; exact Stg.Keep.of_grown (Rw.grown_set _ _ _) (fun q hq => ⟨Nat.lt_of_lt_of_le hq hz61.size, fun e => by cases e; exact absurd hq (Nat.not_lt.2 hz42.size)⟩)) ?_
                      intro A' hA'; subst hA'
                      clear hw62 u162 u262 u362
                      refine Stg.takeZ 13 (by kernel_rfl) (Stg.Keep.rel _) rfl ?_; intro K hK; go_big_quiet_op; go_big_quiet_on
                      refine Stg.endZ (by kernel_rfl) ?_
                      go_wp2_with fail
                      go_meet
                      exact ⟨_, _, Aq59, mq59, kq59, Ar59, mr59, kr59, rfl, rfl, rfl, ho62, hs62, hq62, hr62, hz1.size, hz42.size, hz62⟩
                  · skip
                    refine Stg.stepZ 10 (by kernel_rfl) rfl ?_; intro K hK; go_simp
                    obtain ⟨x63, hw63⟩ : ∃ wz, x1.alloc (.cells #[.slice none 0 0] 27) = wz := ⟨_, rfl⟩
                    have hb63 : Below x1.heap.size x1 x63 := by rw [← hw63]; exact Nm.bel_alloc x1 _
                    have hat63 : Rw.At x63 x1.heap.size 27 [.slice none 0 0] := by rw [← hw63]; exact Rw.At.new x1 27 [.slice none 0 0]
                    rw [hw63]
                    refine hK _ _ (fun _ => (Stg.Keep.of_below hb63 (fun q hq => Nat.lt_of_lt_of_le hq hz1.size))) ?_
                    intro A' hA'; subst hA'
                    have cu63 := his1.below hb63
                    have hz63 := hz1.trans (hb63.mono hz1.size)
                    clear hw63
                    refine Stg.twoZ 3 9 (by kernel_rfl) ?_ ?_
                    · skip
                      refine Stg.callZ 3 rfl 7 _ _ rfl Tryd.func7 [.agg #[.slice Av mv cv], .agg #[.slice A1 m1 k1]] rfl _ (HAD.o x63 _ hz63 cu63) (by kernel_rfl) ?_
                      rintro e x64 ⟨v64, rfl, his64, hb64⟩
                      obtain ⟨A64, m64, k64, l64, rfl, rr64⟩ := id his64
                      clear rr64
                      refine ⟨_, rfl, fun _ => (Stg.Keep.of_below hb64 (fun q hq => Nat.lt_of_lt_of_le hq hz63.size)), ?_⟩
                      intro A' hA'; simp only [Act.put, List.setIfInBounds_toArray, List.set_cons_succ, List.set_cons_zero] at hA'; subst hA'
                      have cat1064 := hat63.below hb64
                      have cu64 := cu63.below hb64
                      have hz64 := hz63.trans (hb64.mono hz63.size)
                      refine Stg.twoZ 4 9 (by kernel_rfl) ?_ ?_
                      · skip
                        refine Stg.callZ 4 rfl 14 _ _ rfl Tryd.func14 [.agg #[.slice Am mm cm], .agg #[.slice A64 m64 k64]] rfl _ (HDV.o x64 _ hz64 his64) (by kernel_rfl) ?_
                        rintro e x65 ⟨vq65, vr65, rfl, hisq65, hisr65, hb65⟩
                        obtain ⟨Aq65, mq65, kq65, lq65, rfl, rq65⟩ := id hisq65
                        obtain ⟨Ar65, mr65, kr65, lr65, rfl, rr65⟩ := id hisr65
                        clear rq65 rr65
                        refine ⟨_, rfl, fun _ => (Stg.Keep.of_below hb65 (fun q hq => Nat.lt_of_lt_of_le hq hz64.size)), ?_⟩
                        intro A' hA'; simp only [Act.put, List.setIfInBounds_toArray, List.set_cons_succ, List.set_cons_zero] at hA'; subst hA'
                        have cat1065 := cat1064.below hb65
                        have cu65 := his64.below hb65
                        have hz65 := hz64.trans (hb65.mono hz64.size)
                        refine Stg.takeZ 5 (by kernel_rfl) (Stg.Keep.rel _) rfl ?_; intro K hK; go_big_quiet_op; go_big_quiet_on
                        refine Stg.takeZ 6 (by kernel_rfl) (Stg.Keep.rel _) rfl ?_; intro K hK; go_big_quiet_op; go_big_quiet_on
                        refine Stg.takeZ 7 (by kernel_rfl) (Stg.Keep.rel _) rfl ?_; intro K hK; go_big_quiet_op; go_big_quiet_on
                        refine Stg.takeZ 8 (by kernel_rfl) (Stg.Keep.rel _) rfl ?_; intro K hK; go_big_quiet_op; go_big_quiet_on
                        refine Stg.oneZ 9 (by kernel_rfl) ?_
                        refine Stg.stepZ 9 (by kernel_rfl) rfl ?_; intro K hK; go_simp
                        obtain ⟨x66, hw66⟩ : ∃ wz, x65.alloc (.cells #[.slice none 0 0] 27) = wz := ⟨_, rfl⟩
                        have hb66 : Below x65.heap.size x65 x66 := by rw [← hw66]; exact Nm.bel_alloc x65 _
                        have hat66 : Rw.At x66 x65.heap.size 27 [.slice none 0 0] := by rw [← hw66]; exact Rw.At.new x65 27 [.slice none 0 0]
                        rw [hw66]
                        refine hK _ _ (fun _ => (Stg.Keep.of_below hb66 (fun q hq => Nat.lt_of_lt_of_le hq hz65.size))) ?_
                        intro A' hA'; subst hA'
                        have cat1066 := cat1065.below hb66
                        have cq66 := hisq65.below hb66
                        have cr66 := hisr65.below hb66
                        have hz66 := hz65.trans (hb66.mono hz65.size)
                        clear hw66
                        have lt67 := cat1065.lt
                        have ne68 : x1.heap.size ≠ x65.heap.size := Nat.ne_of_lt lt67
                        refine Stg.oneZ 11 (by kernel_rfl) ?_
                        have u169 := hat66.cell 0 rfl
                        have u269 := hat66.frozen 0
                        have u369 := hat66.lt
                        refine Stg.stepZ 11 (by kernel_rfl) rfl ?_; intro K hK; go_simp
                        obtain ⟨x69, hw69⟩ : ∃ wz, x66.setCell ⟨x65.heap.size, 0, none⟩ (.slice Aq65 mq65 kq65) = wz := ⟨_, rfl⟩
                        have hs69 : Rw.At x69 x65.heap.size 27 [.slice Aq65 mq65 kq65] := by rw [← hw69]; exact hat66.set 0 (.slice Aq65 mq65 kq65)
                        have ho69 : Rw.At x69 x1.heap.size 27 [.slice none 0 0] := by rw [← hw69]; exact cat1066.other ne68 _
                        have hq69 := cq66.setAt hat66 (by decide) 0 (.slice Aq65 mq65 kq65)
                        have hr69 := cr66.setAt hat66 (by decide) 0 (.slice Aq65 mq65 kq65)
                        have hz69 := hz66.setCell (p := ⟨x65.heap.size, 0, none⟩) hz65.size (.slice Aq65 mq65 kq65)
                        rw [hw69] at hq69 hr69 hz69
                        rw [hw69]
                        refine hK _ _ (fun _ => by rw [← hw69]; exact Stg.Keep.of_grown (Rw.grown_set _ _ _) (fun q hq => ⟨Nat.lt_of_lt_of_le hq hz66.size, fun e => by cases e; exact absurd hq (Nat.not_lt.2 hz65.size)⟩)) ?_
                        intro A' hA'; subst hA'
                        clear hw69 u169 u269 u369
                        refine Stg.oneZ 12 (by kernel_rfl) ?_
                        have u170 := ho69.cell 0 rfl
                        have u270 := ho69.frozen 0
                        have u370 := ho69.lt
                        refine Stg.stepZ 12 (by kernel_rfl) rfl ?_; intro K hK; go_simp
                        obtain ⟨x70, hw70⟩ : ∃ wz, x69.setCell ⟨x1.heap.size, 0, none⟩ (.slice Ar65 mr65 kr65) = wz := ⟨_, rfl⟩
                        have hs70 : Rw.At x70 x1.heap.size 27 [.slice Ar65 mr65 kr65] := by rw [← hw70]; exact ho69.set 0 (.slice Ar65 mr65 kr65)
                        have ho70 : Rw.At x70 x65.heap.size 27 [.slice Aq65 mq65 kq65] := by rw [← hw70]; exact hs69.other ne68.symm _
                        have hq70 := hq69.setAt ho69 (by decide) 0 (.slice Ar65 mr65 kr65)
                        have hr70 := hr69.setAt ho69 (by decide) 0 (.slice Ar65 mr65 kr65)
                        have hz70 := hz69.setCell (p := ⟨x1.heap.size, 0, none⟩) hz1.size (.slice Ar65 mr65 kr65)
                        rw [hw70] at hq70 hr70 hz70
                        rw [hw70]
                        refine hK _ _ (fun _ => by rw [← hw70]; exact Stg.Keep.of_grown (Rw.grown_set _ _ _) (fun q hq => ⟨Nat.lt_of_lt_of_le hq hz69.size, fun e => by cases e; exact absurd hq (Nat.not_lt.2 hz1.size)⟩)) ?_
                        intro A' hA'; subst hA'
                        clear hw70 u170 u270 u370
                        refine Stg.takeZ 13 (by kernel_rfl) (Stg.Keep.rel _) rfl ?_; intro K hK; go_big_quiet_op; go_big_quiet_on
                        refine Stg.endZ (by kernel_rfl) ?_
                        go_wp2_with fail
                        go_meet
                        exact ⟨_, _, Aq65, mq65, kq65, Ar65, mr65, kr65, rfl, rfl, rfl, ho70, hs70, hq70, hr70, hz65.size, hz1.size, hz70⟩
                      · skip
                        refine Stg.stepZ 9 (by kernel_rfl) rfl ?_; intro K hK; go_simp
                        obtain ⟨x71, hw71⟩ : ∃ wz, x64.alloc (.cells #[.slice none 0 0] 27) = wz := ⟨_, rfl⟩
                        have hb71 : Below x64.heap.size x64 x71 := by rw [← hw71]; exact Nm.bel_alloc x64 _
                        have hat71 : Rw.At x71 x64.heap.size 27 [.slice none 0 0] := by rw [← hw71]; exact Rw.At.new x64 27 [.slice none 0 0]
                        rw [hw71]
                        refine hK _ _ (fun _ => (Stg.Keep.of_below hb71 (fun q hq => Nat.lt_of_lt_of_le hq hz64.size))) ?_
                        intro A' hA'; subst hA'
                        have cat1071 := cat1064.below hb71
                        have cu71 := his64.below hb71
                        have hz71 := hz64.trans (hb71.mono hz64.size)
                        clear hw71
                        have lt72 := cat1064.lt
                        refine Stg.oneZ 4 (by kernel_rfl) ?_
                        refine Stg.callZ 4 rfl 14 _ _ rfl Tryd.func14 [.agg #[.slice Am mm cm], .agg #[.slice A64 m64 k64]] rfl _ (HDV.o x71 _ hz71 cu71) (by kernel_rfl) ?_
                        rintro e x73 ⟨vq73, vr73, rfl, hisq73, hisr73, hb73⟩
                        obtain ⟨Aq73, mq73, kq73, lq73, rfl, rq73⟩ := id hisq73
                        obtain ⟨Ar73, mr73, kr73, lr73, rfl, rr73⟩ := id hisr73
                        clear rq73 rr73
                        refine ⟨_, rfl, fun _ => (Stg.Keep.of_below hb73 (fun q hq => Nat.lt_of_lt_of_le hq hz71.size)), ?_⟩
                        intro A' hA'; simp only [Act.put, List.setIfInBounds_toArray, List.set_cons_succ, List.set_cons_zero] at hA'; subst hA'
                        have cat973 := hat71.below hb73
                        have cat1073 := cat1071.below hb73
                        have cu73 := cu71.below hb73
                        have hz73 := hz71.trans (hb73.mono hz71.size)
                        refine Stg.takeZ 5 (by kernel_rfl) (Stg.Keep.rel _) rfl ?_; intro K hK; go_big_quiet_op; go_big_quiet_on
                        refine Stg.takeZ 6 (by kernel_rfl) (Stg.Keep.rel _) rfl ?_; intro K hK; go_big_quiet_op; go_big_quiet_on
                        refine Stg.takeZ 7 (by kernel_rfl) (Stg.Keep.rel _) rfl ?_; intro K hK; go_big_quiet_op; go_big_quiet_on
                        refine Stg.takeZ 8 (by kernel_rfl) (Stg.Keep.rel _) rfl ?_; intro K hK; go_big_quiet_op; go_big_quiet_on
                        have ne74 : x1.heap.size ≠ x64.heap.size := Nat.ne_of_lt lt72
                        refine Stg.oneZ 11 (by kernel_rfl) ?_
                        have u175 := cat973.cell 0 rfl
                        have u275 := cat973.frozen 0
                        have u375 := cat973.lt
                        refine Stg.stepZ 11 (by kernel_rfl) rfl ?_; intro K hK; go_simp
                        obtain ⟨x75, hw75⟩ : ∃ wz, x73.setCell ⟨x64.heap.size, 0, none⟩ (.slice Aq73 mq73 kq73) = wz := ⟨_, rfl⟩
                        have hs75 : Rw.At x75 x64.heap.size 27 [.slice Aq73 mq73 kq73] := by rw [← hw75]; exact cat973.set 0 (.slice Aq73 mq73 kq73)
                        have ho75 : Rw.At x75 x1.heap.size 27 [.slice none 0 0] := by rw [← hw75]; exact cat1073.other ne74 _
                        have hq75 := hisq73.setAt cat973 (by decide) 0 (.slice Aq73 mq73 kq73)
                        have hr75 := hisr73.setAt cat973 (by decide) 0 (.slice Aq73 mq73 kq73)
                        have hz75 := hz73.setCell (p := ⟨x64.heap.size, 0, none⟩) hz64.size (.slice Aq73 mq73 kq73)
                        rw [hw75] at hq75 hr75 hz75
                        rw [hw75]
                        refine hK _ _ (fun _ => by rw [← hw75]; exact Stg.Keep.of_grown (Rw.grown_set _ _ _) (fun q hq => ⟨Nat.lt_of_lt_of_le hq hz73.size, fun e => by cases e; exact absurd hq (Nat.not_lt.2 hz64.size)⟩)) ?_
                        intro A' hA'; subst hA'
                        clear hw75 u175 u275 u375
                        refine Stg.oneZ 12 (by kernel_rfl) ?_
                        have u176 := ho75.cell 0 rfl
                        have u276 := ho75.frozen 0
                        have u376 := ho75.lt
                        refine Stg.stepZ 12 (by kernel_rfl) rfl ?_; intro K hK; go_simp
                        obtain ⟨x76, hw76⟩ : ∃ wz, x75.setCell ⟨x1.heap.size, 0, none⟩ (.slice Ar73 mr73 kr73) = wz := ⟨_, rfl⟩
                        have hs76 : Rw.At x76 x1.heap.size 27 [.slice Ar73 mr73 kr73] := by rw [← hw76]; exact ho75.set 0 (.slice Ar73 mr73 kr73)
                        have ho76 : Rw.At x76 x64.heap.size 27 [.slice Aq73 mq73 kq73] := by rw [← hw76]; exact hs75.other ne74.symm _
                        have hq76 := hq75.setAt ho75 (by decide) 0 (.slice Ar73 mr73 kr73)
                        have hr76 := hr75.setAt ho75 (by decide) 0 (.slice Ar73 mr73 kr73)
                        have hz76 := hz75.setCell (p := ⟨x1.heap.size, 0, none⟩) hz1.size (.slice Ar73 mr73 kr73)
                        rw [hw76] at hq76 hr76 hz76
                        rw [hw76]
                        refine hK _ _ (fun _ => by rw [← hw76]; exact Stg.Keep.of_grown (Rw.grown_set _ _ _) (fun q hq => ⟨Nat.lt_of_lt_of_le hq hz75.size, fun e => by cases e; exact absurd hq (Nat.not_lt.2 hz1.size)⟩)) ?_
                        intro A' hA'; subst hA'
                        clear hw76 u176 u276 u376
                        refine Stg.takeZ 13 (by kernel_rfl) (Stg.Keep.rel _) rfl ?_; intro K hK; go_big_quiet_op; go_big_quiet_on
                        refine Stg.endZ (by kernel_rfl) ?_
                        go_wp2_with fail
                        go_meet
                        exact ⟨_, _, Aq73, mq73, kq73, Ar73, mr73, kr73, rfl, rfl, rfl, ho76, hs76, hq76, hr76, hz64.size, hz1.size, hz76⟩
                    · skip
                      refine Stg.stepZ 9 (by kernel_rfl) rfl ?_; intro K hK; go_simp
                      obtain ⟨x77, hw77⟩ : ∃ wz, x63.alloc (.cells #[.slice none 0 0] 27) = wz := ⟨_, rfl⟩
                      have hb77 : Below x63.heap.size x63 x77 := by rw [← hw77]; exact Nm.bel_alloc x63 _
                      have hat77 : Rw.At x77 x63.heap.size 27 [.slice none 0 0] := by rw [← hw77]; exact Rw.At.new x63 27 [.slice none 0 0]
                      rw [hw77]
                      refine hK _ _ (fun _ => (Stg.Keep.of_below hb77 (fun q hq => Nat.lt_of_lt_of_le hq hz63.size))) ?_
                      intro A' hA'; subst hA'
                      have cat1077 := hat63.below hb77
                      have cu77 := cu63.below hb77
                      have hz77 := hz63.trans (hb77.mono hz63.size)
                      clear hw77
                      have lt78 := hat63.lt
                      refine Stg.oneZ 3 (by kernel_rfl) ?_
                      refine Stg.callZ 3 rfl 7 _ _ rfl Tryd.func7 [.agg #[.slice Av mv cv], .agg #[.slice A1 m1 k1]] rfl _ (HAD.o x77 _ hz77 cu77) (by kernel_rfl) ?_
                      rintro e x79 ⟨v79, rfl, his79, hb79⟩
                      obtain ⟨A79, m79, k79, l79, rfl, rr79⟩ := id his79
                      clear rr79
                      refine ⟨_, rfl, fun _ => (Stg.Keep.of_below hb79 (fun q hq => Nat.lt_of_lt_of_le hq hz77.size)), ?_⟩
                      intro A' hA'; simp only [Act.put, List.setIfInBounds_toArray, List.set_cons_succ, List.set_cons_zero] at hA'; subst hA'
                      have cat979 := hat77.below hb79
                      have cat1079 := cat1077.below hb79
                      have cu79 := cu77.below hb79
                      have hz79 := hz77.trans (hb79.mono hz77.size)
                      refine Stg.oneZ 4 (by kernel_rfl) ?_
                      refine Stg.callZ 4 rfl 14 _ _ rfl Tryd.func14 [.agg #[.slice Am mm cm], .agg #[.slice A79 m79 k79]] rfl _ (HDV.o x79 _ hz79 his79) (by kernel_rfl) ?_
                      rintro e x80 ⟨vq80, vr80, rfl, hisq80, hisr80, hb80⟩
                      obtain ⟨Aq80, mq80, kq80, lq80, rfl, rq80⟩ := id hisq80
                      obtain ⟨Ar80, mr80, kr80, lr80, rfl, rr80⟩ := id hisr80
                      clear rq80 rr80
                      refine ⟨_, rfl, fun _ => (Stg.Keep.of_below hb80 (fun q hq => Nat.lt_of_lt_of_le hq hz79.size)), ?_⟩
                      intro A' hA'; simp only [Act.put, List.setIfInBounds_toArray, List.set_cons_succ, List.set_cons_zero] at hA'; subst hA'
                      have cat980 := cat979.below hb80
                      have cat1080 := cat1079.below hb80
                      have cu80 := his79.below hb80
                      have hz80 := hz79.trans (hb80.mono hz79.size)
                      refine Stg.takeZ 5 (by kernel_rfl) (Stg.Keep.rel _) rfl ?_; intro K hK; go_big_quiet_op; go_big_quiet_on
                      refine Stg.takeZ 6 (by kernel_rfl) (Stg.Keep.rel _) rfl ?_; intro K hK; go_big_quiet_op; go_big_quiet_on
                      refine Stg.takeZ 7 (by kernel_rfl) (Stg.Keep.rel _) rfl ?_; intro K hK; go_big_quiet_op; go_big_quiet_on
                      refine Stg.takeZ 8 (by kernel_rfl) (Stg.Keep.rel _) rfl ?_; intro K hK; go_big_quiet_op; go_big_quiet_on
                      have ne81 : x1.heap.size ≠ x63.heap.size := Nat.ne_of_lt lt78
                      refine Stg.oneZ 11 (by kernel_rfl) ?_
                      have u182 := cat980.cell 0 rfl
                      have u282 := cat980.frozen 0
                      have u382 := cat980.lt
                      refine Stg.stepZ 11 (by kernel_rfl) rfl ?_; intro K hK; go_simp
                      obtain ⟨x82, hw82⟩ : ∃ wz, x80.setCell ⟨x63.heap.size, 0, none⟩ (.slice Aq80 mq80 kq80) = wz := ⟨_, rfl⟩
                      have hs82 : Rw.At x82 x63.heap.size 27 [.slice Aq80 mq80 kq80] := by rw [← hw82]; exact cat980.set 0 (.slice Aq80 mq80 kq80)
                      have ho82 : Rw.At x82 x1.heap.size 27 [.slice none 0 0] := by rw [← hw82]; exact cat1080.other ne81 _
                      have hq82 := hisq80.setAt cat980 (by decide) 0 (.slice Aq80 mq80 kq80)
                      have hr82 := hisr80.setAt cat980 (by decide) 0 (.slice Aq80 mq80 kq80)
                      have hz82 := hz80.setCell (p := ⟨x63.heap.size, 0, none⟩) hz63.size (.slice Aq80 mq80 kq80)
                      rw [hw82] at hq82 hr82 hz82
                      rw [hw82]
                      refine hK _ _ (fun _ => by rw [← hw82]; exact Stg.Keep.of_grown (Rw.grown_set _ _ _) (fun q hq => ⟨Nat.lt_of_lt_of_le hq hz80.size, fun e => by cases e; exact absurd hq (Nat.not_lt.2 hz63.size)⟩)) ?_
                      intro A' hA'; subst hA'
                      clear hw82 u182 u282 u382
                      refine Stg.oneZ 12 (by kernel_rfl) ?_
                      have u183 := ho82.cell 0 rfl
                      have u283 := ho82.frozen 0
                      have u383 := ho82.lt
                      refine Stg.stepZ 12 (by kernel_rfl) rfl ?_; intro K hK; go_simp
                      obtain ⟨x83, hw83⟩ : ∃ wz, x82.setCell ⟨x1.heap.size, 0, none⟩ (.slice Ar80 mr80 kr80) = wz := ⟨_, rfl⟩
                      have hs83 : Rw.At x83 x1.heap.size 27 [.slice Ar80 mr80 kr80] := by rw [← hw83]; exact ho82.set 0 (.slice Ar80 mr80 kr80)
                      have ho83 : Rw.At x83 x63.heap.size 27 [.slice Aq80 mq80 kq80] := by rw [← hw83]; exact hs82.other ne81.symm _
                      have hq83 := hq82.setAt ho82 (by decide) 0 (.slice Ar80 mr80 kr80)
                      have hr83 := hr82.setAt ho82 (by decide) 0 (.slice Ar80 mr80 kr80)
                      have hz83 := hz82.setCell (p := ⟨x1.heap.size, 0, none⟩) hz1.size (.slice Ar80 mr80 kr80)
                      rw [hw83] at hq83 hr83 hz83
                      rw [hw83]
                      refine hK _ _ (fun _ => by rw [← hw83]; exact Stg.Keep.of_grown (Rw.grown_set _ _ _) (fun q hq => ⟨Nat.lt_of_lt_of_le hq hz82.size, fun e => by cases e; exact absurd hq (Nat.not_lt.2 hz1.size)⟩)) ?_
                      intro A' hA'; subst hA'
                      clear hw83 u183 u283 u383
                      refine Stg.takeZ 13 (by kernel_rfl) (Stg.Keep.rel _) rfl ?_; intro K hK; go_big_quiet_op; go_big_quiet_on
                      refine Stg.endZ (by kernel_rfl) ?_
                      go_wp2_with fail
                      go_meet
                      exact ⟨_, _, Aq80, mq80, kq80, Ar80, mr80, kr80, rfl, rfl, rfl, ho83, hs83, hq83, hr83, hz63.size, hz1.size, hz83⟩
                · skip
                  refine Stg.stepZ 9 (by kernel_rfl) rfl ?_; intro K hK; go_simp
                  obtain ⟨x84, hw84⟩ : ∃ wz, (we.alloc (.cells #[.slice none 0 0] 27)).drew = wz := ⟨_, rfl⟩
                  have hb84 : Below we.heap.size we.drew x84 := by rw [← hw84]; exact Nm.bel_alloc_drew we _
                  have hat84 : Rw.At x84 we.heap.size 27 [.slice none 0 0] := by rw [← hw84]; exact Rw.At.new we 27 [.slice none 0 0]
                  rw [hw84]
                  refine hK _ _ (fun _ => (Stg.Keep.of_below hb84 (fun q hq => Nat.lt_of_lt_of_le hq hzd.size))) ?_
                  intro A' hA'; subst hA'
                  have hz84 := hzd.trans (hb84.mono hzd.size)
                  clear hw84
                  refine Stg.twoZ 2 10 (by kernel_rfl) ?_ ?_
                  · skip
                    refine Stg.callZ 2 rfl 4 _ _ rfl Tryd.func4 [.int .u64 1] rfl _ (HOF1.o x84) (by kernel_rfl) ?_
                    rintro e x85 ⟨v85, rfl, his85, hb85⟩
                    obtain ⟨A85, m85, k85, l85, rfl, rr85⟩ := id his85
                    clear rr85
                    refine ⟨_, rfl, fun _ => (Stg.Keep.of_below hb85 (fun q hq => Nat.lt_of_lt_of_le hq hz84.size)), ?_⟩
                    intro A' hA'; simp only [Act.put, List.setIfInBounds_toArray, List.set_cons_succ, List.set_cons_zero] at hA'; subst hA'
                    have cat985 := hat84.below hb85
                    have hz85 := hz84.trans (hb85.mono hz84.size)
                    refine Stg.twoZ 3 10 (by kernel_rfl) ?_ ?_
                    · skip
                      refine Stg.callZ 3 rfl 7 _ _ rfl Tryd.func7 [.agg #[.slice Av mv cv], .agg #[.slice A85 m85 k85]] rfl _ (HAD.o x85 _ hz85 his85) (by kernel_rfl) ?_
                      rintro e x86 ⟨v86, rfl, his86, hb86⟩
                      obtain ⟨A86, m86, k86, l86, rfl, rr86⟩ := id his86
                      clear rr86
                      refine ⟨_, rfl, fun _ => (Stg.Keep.of_below hb86 (fun q hq => Nat.lt_of_lt_of_le hq hz85.size)), ?_⟩
                      intro A' hA'; simp only [Act.put, List.setIfInBounds_toArray, List.set_cons_succ, List.set_cons_zero] at hA'; subst hA'
                      have cat986 := cat985.below hb86
                      have cu86 := his85.below hb86
                      have hz86 := hz85.trans (hb86.mono hz85.size)
                      refine Stg.twoZ 4 10 (by kernel_rfl) ?_ ?_
                      · skip
                        refine Stg.callZ 4 rfl 14 _ _ rfl Tryd.func14 [.agg #[.slice Am mm cm], .agg #[.slice A86 m86 k86]] rfl _ (HDV.o x86 _ hz86 his86) (by kernel_rfl) ?_
                        rintro e x87 ⟨vq87, vr87, rfl, hisq87, hisr87, hb87⟩
                        obtain ⟨Aq87, mq87, kq87, lq87, rfl, rq87⟩ := id hisq87
                        obtain ⟨Ar87, mr87, kr87, lr87, rfl, rr87⟩ := id hisr87
                        clear rq87 rr87
                        refine ⟨_, rfl, fun _ => (Stg.Keep.of_below hb87 (fun q hq => Nat.lt_of_lt_of_le hq hz86.size)), ?_⟩
                        intro A' hA'; simp only [Act.put, List.setIfInBounds_toArray, List.set_cons_succ, List.set_cons_zero] at hA'; subst hA'
                        have cat987 := cat986.below hb87
                        have cu87 := his86.below hb87
                        have hz87 := hz86.trans (hb87.mono hz86.size)
                        refine Stg.takeZ 5 (by kernel_rfl) (Stg.Keep.rel _) rfl ?_; intro K hK; go_big_quiet_op; go_big_quiet_on
                        refine Stg.takeZ 6 (by kernel_rfl) (Stg.Keep.rel _) rfl ?_; intro K hK; go_big_quiet_op; go_big_quiet_on
                        refine Stg.takeZ 7 (by kernel_rfl) (Stg.Keep.rel _) rfl ?_; intro K hK; go_big_quiet_op; go_big_quiet_on
                        refine Stg.takeZ 8 (by kernel_rfl) (Stg.Keep.rel _) rfl ?_; intro K hK; go_big_quiet_op; go_big_quiet_on
                        refine Stg.oneZ 10 (by kernel_rfl) ?_
                        refine Stg.stepZ 10 (by kernel_rfl) rfl ?_; intro K hK; go_simp
                        obtain ⟨x88, hw88⟩ : ∃ wz, x87.alloc (.cells #[.slice none 0 0] 27) = wz := ⟨_, rfl⟩
                        have hb88 : Below x87.heap.size x87 x88 := by rw [← hw88]; exact Nm.bel_alloc x87 _
                        have hat88 : Rw.At x88 x87.heap.size 27 [.slice none 0 0] := by rw [← hw88]; exact Rw.At.new x87 27 [.slice none 0 0]
                        rw [hw88]
                        refine hK _ _ (fun _ => (Stg.Keep.of_below hb88 (fun q hq => Nat.lt_of_lt_of_le hq hz87.size))) ?_
                        intro A' hA'; subst hA'
                        have cat988 := cat987.below hb88
                        have cq88 := hisq87.below hb88
                        have cr88 := hisr87.below hb88
                        have hz88 := hz87.trans (hb88.mono hz87.size)
                        clear hw88
                        have lt89 := cat987.lt
                        have ne90 : x87.heap.size ≠ we.heap.size := Nat.ne_of_gt lt89
                        refine Stg.oneZ 11 (by kernel_rfl) ?_
                        have u191 := cat988.cell 0 rfl
                        have u291 := cat988.frozen 0
                        have u391 := cat988.lt
                        refine Stg.stepZ 11 (by kernel_rfl) rfl ?_; intro K hK; go_simp
                        obtain ⟨x91, hw91⟩ : ∃ wz, x88.setCell ⟨we.heap.size, 0, none⟩ (.slice Aq87 mq87 kq87) = wz := ⟨_, rfl⟩
                        have hs91 : Rw.At x91 we.heap.size 27 [.slice Aq87 mq87 kq87] := by rw [← hw91]; exact cat988.set 0 (.slice Aq87 mq87 kq87)
                        have ho91 : Rw.At x91 x87.heap.size 27 [.slice none 0 0] := by rw [← hw91]; exact hat88.other ne90 _
                        have hq91 := cq88.setAt cat988 (by decide) 0 (.slice Aq87 mq87 kq87)
                        have hr91 := cr88.setAt cat988 (by decide) 0 (.slice Aq87 mq87 kq87)
                        have hz91 := hz88.setCell (p := ⟨we.heap.size, 0, none⟩) hzd.size (.slice Aq87 mq87 kq87)
                        rw [hw91] at hq91 hr91 hz91
                        rw [hw91]
                        refine hK _ _ (fun _ => by rw [← hw91]; exact Stg.Keep.of_grown (Rw.grown_set _ _ _) (fun q hq => ⟨Nat.lt_of_lt_of_le hq hz88.size, fun e => by cases e; exact absurd hq (Nat.not_lt.2 hzd.size)⟩)) ?_
                        intro A' hA'; subst hA'
                        clear hw91 u191 u291 u391
                        refine Stg.oneZ 12 (by kernel_rfl) ?_
                        have u192 := ho91.cell 0 rfl
                        have u292 := ho91.frozen 0
                        have u392 := ho91.lt
                        refine Stg.stepZ 12 (by kernel_rfl) rfl ?_; intro K hK; go_simp
                        obtain ⟨x92, hw92⟩ : ∃ wz, x91.setCell ⟨x87.heap.size, 0, none⟩ (.slice Ar87 mr87 kr87) = wz := ⟨_, rfl⟩
                        have hs92 : Rw.At x92 x87.heap.size 27 [.slice Ar87 mr87 kr87] := by rw [← hw92]; exact ho91.set 0 (.slice Ar87 mr87 kr87)
                        have ho92 : Rw.At x92 we.heap.size 27 [.slice Aq87 mq87 kq87] := by rw [← hw92]; exact hs91.other ne90.symm _
                        have hq92 := hq91.setAt ho91 (by decide) 0 (.slice Ar87 mr87 kr87)
                        have hr92 := hr91.setAt ho91 (by decide) 0 (.slice Ar87 mr87 kr87)
                        have hz92 := hz91.setCell (p := ⟨x87.heap.size, 0, none⟩) hz87.size (.slice Ar87 mr87 kr87)
                        rw [hw92] at hq92 hr92 hz92
                        rw [hw92]
                        refine hK _ _ (fun _ => by rw [← hw92]; exact Stg.Keep.of_grown (Rw.grown_set _ _ _) (fun q hq => ⟨Nat.lt_of_lt_of_le hq hz91.size, fun e => by cases e; exact absurd hq (Nat.not_lt.2 hz87.size)⟩)) ?_
                        intro A' hA'; subst hA'
                        clear hw92 u192 u292 u392
                        refine Stg.takeZ 13 (by kernel_rfl) (Stg.Keep.rel _) rfl ?_; intro K hK; go_big_quiet_op; go_big_quiet_on
                        refine Stg.endZ (by kernel_rfl) ?_
                        go_wp2_with fail
                        go_meet
                        exact ⟨_, _, Aq87, mq87, kq87, Ar87, mr87, kr87, rfl, rfl, rfl, ho92, hs92, hq92, hr92, hzd.size, hz87.size, hz92⟩
                      · skip
                        refine Stg.stepZ 10 (by kernel_rfl) rfl ?_; intro K hK; go_simp
                        obtain ⟨x93, hw93⟩ : ∃ wz, x86.alloc (.cells #[.slice none 0 0] 27) = wz := ⟨_, rfl⟩
                        have hb93 : Below x86.heap.size x86 x93 := by rw [← hw93]; exact Nm.bel_alloc x86 _
                        have hat93 : Rw.At x93 x86.heap.size 27 [.slice none 0 0] := by rw [← hw93]; exact Rw.At.new x86 27 [.slice none 0 0]
                        rw [hw93]
                        refine hK _ _ (fun _ => (Stg.Keep.of_below hb93 (fun q hq => Nat.lt_of_lt_of_le hq hz86.size))) ?_
                        intro A' hA'; subst hA'
                        have cat993 := cat986.below hb93
                        have cu93 := his86.below hb93
                        have hz93 := hz86.trans (hb93.mono hz86.size)
                        clear hw93
                        have lt94 := cat986.lt
                        refine Stg.oneZ 4 (by kernel_rfl) ?_
                        refine Stg.callZ 4 rfl 14 _ _ rfl Tryd.func14 [.agg #[.slice Am mm cm], .agg #[.slice A86 m86 k86]] rfl _ (HDV.o x93 _ hz93 cu93) (by kernel_rfl) ?_
                        rintro e x95 ⟨vq95, vr95, rfl, hisq95, hisr95, hb95⟩
                        obtain ⟨Aq95, mq95, kq95, lq95, rfl, rq95⟩ := id hisq95
                        obtain ⟨Ar95, mr95, kr95, lr95, rfl, rr95⟩ := id hisr95
                        clear rq95 rr95
                        refine ⟨_, rfl, fun _ => (Stg.Keep.of_below hb95 (fun q hq => Nat.lt_of_lt_of_le hq hz93.size)), ?_⟩
                        intro A' hA'; simp only [Act.put, List.setIfInBounds_toArray, List.set_cons_succ, List.set_cons_zero] at hA'; subst hA'
                        have cat995 := cat993.below hb95
                        have cat1095 := hat93.below hb95
                        have cu95 := cu93.below hb95
                        have hz95 := hz93.trans (hb95.mono hz93.size)
                        refine Stg.takeZ 5 (by kernel_rfl) (Stg.Keep.rel _) rfl ?_; intro K hK; go_big_quiet_op; go_big_quiet_on
                        refine Stg.takeZ 6 (by kernel_rfl) (Stg.Keep.rel _) rfl ?_; intro K hK; go_big_quiet_op; go_big_quiet_on
                        refine Stg.takeZ 7 (by kernel_rfl) (Stg.Keep.rel _) rfl ?_; intro K hK; go_big_quiet_op; go_big_quiet_on
                        refine Stg.takeZ 8 (by kernel_rfl) (Stg.Keep.rel _) rfl ?_; intro K hK; go_big_quiet_op; go_big_quiet_on
                        have ne96 : x86.heap.size ≠ we.heap.size := Nat.ne_of_gt lt94
                        refine Stg.oneZ 11 (by kernel_rfl) ?_
                        have u197 := cat995.cell 0 rfl
                        have u297 := cat995.frozen 0
                        have u397 := cat995.lt
                        refine Stg.stepZ 11 (by kernel_rfl) rfl ?_; intro K hK; go_simp
                        obtain ⟨x97, hw97⟩ : ∃ wz, x95.setCell ⟨we.heap.size, 0, none⟩ (.slice Aq95 mq95 kq95) = wz := ⟨_, rfl⟩
                        have hs97 : Rw.At x97 we.heap.size 27 [.slice Aq95 mq95 kq95] := by rw [← hw97]; exact cat995.set 0 (.slice Aq95 mq95 kq95)
                        have ho97 : Rw.At x97 x86.heap.size 27 [.slice none 0 0] := by rw [← hw97]; exact cat1095.other ne96 _
                        have hq97 := hisq95.setAt cat995 (by decide) 0 (.slice Aq95 mq95 kq95)
                        have hr97 := hisr95.setAt cat995 (by decide) 0 (.slice Aq95 mq95 kq95)
                        have hz97 := hz95.setCell (p := ⟨we.heap.size, 0, none⟩) hzd.size (.slice Aq95 mq95 kq95)
                        rw [hw97] at hq97 hr97 hz97
                        rw [hw97]
                        refine hK _ _ (fun _ => by rw [← hw97]; exact Stg.Keep.of_grown (Rw.grown_set _ _ _) (fun q hq => ⟨Nat.lt_of_lt_of_le hq hz95.size, fun e => by cases e; exact absurd hq (Nat.not_lt.2 hzd.size)⟩)) ?_
                        intro A' hA'; subst hA'
                        clear hw97 u197 u297 u397
                        refine Stg.oneZ 12 (by kernel_rfl) ?_
                        have u198 := ho97.cell 0 rfl
                        have u298 := ho97.frozen 0
                        have u398 := ho97.lt
                        refine Stg.stepZ 12 (by kernel_rfl) rfl ?_; intro K hK; go_simp
                        obtain ⟨x98, hw98⟩ : ∃ wz, x97.setCell ⟨x86.heap.size, 0, none⟩ (.slice Ar95 mr95 kr95) = wz := ⟨_, rfl⟩
                        have hs98 : Rw.At x98 x86.heap.size 27 [.slice Ar95 mr95 kr95] := by rw [← hw98]; exact ho97.set 0 (.slice Ar95 mr95 kr95)
                        have ho98 : Rw.At x98 we.heap.size 27 [.slice Aq95 mq95 kq95] := by rw [← hw98]; exact hs97.other ne96.symm _
                        have hq98 := hq97.setAt ho97 (by decide) 0 (.slice Ar95 mr95 kr95)
                        have hr98 := hr97.setAt ho97 (by decide) 0 (.slice Ar95 mr95 kr95)
                        have hz98 := hz97.setCell (p := ⟨x86.heap.size, 0, none⟩) hz86.size (.slice Ar95 mr95 kr95)
                        rw [hw98] at hq98 hr98 hz98
                        rw [hw98]
                        refine hK _ _ (fun _ => by rw [← hw98]; exact Stg.Keep.of_grown (Rw.grown_set _ _ _) (fun q hq => ⟨Nat.lt_of_lt_of_le hq hz97.size, fun e => by cases e; exact absurd hq (Nat.not_lt.2 hz86.size)⟩)) ?_
                        intro A' hA'; subst hA'
                        clear hw98 u198 u298 u398
                        refine Stg.takeZ 13 (by kernel_rfl) (Stg.Keep.rel _) rfl ?_; intro K hK; go_big_quiet_op; go_big_quiet_on
                        refine Stg.endZ (by kernel_rfl) ?_
                        go_wp2_with fail
                        go_meet
                        exact ⟨_, _, Aq95, mq95, kq95, Ar95, mr95, kr95, rfl, rfl, rfl, ho98, hs98, hq98, hr98, hzd.size, hz86.size, hz98⟩
                    · skip
                      refine Stg.stepZ 10 (by kernel_rfl) rfl ?_; intro K hK; go_simp
                      obtain ⟨x99, hw99⟩ : ∃ wz, x85.alloc (.cells #[.slice none 0 0] 27) = wz := ⟨_, rfl⟩
                      have hb99 : Below x85.heap.size x85 x99 := by rw [← hw99]; exact Nm.bel_alloc x85 _
                      have hat99 : Rw.At x99 x85.heap.size 27 [.slice none 0 0] := by rw [← hw99]; exact Rw.At.new x85 27 [.slice none 0 0]
                      rw [hw99]
                      refine hK _ _ (fun _ => (Stg.Keep.of_below hb99 (fun q hq => Nat.lt_of_lt_of_le hq hz85.size))) ?_
                      intro A' hA'; subst hA'
                      have cat999 := cat985.below hb99
                      have cu99 := his85.below hb99
                      have hz99 := hz85.trans (hb99.mono hz85.size)
                      clear hw99
                      have lt100 := cat985.lt
                      refine Stg.oneZ 3 (by kernel_rfl) ?_
                      refine Stg.callZ 3 rfl 7 _ _ rfl Tryd.func7 [.agg #[.slice Av mv cv], .agg #[.slice A85 m85 k85]] rfl _ (HAD.o x99 _ hz99 cu99) (by kernel_rfl) ?_
                      rintro e x101 ⟨v101, rfl, his101, hb101⟩
                      obtain ⟨A101, m101, k101, l101, rfl, rr101⟩ := id his101
                      clear rr101
                      refine ⟨_, rfl, fun _ => (Stg.Keep.of_below hb101 (fun q hq => Nat.lt_of_lt_of_le hq hz99.size)), ?_⟩
                      intro A' hA'; simp only [Act.put, List.setIfInBounds_toArray, List.set_cons_succ, List.set_cons_zero] at hA'; subst hA'
                      have cat9101 := cat999.below hb101
                      have cat10101 := hat99.below hb101
                      have cu101 := cu99.below hb101
                      have hz101 := hz99.trans (hb101.mono hz99.size)
                      refine Stg.oneZ 4 (by kernel_rfl) ?_
                      refine Stg.callZ 4 rfl 14 _ _ rfl Tryd.func14 [.agg #[.slice Am mm cm], .agg #[.slice A101 m101 k101]] rfl _ (HDV.o x101 _ hz101 his101) (by kernel_rfl) ?_
                      rintro e x102 ⟨vq102, vr102, rfl, hisq102, hisr102, hb102⟩
                      obtain ⟨Aq102, mq102, kq102, lq102, rfl, rq102⟩ := id hisq102
                      obtain ⟨Ar102, mr102, kr102, lr102, rfl, rr102⟩ := id hisr102
                      clear rq102 rr102
                      refine ⟨_, rfl, fun _ => (Stg.Keep.of_below hb102 (fun q hq => Nat.lt_of_lt_of_le hq hz101.size)), ?_⟩
                      intro A' hA'; simp only [Act.put, List.setIfInBounds_toArray, List.set_cons_succ, List.set_cons_zero] at hA'; subst hA'
                      have cat9102 := cat9101.below hb102
                      have cat10102 := cat10101.below hb102
                      have cu102 := his101.below hb102
                      have hz102 := hz101.trans (hb102.mono hz101.size)
                      refine Stg.takeZ 5 (by kernel_rfl) (Stg.Keep.rel _) rfl ?_; intro K hK; go_big_quiet_op; go_big_quiet_on
                      refine Stg.takeZ 6 (by kernel_rfl) (Stg.Keep.rel _) rfl ?_; intro K hK; go_big_quiet_op; go_big_quiet_on
                      refine Stg.takeZ 7 (by kernel_rfl) (Stg.Keep.rel _) rfl ?_; intro K hK; go_big_quiet_op; go_big_quiet_on
                      refine Stg.takeZ 8 (by kernel_rfl) (Stg.Keep.rel _) rfl ?_; intro K hK; go_big_quiet_op; go_big_quiet_on
                      have ne103 : x85.heap.size ≠ we.heap.size := Nat.ne_of_gt lt100
                      refine Stg.oneZ 11 (by kernel_rfl) ?_
                      have u1104 := cat9102.cell 0 rfl
                      have u2104 := cat9102.frozen 0
                      have u3104 := cat9102.lt
                      refine Stg.stepZ 11 (by kernel_rfl) rfl ?_; intro K hK; go_simp
                      obtain ⟨x104, hw104⟩ : ∃ wz, x102.setCell ⟨we.heap.size, 0, none⟩ (.slice Aq102 mq102 kq102) = wz := ⟨_, rfl⟩
                      have hs104 : Rw.At x104 we.heap.size 27 [.slice Aq102 mq102 kq102] := by rw [← hw104]; exact cat9102.set 0 (.slice Aq102 mq102 kq102)
                      have ho104 : Rw.At x104 x85.heap.size 27 [.slice none 0 0] := by rw [← hw104]; exact cat10102.other ne103 _
                      have hq104 := hisq102.setAt cat9102 (by decide) 0 (.slice Aq102 mq102 kq102)
                      have hr104 := hisr102.setAt cat9102 (by decide) 0 (.slice Aq102 mq102 kq102)
                      have hz104 := hz102.setCell (p := ⟨we.heap.size, 0, none⟩) hzd.size (.slice Aq102 mq102 kq102)
                      rw [hw104] at hq104 hr104 hz104
                      rw [hw104]
                      refine hK _ _ (fun _ => by rw [← hw104]; exact Stg.Keep.of_grown (Rw.grown_set _ _ _) (fun q hq => ⟨Nat.lt_of_lt_of_le hq hz102.size, fun e => by cases e; exact absurd hq (Nat.not_lt.2 hzd.size)⟩)) ?_
                      intro A' hA'; subst hA'
                      clear hw104 u1104 u2104 u3104
                      refine Stg.oneZ 12 (by kernel_rfl) ?_
                      have u1105 := ho104.cell 0 rfl
                      have u2105 := ho104.frozen 0
                      have u3105 := ho104.lt
                      refine Stg.stepZ 12 (by kernel_rfl) rfl ?_; intro K hK; go_simp
                      obtain ⟨x105, hw105⟩ : ∃ wz, x104.setCell ⟨x85.heap.size, 0, none⟩ (.slice Ar102 mr102 kr102) = wz := ⟨_, rfl⟩
                      have hs105 : Rw.At x105 x85.heap.size 27 [.slice Ar102 mr102 kr102] := by rw [← hw105]; exact ho104.set 0 (.slice Ar102 mr102 kr102)
                      have ho105 : Rw.At x105 we.heap.size 27 [.slice Aq102 mq102 kq102] := by rw [← hw105]; exact hs104.other ne103.symm _
                      have hq105 := hq104.setAt ho104 (by decide) 0 (.slice Ar102 mr102 kr102)
                      have hr105 := hr104.setAt ho104 (by decide) 0 (.slice Ar102 mr102 kr102)
                      have hz105 := hz104.setCell (p := ⟨x85.heap.size, 0, none⟩) hz85.size (.slice Ar102 mr102 kr102)
                      rw [hw105] at hq105 hr105 hz105
                      rw [hw105]
                      refine hK _ _ (fun _ => by rw [← hw105]; exact Stg.Keep.of_grown (Rw.grown_set _ _ _) (fun q hq => ⟨Nat.lt_of_lt_of_le hq hz104.size, fun e => by cases e; exact absurd hq (Nat.not_lt.2 hz85.size)⟩)) ?_
                      intro A' hA'; subst hA'
                      clear hw105 u1105 u2105 u3105
                      refine Stg.takeZ 13 (by kernel_rfl) (Stg.Keep.rel _) rfl ?_; intro K hK; go_big_quiet_op; go_big_quiet_on
                      refine Stg.endZ (by kernel_rfl) ?_
                      go_wp2_with fail
                      go_meet
                      exact ⟨_, _, Aq102, mq102, kq102, Ar102, mr102, kr102, rfl, rfl, rfl, ho105, hs105, hq105, hr105, hzd.size, hz85.size, hz105⟩
                  · skip
                    refine Stg.stepZ 10 (by kernel_rfl) rfl ?_; intro K hK; go_simp
                    obtain ⟨x106, hw106⟩ : ∃ wz, x84.alloc (.cells #[.slice none 0 0] 27) = wz := ⟨_, rfl⟩
                    have hb106 : Below x84.heap.size x84 x106 := by rw [← hw106]; exact Nm.bel_alloc x84 _
                    have hat106 : Rw.At x106 x84.heap.size 27 [.slice none 0 0] := by rw [← hw106]; exact Rw.At.new x84 27 [.slice none 0 0]
                    rw [hw106]
                    refine hK _ _ (fun _ => (Stg.Keep.of_below hb106 (fun q hq => Nat.lt_of_lt_of_le hq hz84.size))) ?_
                    intro A' hA'; subst hA'
                    have cat9106 := hat84.below hb106
                    have hz106 := hz84.trans (hb106.mono hz84.size)
                    clear hw106
                    have lt107 := hat84.lt
                    refine Stg.oneZ 2 (by kernel_rfl) ?_
                    refine Stg.callZ 2 rfl 4 _ _ rfl Tryd.func4 [.int .u64 1] rfl _ (HOF1.o x106) (by kernel_rfl) ?_
                    rintro e x108 ⟨v108, rfl, his108, hb108⟩
                    obtain ⟨A108, m108, k108, l108, rfl, rr108⟩ := id his108
                    clear rr108
                    refine ⟨_, rfl, fun _ => (Stg.Keep.of_below hb108 (fun q hq => Nat.lt_of_lt_of_le hq hz106.size)), ?_⟩
                    intro A' hA'; simp only [Act.put, List.setIfInBounds_toArray, List.set_cons_succ, List.set_cons_zero] at hA'; subst hA'
                    have cat9108 := cat9106.below hb108
                    have cat10108 := hat106.below hb108
                    have hz108 := hz106.trans (hb108.mono hz106.size)
                    refine Stg.oneZ 3 (by kernel_rfl) ?_
                    refine Stg.callZ 3 rfl 7 _ _ rfl Tryd.func7 [.agg #[.slice Av mv cv], .agg #[.slice A108 m108 k108]] rfl _ (HAD.o x108 _ hz108 his108) (by kernel_rfl) ?_
                    rintro e x109 ⟨v109, rfl, his109, hb109⟩
                    obtain ⟨A109, m109, k109, l109, rfl, rr109⟩ := id his109
                    clear rr109
                    refine ⟨_, rfl, fun _ => (Stg.Keep.of_below hb109 (fun q hq => Nat.lt_of_lt_of_le hq hz108.size)), ?_⟩
                    intro A' hA'; simp only [Act.put, List.setIfInBounds_toArray, List.set_cons_succ, List.set_cons_zero] at hA'; subst hA'
                    have cat9109 := cat9108.below hb109
                    have cat10109 := cat10108.below hb109
                    have cu109 := his108.below hb109
                    have hz109 := hz108.trans (hb109.mono hz108.size)
                    refine Stg.oneZ 4 (by kernel_rfl) ?_
                    refine Stg.callZ 4 rfl 14 _ _ rfl Tryd.func14 [.agg #[.slice Am mm cm], .agg #[.slice A109 m109 k109]] rfl _ (HDV.o x109 _ hz109 his109) (by kernel_rfl) ?_
                    rintro e x110 ⟨vq110, vr110, rfl, hisq110, hisr110, hb110⟩
                    obtain ⟨Aq110, mq110, kq110, lq110, rfl, rq110⟩ := id hisq110
                    obtain ⟨Ar110, mr110, kr110, lr110, rfl, rr110⟩ := id hisr110
                    clear rq110 rr110
                    refine ⟨_, rfl, fun _ => (Stg.Keep.of_below hb110 (fun q hq => Nat.lt_of_lt_of_le hq hz109.size)), ?_⟩
                    intro A' hA'; simp only [Act.put, List.setIfInBounds_toArray, List.set_cons_succ, List.set_cons_zero] at hA'; subst hA'
                    have cat9110 := cat9109.below hb110
                    have cat10110 := cat10109.below hb110
                    have cu110 := his109.below hb110
                    have hz110 := hz109.trans (hb110.mono hz109.size)
                    refine Stg.takeZ 5 (by kernel_rfl) (Stg.Keep.rel _) rfl ?_; intro K hK; go_big_quiet_op; go_big_quiet_on
                    refine Stg.takeZ 6 (by kernel_rfl) (Stg.Keep.rel _) rfl ?_; intro K hK; go_big_quiet_op; go_big_quiet_on
                    refine Stg.takeZ 7 (by kernel_rfl) (Stg.Keep.rel _) rfl ?_; intro K hK; go_big_quiet_op; go_big_quiet_on
                    refine Stg.takeZ 8 (by kernel_rfl) (Stg.Keep.rel _) rfl ?_; intro K hK; go_big_quiet_op; go_big_quiet_on
                    have ne111 : x84.heap.size ≠ we.heap.size := Nat.ne_of_gt lt107
                    refine Stg.oneZ 11 (by kernel_rfl) ?_
                    have u1112 := cat9110.cell 0 rfl
                    have u2112 := cat9110.frozen 0
                    have u3112 := cat9110.lt
                    refine Stg.stepZ 11 (by kernel_rfl) rfl ?_; intro K hK; go_simp
                    obtain ⟨x112, hw112⟩ : ∃ wz, x110.setCell ⟨we.heap.size, 0, none⟩ (.slice Aq110 mq110 kq110) = wz := ⟨_, rfl⟩
                    have hs112 : Rw.At x112 we.heap.size 27 [.slice Aq110 mq110 kq110] := by rw [← hw112]; exact cat9110.set 0 (.slice Aq110 mq110 kq110)
                    have ho112 : Rw.At x112 x84.heap.size 27 [.slice none 0 0] := by rw [← hw112]; exact cat10110.other ne111 _
                    have hq112 := hisq110.setAt cat9110 (by decide) 0 (.slice Aq110 mq110 kq110)
                    have hr112 := hisr110.setAt cat9110 (by decide) 0 (.slice Aq110 mq110 kq110)
                    have hz112 := hz110.setCell (p := ⟨we.heap.size, 0, none⟩) hzd.size (.slice Aq110 mq110 kq110)
                    rw [hw112] at hq112 hr112 hz112
                    rw [hw112]
                    refine hK _ _ (fun _ => by rw [← hw112]; exact Stg.Keep.of_grown (Rw.grown_set _ _ _) (fun q hq => ⟨Nat.lt_of_lt_of_le hq hz110.size, fun e => by cases e; exact absurd hq (Nat.not_lt.2 hzd.size)⟩)) ?_
                    intro A' hA'; subst hA'
                    clear hw112 u1112 u2112 u3112
                    refine Stg.oneZ 12 (by kernel_rfl) ?_
                    have u1113 := ho112.cell 0 rfl
                    have u2113 := ho112.frozen 0
                    have u3113 := ho112.lt
                    refine Stg.stepZ 12 (by kernel_rfl) rfl ?_; intro K hK; go_simp
                    obtain ⟨x113, hw113⟩ : ∃ wz, x112.setCell ⟨x84.heap.size, 0, none⟩ (.slice Ar110 mr110 kr110) = wz := ⟨_, rfl⟩
                    have hs113 : Rw.At x113 x84.heap.size 27 [.slice Ar110 mr110 kr110] := by rw [← hw113]; exact ho112.set 0 (.slice Ar110 mr110 kr110)
                    have ho113 : Rw.At x113 we.heap.size 27 [.slice Aq110 mq110 kq110] := by rw [← hw113]; exact hs112.other ne111.symm _
                    have hq113 := hq112.setAt ho112 (by decide) 0 (.slice Ar110 mr110 kr110)
                    have hr113 := hr112.setAt ho112 (by decide) 0 (.slice Ar110 mr110 kr110)
                    have hz113 := hz112.setCell (p := ⟨x84.heap.size, 0, none⟩) hz84.size (.slice Ar110 mr110 kr110)
                    rw [hw113] at hq113 hr113 hz113
                    rw [hw113]
                    refine hK _ _ (fun _ => by rw [← hw113]; exact Stg.Keep.of_grown (Rw.grown_set _ _ _) (fun q hq => ⟨Nat.lt_of_lt_of_le hq hz112.size, fun e => by cases e; exact absurd hq (Nat.not_lt.2 hz84.size)⟩)) ?_
                    intro A' hA'; subst hA'
                    clear hw113 u1113 u2113 u3113
                    refine Stg.takeZ 13 (by kernel_rfl) (Stg.Keep.rel _) rfl ?_; intro K hK; go_big_quiet_op; go_big_quiet_on
                    refine Stg.endZ (by kernel_rfl) ?_
                    go_wp2_with fail
                    go_meet
                    exact ⟨_, _, Aq110, mq110, kq110, Ar110, mr110, kr110, rfl, rfl, rfl, ho113, hs113, hq113, hr113, hzd.size, hz84.size, hz113⟩
                · skip
                  refine Stg.stepZ 10 (by kernel_rfl) rfl ?_; intro K hK; go_simp
                  obtain ⟨x114, hw114⟩ : ∃ wz, (we.alloc (.cells #[.slice none 0 0] 27)).drew = wz := ⟨_, rfl⟩
                  have hb114 : Below we.heap.size we.drew x114 := by rw [← hw114]; exact Nm.bel_alloc_drew we _
                  have hat114 : Rw.At x114 we.heap.size 27 [.slice none 0 0] := by rw [← hw114]; exact Rw.At.new we 27 [.slice none 0 0]
                  rw [hw114]
                  refine hK _ _ (fun _ => (Stg.Keep.of_below hb114 (fun q hq => Nat.lt_of_lt_of_le hq hzd.size))) ?_
                  intro A' hA'; subst hA'
                  have hz114 := hzd.trans (hb114.mono hzd.size)
                  clear hw114
                  refine Stg.twoZ 2 9 (by kernel_rfl) ?_ ?_
                  · skip
                    refine Stg.callZ 2 rfl 4 _ _ rfl Tryd.func4 [.int .u64 1] rfl _ (HOF1.o x114) (by kernel_rfl) ?_
                    rintro e x115 ⟨v115, rfl, his115, hb115⟩
                    obtain ⟨A115, m115, k115, l115, rfl, rr115⟩ := id his115
                    clear rr115
                    refine ⟨_, rfl, fun _ => (Stg.Keep.of_below hb115 (fun q hq => Nat.lt_of_lt_of_le hq hz114.size)), ?_⟩
                    intro A' hA'; simp only [Act.put, List.setIfInBounds_toArray, List.set_cons_succ, List.set_cons_zero] at hA'; subst hA'
                    have cat10115 := hat114.below hb115
                    have hz115 := hz114.trans (hb115.mono hz114.size)
                    refine Stg.twoZ 3 9 (by kernel_rfl) ?_ ?_
                    · skip
                      refine Stg.callZ 3 rfl 7 _ _ rfl Tryd.func7 [.agg #[.slice Av mv cv], .agg #[.slice A115 m115 k115]] rfl _ (HAD.o x115 _ hz115 his115) (by kernel_rfl) ?_
                      rintro e x116 ⟨v116, rfl, his116, hb116⟩
                      obtain ⟨A116, m116, k116, l116, rfl, rr116⟩ := id his116
                      clear rr116
                      refine ⟨_, rfl, fun _ => (Stg.Keep.of_below hb116 (fun q hq => Nat.lt_of_lt_of_le hq hz115.size)), ?_⟩
                      intro A' hA'; simp only [Act.put, List.setIfInBounds_toArray, List.set_cons_succ, List.set_cons_zero] at hA'; subst hA'
                      have cat10116 := cat10115.below hb116
                      have cu116 := his115.below hb116
                      have hz116 := hz115.trans (hb116.mono hz115.size)
                      refine Stg.twoZ 4 9 (by kernel_rfl) ?_ ?_
                      · skip
                        refine Stg.callZ 4 rfl 14 _ _ rfl Tryd.func14 [.agg #[.slice Am mm cm], .agg #[.slice A116 m116 k116]] rfl _ (HDV.o x116 _ hz116 his116) (by kernel_rfl) ?_
                        rintro e x117 ⟨vq117, vr117, rfl, hisq117, hisr117, hb117⟩
                        obtain ⟨Aq117, mq117, kq117, lq117, rfl, rq117⟩ := id hisq117
                        obtain ⟨Ar117, mr117, kr117, lr117, rfl, rr117⟩ := id hisr117
                        clear rq117 rr117
                        refine ⟨_, rfl, fun _ => (Stg.Keep.of_below hb117 (fun q hq => Nat.lt_of_lt_of_le hq hz116.size)), ?_⟩
                        intro A' hA'; simp only [Act.put, List.setIfInBounds_toArray, List.set_cons_succ, List.set_cons_zero] at hA'; subst hA'
                        have cat10117 := cat10116.below hb117
                        have cu117 := his116.below hb117
                        have hz117 := hz116.trans (hb117.mono hz116.size)
                        refine Stg.takeZ 5 (by kernel_rfl) (Stg.Keep.rel _) rfl ?_; intro K hK; go_big_quiet_op; go_big_quiet_on
                        refine Stg.takeZ 6 (by kernel_rfl) (Stg.Keep.rel _) rfl ?_; intro K hK; go_big_quiet_op; go_big_quiet_on
                        refine Stg.takeZ 7 (by kernel_rfl) (Stg.Keep.rel _) rfl ?_; intro K hK; go_big_quiet_op; go_big_quiet_on
                        refine Stg.takeZ 8 (by kernel_rfl) (Stg.Keep.rel _) rfl ?_; intro K hK; go_big_quiet_op; go_big_quiet_on
                        refine Stg.oneZ 9 (by kernel_rfl) ?_
                        refine Stg.stepZ 9 (by kernel_rfl) rfl ?_; intro K hK; go_simp
                        obtain ⟨x118, hw118⟩ : ∃ wz, x117.alloc (.cells #[.slice none 0 0] 27) = wz := ⟨_, rfl⟩
                        have hb118 : Below x117.heap.size x117 x118 := by rw [← hw118]; exact Nm.bel_alloc x117 _
                        have hat118 : Rw.At x118 x117.heap.size 27 [.slice none 0 0] := by rw [← hw118]; exact Rw.At.new x117 27 [.slice none 0 0]
                        rw [hw118]
                        refine hK _ _ (fun _ => (Stg.Keep.of_below hb118 (fun q hq => Nat.lt_of_lt_of_le hq hz117.size))) ?_
                        intro A' hA'; subst hA'
                        have cat10118 := cat10117.below hb118
                        have cq118 := hisq117.below hb118
                        have cr118 := hisr117.below hb118
                        have hz118 := hz117.trans (hb118.mono hz117.size)
                        clear hw118
                        have lt119 := cat10117.lt
                        have ne120 : we.heap.size ≠ x117.heap.size := Nat.ne_of_lt lt119
                        refine Stg.oneZ 11 (by kernel_rfl) ?_
                        have u1121 := hat118.cell 0 rfl
                        have u2121 := hat118.frozen 0
                        have u3121 := hat118.lt
                        refine Stg.stepZ 11 (by kernel_rfl) rfl ?_; intro K hK; go_simp
                        obtain ⟨x121, hw121⟩ : ∃ wz, x118.setCell ⟨x117.heap.size, 0, none⟩ (.slice Aq117 mq117 kq117) = wz := ⟨_, rfl⟩
                        have hs121 : Rw.At x121 x117.heap.size 27 [.slice Aq117 mq117 kq117] := by rw [← hw121]; exact hat118.set 0 (.slice Aq117 mq117 kq117)
                        have ho121 : Rw.At x121 we.heap.size 27 [.slice none 0 0] := by rw [← hw121]; exact cat10118.other ne120 _
                        have hq121 := cq118.setAt hat118 (by decide) 0 (.slice Aq117 mq117 kq117)
                        have hr121 := cr118.setAt hat118 (by decide) 0 (.slice Aq117 mq117 kq117)
                        have hz121 := hz118.setCell (p := ⟨x117.heap.size, 0, none⟩) hz117.size (.slice Aq117 mq117 kq117)
                        rw [hw121] at hq121 hr121 hz121
                        rw [hw121]
                        refine hK _ _ (fun _ => by rw [← hw121]; exact Stg.Keep.of_grown (Rw.grown_set _ _ _) (fun q hq => ⟨Nat.lt_of_lt_of_le hq hz118.size, fun e => by cases e; exact absurd hq (Nat.not_lt.2 hz117.size)⟩)) ?_
                        intro A' hA'; subst hA'
                        clear hw121 u1121 u2121 u3121
                        refine Stg.oneZ 12 (by kernel_rfl) ?_
                        have u1122 := ho121.cell 0 rfl
                        have u2122 := ho121.frozen 0
                        have u3122 := ho121.lt
                        refine Stg.stepZ 12 (by kernel_rfl) rfl ?_; intro K hK; go_simp
                        obtain ⟨x122, hw122⟩ : ∃ wz, x121.setCell ⟨we.heap.size, 0, none⟩ (.slice Ar117 mr117 kr117) = wz := ⟨_, rfl⟩
                        have hs122 : Rw.At x122 we.heap.size 27 [.slice Ar117 mr117 kr117] := by rw [← hw122]; exact ho121.set 0 (.slice Ar117 mr117 kr117)
                        have ho122 : Rw.At x122 x117.heap.size 27 [.slice Aq117 mq117 kq117] := by rw [← hw122]; exact hs121.other ne120.symm _
                        have hq122 := hq121.setAt ho121 (by decide) 0 (.slice Ar117 mr117 kr117)
                        have hr122 := hr121.setAt ho121 (by decide) 0 (.slice Ar117 mr117 kr117)
                        have hz122 := hz121.setCell (p := ⟨we.heap.size, 0, none⟩) hzd.size (.slice Ar117 mr117 kr117)
                        rw [hw122] at hq122 hr122 hz122
                        rw [hw122]
                        refine hK _ _ (fun _ => by rw [← hw122]; exact Stg.Keep.of_grown (Rw.grown_set _ _ _) (fun q hq => ⟨Nat.lt_of_lt_of_le hq hz121.size, fun e => by cases e; exact absurd hq (Nat.not_lt.2 hzd.size)⟩)) ?_
                        intro A' hA'; subst hA'
                        clear hw122 u1122 u2122 u3122
                        refine Stg.takeZ 13 (by kernel_rfl) (Stg.Keep.rel _) rfl ?_; intro K hK; go_big_quiet_op; go_big_quiet_on
                        refine Stg.endZ (by kernel_rfl) ?_
                        go_wp2_with fail
                        go_meet
                        exact ⟨_, _, Aq117, mq117, kq117, Ar117, mr117, kr117, rfl, rfl, rfl, ho122, hs122, hq122, hr122, hz117.size, hzd.size, hz122⟩
                      · skip
                        refine Stg.stepZ 9 (by kernel_rfl) rfl ?_; intro K hK; go_simp
                        obtain ⟨x123, hw123⟩ : ∃ wz, x116.alloc (.cells #[.slice none 0 0] 27) = wz := ⟨_, rfl⟩
                        have hb123 : Below x116.heap.size x116 x123 := by rw [← hw123]; exact Nm.bel_alloc x116 _
                        have hat123 : Rw.At x123 x116.heap.size 27 [.slice none 0 0] := by rw [← hw123]; exact Rw.At.new x116 27 [.slice none 0 0]
                        rw [hw123]
                        refine hK _ _ (fun _ => (Stg.Keep.of_below hb123 (fun q hq => Nat.lt_of_lt_of_le hq hz116.size))) ?_
                        intro A' hA'; subst hA'
                        have cat10123 := cat10116.below hb123
                        have cu123 := his116.below hb123
                        have hz123 := hz116.trans (hb123.mono hz116.size)
                        clear hw123
                        have lt124 := cat10116.lt
                        refine Stg.oneZ 4 (by kernel_rfl) ?_
                        refine Stg.callZ 4 rfl 14 _ _ rfl Tryd.func14 [.agg #[.slice Am mm cm], .agg #[.slice A116 m116 k116]] rfl _ (HDV.o x123 _ hz123 cu123) (by kernel_rfl) ?_
                        rintro e x125 ⟨vq125, vr125, rfl, hisq125, hisr125, hb125⟩
                        obtain ⟨Aq125, mq125, kq125, lq125, rfl, rq125⟩ := id hisq125
                        obtain ⟨Ar125, mr125, kr125, lr125, rfl, rr125⟩ := id hisr125
                        clear rq125 rr125
                        refine ⟨_, rfl, fun _ => (Stg.Keep.of_below hb125 (fun q hq => Nat.lt_of_lt_of_le hq hz123.size)), ?_⟩
                        intro A' hA'; simp only [Act.put, List.setIfInBounds_toArray, List.set_cons_succ, List.set_cons_zero] at hA'; subst hA'
                        have cat9125 := hat123.below hb125
                        have cat10125 := cat10123.below hb125
                        have cu125 := cu123.below hb125
                        have hz125 := hz123.trans (hb125.mono hz123.size)
                        refine Stg.takeZ 5 (by kernel_rfl) (Stg.Keep.rel _) rfl ?_; intro K hK; go_big_quiet_op; go_big_quiet_on
                        refine Stg.takeZ 6 (by kernel_rfl) (Stg.Keep.rel _) rfl ?_; intro K hK; go_big_quiet_op; go_big_quiet_on
                        refine Stg.takeZ 7 (by kernel_rfl) (Stg.Keep.rel _) rfl ?_; intro K hK; go_big_quiet_op; go_big_quiet_on
                        refine Stg.takeZ 8 (by kernel_rfl) (Stg.Keep.rel _) rfl ?_; intro K hK; go_big_quiet_op; go_big_quiet_on
                        have ne126 : we.heap.size ≠ x116.heap.size := Nat.ne_of_lt lt124
                        refine Stg.oneZ 11 (by kernel_rfl) ?_
                        have u1127 := cat9125.cell 0 rfl
                        have u2127 := cat9125.frozen 0
                        have u3127 := cat9125.lt
                        refine Stg.stepZ 11 (by kernel_rfl) rfl ?_; intro K hK; go_simp
                        obtain ⟨x127, hw127⟩ : ∃ wz, x125.setCell ⟨x116.heap.size, 0, none⟩ (.slice Aq125 mq125 kq125) = wz := ⟨_, rfl⟩
                        have hs127 : Rw.At x127 x116.heap.size 27 [.slice Aq125 mq125 kq125] := by rw [← hw127]; exact cat9125.set 0 (.slice Aq125 mq125 kq125)
                        have ho127 : Rw.At x127 we.heap.size 27 [.slice none 0 0] := by rw [← hw127]; exact cat10125.other ne126 _
                        have hq127 := hisq125.setAt cat9125 (by decide) 0 (.slice Aq125 mq125 kq125)
                        have hr127 := hisr125.setAt cat9125 (by decide) 0 (.slice Aq125 mq125 kq125)
                        have hz127 := hz125.setCell (p := ⟨x116.heap.size, 0, none⟩) hz116.size (.slice Aq125 mq125 kq125)
                        rw [hw127] at hq127 hr127 hz127
                        rw [hw127]
                        refine hK _ _ (fun _ => by rw [← hw127]; exact Stg.Keep.of_grown (Rw.grown_set _ _ _) (fun q hq => ⟨Nat.lt_of_lt_of_le hq hz125.size, fun e => by cases e; exact absurd hq (Nat.not_lt.2 hz116.size)⟩)) ?_
                        intro A' hA'; subst hA'
                        clear hw127 u1127 u2127 u3127
                        refine Stg.oneZ 12 (by kernel_rfl) ?_
                        have u1128 := ho127.cell 0 rfl
                        have u2128 := ho127.frozen 0
                        have u3128 := ho127.lt
                        refine Stg.stepZ 12 (by kernel_rfl) rfl ?_; intro K hK; go_simp
                        obtain ⟨x128, hw128⟩ : ∃ wz, x127.setCell ⟨we.heap.size, 0, none⟩ (.slice Ar125 mr125 kr125) = wz := ⟨_, rfl⟩
                        have hs128 : Rw.At x128 we.heap.size 27 [.slice Ar125 mr125 kr125] := by rw [← hw128]; exact ho127.set 0 (.slice Ar125 mr125 kr125)
                        have ho128 : Rw.At x128 x116.heap.size 27 [.slice Aq125 mq125 kq125] := by rw [← hw128]; exact hs127.other ne126.symm _
                        have hq128 := hq127.setAt ho127 (by decide) 0 (.slice Ar125 mr125 kr125)
                        have hr128 := hr127.setAt ho127 (by decide) 0 (.slice Ar125 mr125 kr125)
                        have hz128 := hz127.setCell (p := ⟨we.heap.size, 0, none⟩) hzd.size (.slice Ar125 mr125 kr125)
                        rw [hw128] at hq128 hr128 hz128
                        rw [hw128]
                        refine hK _ _ (fun _ => by rw [← hw128]; exact Stg.Keep.of_grown (Rw.grown_set _ _ _) (fun q hq => ⟨Nat.lt_of_lt_of_le hq hz127.size, fun e => by cases e; exact absurd hq (Nat.not_lt.2 hzd.size)⟩)) ?_
                        intro A' hA'; subst hA'
                        clear hw128 u1128 u2128 u3128
                        refine Stg.takeZ 13 (by kernel_rfl) (Stg.Keep.rel _) rfl ?_; intro K hK; go_big_quiet_op; go_big_quiet_on
                        refine Stg.endZ (by kernel_rfl) ?_
                        go_wp2_with fail
                        go_meet
                        exact ⟨_, _, Aq125, mq125, kq125, Ar125, mr125, kr125, rfl, rfl, rfl, ho128, hs128, hq128, hr128, hz116.size, hzd.size, hz128⟩
                    · skip
                      refine Stg.stepZ 9 (by kernel_rfl) rfl ?_; intro K hK; go_simp
                      obtain ⟨x129, hw129⟩ : ∃ wz, x115.alloc (.cells #[.slice none 0 0] 27) = wz := ⟨_, rfl⟩
                      have hb129 : Below x115.heap.size x115 x129 := by rw [← hw129]; exact Nm.bel_alloc x115 _
                      have hat129 : Rw.At x129 x115.heap.size 27 [.slice none 0 0] := by rw [← hw129]; exact Rw.At.new x115 27 [.slice none 0 0]
                      rw [hw129]
                      refine hK _ _ (fun _ => (Stg.Keep.of_below hb129 (fun q hq => Nat.lt_of_lt_of_le hq hz115.size))) ?_
                      intro A' hA'; subst hA'
                      have cat10129 := cat10115.below hb129
                      have cu129 := his115.below hb129
                      have hz129 := hz115.trans (hb129.mono hz115.size)
                      clear hw129
                      have lt130 := cat10115.lt
                      refine Stg.oneZ 3 (by kernel_rfl) ?_
                      refine Stg.callZ 3 rfl 7 _ _ rfl Tryd.func7 [.agg #[.slice Av mv cv], .agg #[.slice A115 m115 k115]] rfl _ (HAD.o x129 _ hz129 cu129) (by kernel_rfl) ?_
                      rintro e x131 ⟨v131, rfl, his131, hb131⟩
                      obtain ⟨A131, m131, k131, l131, rfl, rr131⟩ := id his131
                      clear rr131
                      refine ⟨_, rfl, fun _ => (Stg.Keep.of_below hb131 (fun q hq => Nat.lt_of_lt_of_le hq hz129.size)), ?_⟩
                      intro A' hA'; simp only [Act.put, List.setIfInBounds_toArray, List.set_cons_succ, List.set_cons_zero] at hA'; subst hA'
                      have cat9131 := hat129.below hb131
                      have cat10131 := cat10129.below hb131
                      have cu131 := cu129.below hb131
                      have hz131 := hz129.trans (hb131.mono hz129.size)
                      refine Stg.oneZ 4 (by kernel_rfl) ?_
                      refine Stg.callZ 4 rfl 14 _ _ rfl Tryd.func14 [.agg #[.slice Am mm cm], .agg #[.slice A131 m131 k131]] rfl _ (HDV.o x131 _ hz131 his131) (by kernel_rfl) ?_
                      rintro e x132 ⟨vq132, vr132, rfl, hisq132, hisr132, hb132⟩
                      obtain ⟨Aq132, mq132, kq132, lq132, rfl, rq132⟩ := id hisq132
                      obtain ⟨Ar132, mr132, kr132, lr132, rfl, rr132⟩ := id hisr132
                      clear rq132 rr132
                      refine ⟨_, rfl, fun _ => (Stg.Keep.of_below hb132 (fun q hq => Nat.lt_of_lt_of_le hq hz131.size)), ?_⟩
                      intro A' hA'; simp only [Act.put, List.setIfInBounds_toArray, List.set_cons_succ, List.set_cons_zero] at hA'; subst hA'
                      have cat9132 := cat9131.below hb132
                      have cat10132 := cat10131.below hb132
                      have cu132 := his131.below hb132
                      have hz132 := hz131.trans (hb132.mono hz131.size)
                      refine Stg.takeZ 5 (by kernel_rfl) (Stg.Keep.rel _) rfl ?_; intro K hK; go_big_quiet_op; go_big_quiet_on
                      refine Stg.takeZ 6 (by kernel_rfl) (Stg.Keep.rel _) rfl ?_; intro K hK; go_big_quiet_op; go_big_quiet_on
                      refine Stg.takeZ 7 (by kernel_rfl) (Stg.Keep.rel _) rfl ?_; intro K hK; go_big_quiet_op; go_big_quiet_on
                      refine Stg.takeZ 8 (by kernel_rfl) (Stg.Keep.rel _) rfl ?_; intro K hK; go_big_quiet_op; go_big_quiet_on
                      have ne133 : we.heap.size ≠ x115.heap.size := Nat.ne_of_lt lt130
                      refine Stg.oneZ 11 (by kernel_rfl) ?_
                      have u1134 := cat9132.cell 0 rfl
                      have u2134 := cat9132.frozen 0
                      have u3134 := cat9132.lt
                      refine Stg.stepZ 11 (by kernel_rfl) rfl ?_; intro K hK; go_simp
                      obtain ⟨x134, hw134⟩ : ∃ wz, x132.setCell ⟨x115.heap.size, 0, none⟩ (.slice Aq132 mq132 kq132) = wz := ⟨_, rfl⟩
                      have hs134 : Rw.At x134 x115.heap.size 27 [.slice Aq132 mq132 kq132] := by rw [← hw134]; exact cat9132.set 0 (.slice Aq132 mq132 kq132)
                      have ho134 : Rw.At x134 we.heap.size 27 [.slice none 0 0] := by rw [← hw134]; exact cat10132.other ne133 _
                      have hq134 := hisq132.setAt cat9132 (by decide) 0 (.slice Aq132 mq132 kq132)
                      have hr134 := hisr132.setAt cat9132 (by decide) 0 (.slice Aq132 mq132 kq132)
                      have hz134 := hz132.setCell (p := ⟨x115.heap.size, 0, none⟩) hz115.size (.slice Aq132 mq132 kq132)
                      rw [hw134] at hq134 hr134 hz134
                      rw [hw134]
                      refine hK _ _ (fun _ => by rw [← hw134]; exact Stg.Keep.of_grown (Rw.grown_set _ _ _) (fun q hq => ⟨Nat.lt_of_lt_of_le hq hz132.size, fun e => by cases e; exact absurd hq (Nat.not_lt.2 hz115.size)⟩)) ?_
                      intro A' hA'; subst hA'
                      clear hw134 u1134 u2134 u3134
                      refine Stg.oneZ 12 (by kernel_rfl) ?_
                      have u1135 := ho134.cell 0 rfl
                      have u2135 := ho134.frozen 0
                      have u3135 := ho134.lt
                      refine Stg.stepZ 12 (by kernel_rfl) rfl ?_; intro K hK; go_simp
                      obtain ⟨x135, hw135⟩ : ∃ wz, x134.setCell ⟨we.heap.size, 0, none⟩ (.slice Ar132 mr132 kr132) = wz := ⟨_, rfl⟩
                      have hs135 : Rw.At x135 we.heap.size 27 [.slice Ar132 mr132 kr132] := by rw [← hw135]; exact ho134.set 0 (.slice Ar132 mr132 kr132)
                      have ho135 : Rw.At x135 x115.heap.size 27 [.slice Aq132 mq132 kq132] := by rw [← hw135]; exact hs134.other ne133.symm _
                      have hq135 := hq134.setAt ho134 (by decide) 0 (.slice Ar132 mr132 kr132)
                      have hr135 := hr134.setAt ho134 (by decide) 0 (.slice Ar132 mr132 kr132)
                      have hz135 := hz134.setCell (p := ⟨we.heap.size, 0, none⟩) hzd.size (.slice Ar132 mr132 kr132)
                      rw [hw135] at hq135 hr135 hz135
                      rw [hw135]
                      refine hK _ _ (fun _ => by rw [← hw135]; exact Stg.Keep.of_grown (Rw.grown_set _ _ _) (fun q hq => ⟨Nat.lt_of_lt_of_le hq hz134.size, fun e => by cases e; exact absurd hq (Nat.not_lt.2 hzd.size)⟩)) ?_
                      intro A' hA'; subst hA'
                      clear hw135 u1135 u2135 u3135
                      refine Stg.takeZ 13 (by kernel_rfl) (Stg.Keep.rel _) rfl ?_; intro K hK; go_big_quiet_op; go_big_quiet_on
                      refine Stg.endZ (by kernel_rfl) ?_
                      go_wp2_with fail
                      go_meet
                      exact ⟨_, _, Aq132, mq132, kq132, Ar132, mr132, kr132, rfl, rfl, rfl, ho135, hs135, hq135, hr135, hz115.size, hzd.size, hz135⟩
                  · skip
                    refine Stg.stepZ 9 (by kernel_rfl) rfl ?_; intro K hK; go_simp
                    obtain ⟨x136, hw136⟩ : ∃ wz, x114.alloc (.cells #[.slice none 0 0] 27) = wz := ⟨_, rfl⟩
                    have hb136 : Below x114.heap.size x114 x136 := by rw [← hw136]; exact Nm.bel_alloc x114 _
                    have hat136 : Rw.At x136 x114.heap.size 27 [.slice none 0 0] := by rw [← hw136]; exact Rw.At.new x114 27 [.slice none 0 0]
                    rw [hw136]
                    refine hK _ _ (fun _ => (Stg.Keep.of_below hb136 (fun q hq => Nat.lt_of_lt_of_le hq hz114.size))) ?_
                    intro A' hA'; subst hA'
                    have cat10136 := hat114.below hb136
                    have hz136 := hz114.trans (hb136.mono hz114.size)
                    clear hw136
                    have lt137 := hat114.lt
                    refine Stg.oneZ 2 (by kernel_rfl) ?_
                    refine Stg.callZ 2 rfl 4 _ _ rfl Tryd.func4 [.int .u64 1] rfl _ (HOF1.o x136) (by kernel_rfl) ?_
                    rintro e x138 ⟨v138, rfl, his138, hb138⟩
                    obtain ⟨A138, m138, k138, l138, rfl, rr138⟩ := id his138
                    clear rr138
                    refine ⟨_, rfl, fun _ => (Stg.Keep.of_below hb138 (fun q hq => Nat.lt_of_lt_of_le hq hz136.size)), ?_⟩
                    intro A' hA'; simp only [Act.put, List.setIfInBounds_toArray, List.set_cons_succ, List.set_cons_zero] at hA'; subst hA'
                    have cat9138 := hat136.below hb138
                    have cat10138 := cat10136.below hb138
                    have hz138 := hz136.trans (hb138.mono hz136.size)
                    refine Stg.oneZ 3 (by kernel_rfl) ?_
                    refine Stg.callZ 3 rfl 7 _ _ rfl Tryd.func7 [.agg #[.slice Av mv cv], .agg #[.slice A138 m138 k138]] rfl _ (HAD.o x138 _ hz138 his138) (by kernel_rfl) ?_
                    rintro e x139 ⟨v139, rfl, his139, hb139⟩
                    obtain ⟨A139, m139, k139, l139, rfl, rr139⟩ := id his139
                    clear rr139
                    refine ⟨_, rfl, fun _ => (Stg.Keep.of_below hb139 (fun q hq => Nat.lt_of_lt_of_le hq hz138.size)), ?_⟩
                    intro A' hA'; simp only [Act.put, List.setIfInBounds_toArray, List.set_cons_succ, List.set_cons_zero] at hA'; subst hA'
                    have cat9139 := cat9138.below hb139
                    have cat10139 := cat10138.below hb139
                    have cu139 := his138.below hb139
                    have hz139 := hz138.trans (hb139.mono hz138.size)
                    refine Stg.oneZ 4 (by kernel_rfl) ?_
                    refine Stg.callZ 4 rfl 14 _ _ rfl Tryd.func14 [.agg #[.slice Am mm cm], .agg #[.slice A139 m139 k139]] rfl _ (HDV.o x139 _ hz139 his139) (by kernel_rfl) ?_
                    rintro e x140 ⟨vq140, vr140, rfl, hisq140, hisr140, hb140⟩
                    obtain ⟨Aq140, mq140, kq140, lq140, rfl, rq140⟩ := id hisq140
                    obtain ⟨Ar140, mr140, kr140, lr140, rfl, rr140⟩ := id hisr140
                    clear rq140 rr140
                    refine ⟨_, rfl, fun _ => (Stg.Keep.of_below hb140 (fun q hq => Nat.lt_of_lt_of_le hq hz139.size)), ?_⟩
                    intro A' hA'; simp only [Act.put, List.setIfInBounds_toArray, List.set_cons_succ, List.set_cons_zero] at hA'; subst hA'
                    have cat9140 := cat9139.below hb140
                    have cat10140 := cat10139.below hb140
                    have cu140 := his139.below hb140
                    have hz140 := hz139.trans (hb140.mono hz139.size)
                    refine Stg.takeZ 5 (by kernel_rfl) (Stg.Keep.rel _) rfl ?_; intro K hK; go_big_quiet_op; go_big_quiet_on
                    refine Stg.takeZ 6 (by kernel_rfl) (Stg.Keep.rel _) rfl ?_; intro K hK; go_big_quiet_op; go_big_quiet_on
                    refine Stg.takeZ 7 (by kernel_rfl) (Stg.Keep.rel _) rfl ?_; intro K hK; go_big_quiet_op; go_big_quiet_on
                    refine Stg.takeZ 8 (by kernel_rfl) (Stg.Keep.rel _) rfl ?_; intro K hK; go_big_quiet_op; go_big_quiet_on
                    have ne141 : we.heap.size ≠ x114.heap.size := Nat.ne_of_lt lt137
                    refine Stg.oneZ 11 (by kernel_rfl) ?_
                    have u1142 := cat9140.cell 0 rfl
                    have u2142 := cat9140.frozen 0
                    have u3142 := cat9140.lt
                    refine Stg.stepZ 11 (by kernel_rfl) rfl ?_; intro K hK; go_simp
                    obtain ⟨x142, hw142⟩ : ∃ wz, x140.setCell ⟨x114.heap.size, 0, none⟩ (.slice Aq140 mq140 kq140) = wz := ⟨_, rfl⟩
                    have hs142 : Rw.At x142 x114.heap.size 27 [.slice Aq140 mq140 kq140] := by rw [← hw142]; exact cat9140.set 0 (.slice Aq140 mq140 kq140)
                    have ho142 : Rw.At x142 we.heap.size 27 [.slice none 0 0] := by rw [← hw142]; exact cat10140.other ne141 _
                    have hq142 := hisq140.setAt cat9140 (by decide) 0 (.slice Aq140 mq140 kq140)
                    have hr142 := hisr140.setAt cat9140 (by decide) 0 (.slice Aq140 mq140 kq140)
                    have hz142 := hz140.setCell (p := ⟨x114.heap.size, 0, none⟩) hz114.size (.slice Aq140 mq140 kq140)
                    rw [hw142] at hq142 hr142 hz142
                    rw [hw142]
                    refine hK _ _ (fun _ => by rw [← hw142]; exact Stg.Keep.of_grown (Rw.grown_set _ _ _) (fun q hq => ⟨Nat.lt_of_lt_of_le hq hz140.size, fun e => by cases e; exact absurd hq (Nat.not_lt.2 hz114.size)⟩)) ?_
                    intro A' hA'; subst hA'
                    clear hw142 u1142 u2142 u3142
                    refine Stg.oneZ 12 (by kernel_rfl) ?_
                    have u1143 := ho142.cell 0 rfl
                    have u2143 := ho142.frozen 0
                    have u3143 := ho142.lt
                    refine Stg.stepZ 12 (by kernel_rfl) rfl ?_; intro K hK; go_simp
                    obtain ⟨x143, hw143⟩ : ∃ wz, x142.setCell ⟨we.heap.size, 0, none⟩ (.slice Ar140 mr140 kr140) = wz := ⟨_, rfl⟩
                    have hs143 : Rw.At x143 we.heap.size 27 [.slice Ar140 mr140 kr140] := by rw [← hw143]; exact ho142.set 0 (.slice Ar140 mr140 kr140)
                    have ho143 : Rw.At x143 x114.heap.size 27 [.slice Aq140 mq140 kq140] := by rw [← hw143]; exact hs142.other ne141.symm _
                    have hq143 := hq142.setAt ho142 (by decide) 0 (.slice Ar140 mr140 kr140)
                    have hr143 := hr142.setAt ho142 (by decide) 0 (.slice Ar140 mr140 kr140)
                    have hz143 := hz142.setCell (p := ⟨we.heap.size, 0, none⟩) hzd.size (.slice Ar140 mr140 kr140)
                    rw [hw143] at hq143 hr143 hz143
                    rw [hw143]
                    refine hK _ _ (fun _ => by rw [← hw143]; exact Stg.Keep.of_grown (Rw.grown_set _ _ _) (fun q hq => ⟨Nat.lt_of_lt_of_le hq hz142.size, fun e => by cases e; exact absurd hq (Nat.not_lt.2 hzd.size)⟩)) ?_
                    intro A' hA'; subst hA'
                    clear hw143 u1143 u2143 u3143
                    refine Stg.takeZ 13 (by kernel_rfl) (Stg.Keep.rel _) rfl ?_; intro K hK; go_big_quiet_op; go_big_quiet_on
                    refine Stg.endZ (by kernel_rfl) ?_
                    go_wp2_with fail
                    go_meet
                    exact ⟨_, _, Aq140, mq140, kq140, Ar140, mr140, kr140, rfl, rfl, rfl, ho143, hs143, hq143, hr143, hz114.size, hzd.size, hz143⟩
              case rest =>
              obtain ⟨g9, g10, Aq, mq, cq, Ar, mr, cr, rfl, rfl, rfl, hat9, hat10, hisq, hisr, hg9, hg10, hby⟩ := hcut
              have HBY := hy' (HBX2.o.trans (hby.mono HBX2.o.size))
              have hrem : p0 % (x + 1) = 0 := Nat.mod_eq_zero_of_dvd HXP.o
              have hquo : p0 / (x + 1) * (x + 1) = p0 := Nat.div_mul_cancel HXP.o
              rw [hrem] at hisr
              obtain ⟨Q, hQ⟩ : ∃ Q, p0 / (x + 1) = Q := ⟨_, rfl⟩
              rw [hQ] at hisq hquo
              have HQUO := hy' hquo
              have HISQ := hy' hisq
              have HISR := hy' hisr
              have HG : Hy (∀ W, Below wc.heap.size wc W → (∀ u : Stg.Later Stg.Ex W, u.val.cell? ⟨g9, 0, none⟩ = some (.slice Aq mq cq)) ∧ (∀ u : Stg.Later Stg.Ex W, u.val.cell? ⟨g10, 0, none⟩ = some (.slice Ar mr cr)) ∧ (∀ u : Stg.Later Stg.Ex W, u.val.cell? ⟨b18, 0, none⟩ = some (.slice Av mv cv)) ∧ (∀ u : Stg.Later Stg.Ex W, u.val.cell? ⟨b5, 0, none⟩ = some (.slice As ms cs)) ∧ (∀ u : Stg.Later Stg.Ex W, u.val.cell? ⟨b5 + 1, 0, none⟩ = some (.slice Am mm cm))) := hy' fun W hW =>
                have h0 := hat9.below hW
                have h1 := hat10.below hW
                have h2 := (HE18.o.below hby).below hW
                have h3 := (HES.o.below hby).below hW
                have h4 := (HEM.o.below hby).below hW
                ⟨Stg.cells (h0.cell 0 rfl) h0.lt, Stg.cells (h1.cell 0 rfl) h1.lt, Stg.cells (h2.cell 0 rfl) h2.lt, Stg.cells (h3.cell 0 rfl) h3.lt, Stg.cells (h4.cell 0 rfl) h4.lt⟩
              have HYI := hy' (HEI.o.below hby)
              have HYJ := hy' (HEJ.o.below hby)
              have HYX := hy' (HEX.o.below hby)
              have HZ1 := hy' (fun W (hW : Below wc.heap.size wc W) => show Calls Tryd.prog 15 #[.agg #[.slice Ar mr cr]] W fun e w' => e = .returned (.bool true) ∧ Below W.heap.size W w' from Nm.zero_any (.agg #[.slice Ar mr cr]) 0 400 W (by decide) (HISR.o.below hW))
              have HZ3 := hy' (fun W u (hW : Below wc.heap.size wc W) (hu : Nm.Is W u 1 2) => Nm.add_any (.agg #[.slice Av mv cv]) u x 1 400 2 W (by decide) (by decide) (HYX.o.below hW) hu)
              have HZ4 := hy' (fun W u (hW : Below wc.heap.size wc W) (hu : Nm.Is W u (x + 1) (max 400 2 + 1)) => Nm.mul_any (.agg #[.slice Aq mq cq]) u Q (x + 1) 400 (max 400 2 + 1) W (by decide) (by decide) (HISQ.o.below hW) hu)
              have HZ5 := hy' (fun W u (hW : Below wc.heap.size wc W) (hu : Nm.Is W u (Q * (x + 1)) (400 + (max 400 2 + 1))) => show Calls Tryd.prog 13 #[u, .agg #[.slice Am mm cm]] W fun e w' => e = .returned (.bool true) ∧ Below W.heap.size W w' from (Nm.same_any u (.agg #[.slice Am mm cm]) (Q * (x + 1)) p0 (400 + (max 400 2 + 1)) 400 W (by decide) hu (HYJ.o.below hW)).mono fun e w' h => ⟨by rw [h.1, decide_eq_true HQUO.o], h.2⟩)
              have HZ6 := hy' (fun W (hW : Below wc.heap.size wc W) => Nm.compare_any (.agg #[.slice As ms cs]) (.agg #[.slice Av mv cv]) s0 x 400 400 W (by decide) (by decide) (HYI.o.below hW) (HYX.o.below hW))
              have HQ0 := hy' (Below.refl wc.heap.size wc).drew
              clear hat9 hat10 hisq hisr hg9 hg10 hby hrem hquo hQ
              go_upto_region 26 with (fail)
              refine Stg.wp_region (by kernel_rfl) Stg.Ex Stg.Ex.rel ?_
              refine Stg.readW (by kernel_rfl) ?_; intro K hK; go_big_quiet_op; go_big_quiet_on
              refine Stg.readW (by kernel_rfl) ?_; intro K hK; go_big_quiet_op; go_big_quiet_on
              refine Stg.readW (by kernel_rfl) ?_; intro K hK; go_big_quiet_op; go_big_quiet_on
              obtain ⟨f0, f1, f2, f3, f4⟩ := HG.o wc.drew HQ0.o
              refine Stg.read 0 (by kernel_rfl) wc.drew rfl ?_; intro K hK; go_big_quiet_op; go_big_quiet_on
              refine Stg.call 15 _ _ rfl Tryd.func15 [.agg #[.slice Ar mr cr]] rfl wc.drew _ (HZ1.o wc.drew HQ0.o) (by kernel_rfl) rfl ?_
              rintro e q1 ⟨rfl, hb⟩; refine ⟨_, rfl, hb, ?_⟩; have HQ1 := hy' (HQ0.o.trans (hb.mono HQ0.o.size)); clear hb; intro A' hA'; simp only [Act.put, List.setIfInBounds_toArray, List.set_cons_succ, List.set_cons_zero] at hA'; subst hA'
              refine Stg.readW (by kernel_rfl) ?_; intro K hK; go_big_quiet_op; go_big_quiet_on
              refine Stg.readW (by kernel_rfl) ?_; intro K hK; go_big_quiet_op; go_big_quiet_on
              refine Stg.readW (by kernel_rfl) ?_; intro K hK; go_big_quiet_op; go_big_quiet_on
              clear f0 f1 f2 f3 f4
              obtain ⟨f0, f1, f2, f3, f4⟩ := HG.o q1 HQ1.o
              refine Stg.read 0 (by kernel_rfl) q1 rfl ?_; intro K hK; go_big_quiet_op; go_big_quiet_on
              refine Stg.read 0 (by kernel_rfl) q1 rfl ?_; intro K hK; go_big_quiet_op; go_big_quiet_on
              refine Stg.call 4 _ _ rfl Tryd.func4 [.int .u64 1] rfl q1 _ (HOF1.o q1) (by kernel_rfl) rfl ?_
              rintro e q2 ⟨v1, rfl, his1, hb⟩; refine ⟨_, rfl, hb, ?_⟩; have HQ2 := hy' (HQ1.o.trans (hb.mono HQ1.o.size)); have HI1 := hy' his1; obtain ⟨A1, m1, c1, l1, rfl, r1⟩ := id his1; clear his1 r1; clear hb; intro A' hA'; simp only [Act.put, List.setIfInBounds_toArray, List.set_cons_succ, List.set_cons_zero] at hA'; subst hA'
              refine Stg.call 7 _ _ rfl Tryd.func7 [.agg #[.slice Av mv cv], .agg #[.slice A1 m1 c1]] rfl q2 _ (HZ3.o q2 _ HQ2.o HI1.o) (by kernel_rfl) rfl ?_
              rintro e q3 ⟨v2, rfl, his2, hb⟩; refine ⟨_, rfl, hb, ?_⟩; have HQ3 := hy' (HQ2.o.trans (hb.mono HQ2.o.size)); have HI2 := hy' his2; obtain ⟨A2, m2, c2, l2, rfl, r2⟩ := id his2; clear his2 r2; clear hb; intro A' hA'; simp only [Act.put, List.setIfInBounds_toArray, List.set_cons_succ, List.set_cons_zero] at hA'; subst hA'
              refine Stg.call 8 _ _ rfl Tryd.func8 [.agg #[.slice Aq mq cq], .agg #[.slice A2 m2 c2]] rfl q3 _ (HZ4.o q3 _ HQ3.o HI2.o) (by kernel_rfl) rfl ?_
              rintro e q4 ⟨v3, rfl, his3, hb⟩; refine ⟨_, rfl, hb, ?_⟩; have HQ4 := hy' (HQ3.o.trans (hb.mono HQ3.o.size)); have HI3 := hy' his3; obtain ⟨A3, m3, c3, l3, rfl, r3⟩ := id his3; clear his3 r3; clear hb; intro A' hA'; simp only [Act.put, List.setIfInBounds_toArray, List.set_cons_succ, List.set_cons_zero] at hA'; subst hA'
              refine Stg.read 3 (by kernel_rfl) q1 rfl ?_; intro K hK; go_big_quiet_op; go_big_quiet_on
              refine Stg.call 13 _ _ rfl Tryd.func13 [.agg #[.slice A3 m3 c3], .agg #[.slice Am mm cm]] rfl q4 _ (HZ5.o q4 _ HQ4.o HI3.o) (by kernel_rfl) rfl ?_
              rintro e q5 ⟨rfl, hb⟩; refine ⟨_, rfl, hb, ?_⟩; have HQ5 := hy' (HQ4.o.trans (hb.mono HQ4.o.size)); clear hb; intro A' hA'; simp only [Act.put, List.setIfInBounds_toArray, List.set_cons_succ, List.set_cons_zero] at hA'; subst hA'
              refine Stg.readW (by kernel_rfl) ?_; intro K hK; go_big_quiet_op; go_big_quiet_on
              refine Stg.readW (by kernel_rfl) ?_; intro K hK; go_big_quiet_op; go_big_quiet_on
              refine Stg.readW (by kernel_rfl) ?_; intro K hK; go_big_quiet_op; go_big_quiet_on
              clear f0 f1 f2 f3 f4
              obtain ⟨f0, f1, f2, f3, f4⟩ := HG.o q5 HQ5.o
              refine Stg.read 0 (by kernel_rfl) q5 rfl ?_; intro K hK; go_big_quiet_op; go_big_quiet_on
              refine Stg.read 0 (by kernel_rfl) q5 rfl ?_; intro K hK; go_big_quiet_op; go_big_quiet_on
              refine Stg.call 16 _ _ rfl Tryd.func16 [.agg #[.slice As ms cs], .agg #[.slice Av mv cv]] rfl q5 _ (HZ6.o q5 HQ5.o) (by kernel_rfl) rfl ?_
              rintro e q6 ⟨kc, rfl, hkc, hb⟩; refine ⟨_, rfl, hb, ?_⟩; have HQ6 := hy' (HQ5.o.trans (hb.mono HQ5.o.size)); have hkc2 : ¬ kc < 0 := (fun h => absurd (hkc.1 h) (Nat.not_lt.2 HXS0.o)); clear hkc; clear hb; intro A' hA'; simp only [Act.put, List.setIfInBounds_toArray, List.set_cons_succ, List.set_cons_zero] at hA'; subst hA'
              refine Stg.readW (by kernel_rfl) ?_; intro K hK; go_big_quiet_op; go_big_quiet_on
              refine Stg.readW (by kernel_rfl) ?_; intro K hK; go_big_quiet_op; go_big_quiet_on
              clear f0 f1 f2 f3 f4
              refine Stg.nil q6 rfl ?_
              have HBF := hy' (HBY.o.trans (HQ6.o.mono HBY.o.size))
              go_wp2_with fail
              exact ⟨⟨j + 1, by first | rfl | go_num, hjk2, HBF.o⟩, by first | (simp [intOf]; done) | (simp [intOf]; omega)⟩
            · obtain rfl : j = k := by omega
              have hI3 : ¬ (j : Int) < j := by omega
              have HZE := hy' (Nm.zero_any (.agg #[.slice Am mm cm]) p0 400 wx (by decide) HXJ.o)
              have k6 := HXM.o.cell 0 rfl
              have l6 := HXM.o.lt
              go_wp2_with fail
              refine HZE.o.mono ?_
              rintro e wz ⟨rfl, hbz⟩
              rw [decide_eq_false (by have := HPP.o; omega)]
              have HBZ := hy' (HBX.o.trans (hbz.mono HBX.o.size))
              clear hbz k6 l6
              go_wp2_with fail
              go_ret
              exact ⟨rfl, HBW.o.trans (HBZ.o.mono HBW.o.size)⟩
end Go.Proofs.YthcdecncnppjaaaDoor
