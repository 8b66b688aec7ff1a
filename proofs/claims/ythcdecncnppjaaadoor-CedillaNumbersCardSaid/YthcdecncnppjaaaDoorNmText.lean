/- The package digits, by walking its text: Text. -/
import Derived.Test.YthcdecncnppjaaaDoorNmPut
import Derived.Test.YthcdecncnppjaaaDoorStageB
namespace Go.Proofs.YthcdecncnppjaaaDoor
open Go.RowKit
set_option linter.unusedSimpArgs false
set_option linter.unusedVariables false
section
variable {P : Program} {ops : Array Oper} {md : Region.Mode} {R : World → World → Prop} {F : Act → World → Prop} {fuel : Nat} {listed : Array Bool} {a : Act} {w : World}
theorem Stg.three (i i' i'' : Nat) (hr : Region.ready md ops listed = [i, i', i'']) (h : Stg.xOp P ops R i (Stg.wpX P md ops R F fuel (listed.setIfInBounds i true)) a w) (h' : Stg.xOp P ops R i' (Stg.wpX P md ops R F fuel (listed.setIfInBounds i' true)) a w) (h'' : Stg.xOp P ops R i'' (Stg.wpX P md ops R F fuel (listed.setIfInBounds i'' true)) a w) : Stg.wpX P md ops R F (fuel + 1) listed a w :=
  ⟨fun e => absurd e (by rw [hr]; simp), fun j hj => by
    rw [hr] at hj
    rcases List.mem_cons.1 hj with e | hj
    · subst e; exact h
    · rcases List.mem_cons.1 hj with e | hj
      · subst e; exact h'
      · rw [List.mem_singleton] at hj
        subst hj
        exact h''⟩
end
theorem Nm.bel_alloc (w : World) (o : Obj) : Below w.heap.size w (w.alloc o) := (Below.refl _ _).alloc (Nat.le_refl _) _
theorem Nm.bel_alloc_drew (w : World) (o : Obj) : Below w.heap.size w.drew (w.alloc o).drew := ((Below.refl w.heap.size w).drew.alloc (Nat.le_refl _) o : Below w.heap.size w (w.drew.alloc o)) |> fun h => ⟨h.os, h.tape, h.output, h.size, h.block⟩
theorem Nm.conv_sl {w : World} {B n c : Nat} {A : Option Addr} {l : List Nat} (hl : l.length = n) (hn : 0 < n) (h : Sl w B A (Nm.u8s l)) (hd : ∀ d ∈ l, d < 256) :
    ∃ s, (convert 23 9 (.slice A n c)).run Tryd.prog w = .ok (.string s) w ∧ Nm.ds s = l := by
  obtain ⟨b, o, rfl, _, hc⟩ := h (by rw [Nm.u8s_len]; omega)
  have hlen : (l.map UInt8.ofNat).length = n := by rw [List.length_map, hl]
  have hb : ∀ d ∈ l, (UInt8.ofNat d).toNat = d := fun d hdm => by rw [UInt8.toNat_ofNat']; exact Nat.mod_eq_of_lt (hd d hdm)
  have := run_convert_bytes_back (P := Tryd.prog) w 23 9 5 ⟨b, o, none⟩ c (l.map UInt8.ofNat) Tryd.underlying23 Tryd.underlying5 Tryd.underlying9 (fun j hj => by
    rw [hlen] at hj
    rw [Addr.add_lit, hc j (by rw [Nm.u8s_len]; omega)]
    have hg : l[j]? = some l[j] := List.getElem?_eq_getElem (by omega)
    simp only [Nm.u8s, List.getElem?_map, hg, Option.map_some, List.getElem_map]
    rw [hb _ (List.getElem_mem _)])
  rw [hlen] at this
  refine ⟨_, this, ?_⟩
  unfold Nm.ds
  simp only [List.map_map]
  rw [show l.map (UInt8.toNat ∘ UInt8.ofNat) = l.map id from List.map_congr_left fun d hdm => hb d hdm, List.map_id]
theorem Nm.own_cells {w : World} {base : Nat} {e : TypeId} {n : Nat} {v : Value} {xs : List Value} (h : w.ownsRow base e 1 v n xs) : ∀ k, v.ownBlock = some k → ∃ cs z, w.heap[k]? = some (.cells cs e z) := by
  intro k hk
  rcases h.2 with ⟨rfl, _⟩ | ⟨g, cap, cur, rfl, hg, hb, _⟩
  · cases hk
  · have : g = k := by simpa [Value.ownBlock] using hk
    subst this
    exact ⟨_, _, hb⟩
theorem Nm.at_push {w w' : World} {o : Obj} {base b : Nat} {e t : TypeId} {n : Nat} {v : Value} {xs cs : List Value} (hat : Rw.At w b t cs) (hown : w.ownsRow base e 1 v n xs) (hne : t ≠ e) (hg : (w.alloc o).grownBy w' v.ownBlock) : Rw.At w' b t cs := by
  refine Rw.At.grown (hat.alloc o) hg fun hk => ?_
  obtain ⟨cs', z, h⟩ := Nm.own_cells (hown.alloc o) _ hk
  exact Rw.At.not (hat.alloc o) hne _ _ h
theorem Nm.Is.grown {w w' : World} {v : Value} {n L : Nat} {row : Option Nat} (h : Nm.Is w v n L) (hg : w.grownBy w' row) (hr : ∀ k, row = some k → ∀ cs z, w.heap[k]? ≠ some (.cells cs 47 z)) : Nm.Is w' v n L := by
  obtain ⟨A, m, c, l, h1, h2, h3, h4⟩ := h
  exact ⟨A, m, c, l, h1, h2, h3.grown hg hr, h4⟩
theorem Nm.is_push {w w' : World} {o : Obj} {base : Nat} {e : TypeId} {n N L : Nat} {v x : Value} {xs : List Value} (his : Nm.Is w x N L) (hown : w.ownsRow base e 1 v n xs) (hne : e ≠ 47) (hg : (w.alloc o).grownBy w' v.ownBlock) : Nm.Is w' x N L := by
  refine (his.below (Nm.bel_alloc w o)).grown hg fun k hk cs z h => ?_
  obtain ⟨cs', z', h'⟩ := Nm.own_cells (hown.alloc o) k hk
  rw [h'] at h
  cases h
  exact hne rfl
def Nm.lenOf : Value → Nat
  | .slice _ n _ => n
  | _ => 0
/-- A number's text. -/
def Nm.TextPost (n : Nat) (w : World) (e : Ending) (w' : World) : Prop :=
  ∃ s, e = .returned (.string s) ∧ Nm.Dec (Nm.ds s) ∧ Nm.be 10 ((Nm.ds s).map (· - 48)) = n ∧ Below w.heap.size w w'
set_option maxRecDepth 100000 in
set_option maxHeartbeats 8000000 in
theorem Nm.text_any (v : Value) (n L : Nat) (w : World) (hL : L ≤ 1000) (h : Nm.Is w v n L) :
    Calls Tryd.prog 12 #[v] w (Nm.TextPost n w) := by
  obtain ⟨i0, hi, hz0, hz1, hz2⟩ := info_parts infoByte
  have HOF := hy' (fun W => Nm.of_any 1000000000 W (by decide))
  have HZE := hy' (fun W (hW : Below w.heap.size w W) => Nm.zero_any v n L W (by omega) (h.below hW))
  have HIS := hy' h
  obtain ⟨A0, m0, c0, l0, rfl, -⟩ := h
  obtain ⟨wa, hwa⟩ : ∃ wa, w.alloc (.cells #[.slice A0 m0 c0] 27) = wa := ⟨_, rfl⟩
  have hba : Below w.heap.size w wa := by rw [← hwa]; exact (Below.refl _ _).alloc (Nat.le_refl _) _
  have hat : Rw.At wa w.heap.size 27 [.slice A0 m0 c0] := by rw [← hwa]; exact Rw.At.new w 27 [.slice A0 m0 c0]
  have HWA := hy' hwa
  have HBA := hy' hba
  have HATA := hy' hat
  have k0 := hat.cell 0 rfl
  have l0' := hat.lt
  clear hwa hba hat
  go_enter Tryd.func12, Tryd.ntmps12
  go_upto_region 1 with (fail)
  rw [HWA.o]
  go_wp2_with fail
  refine (HZE.o wa HBA.o).mono ?_
  rintro e w1 ⟨rfl, hb1⟩
  have HB1 := hy' (HBA.o.trans (hb1.mono HBA.o.size))
  have HAT1 := hy' (HATA.o.below hb1)
  clear hb1 k0 l0'
  by_cases hn0 : n = 0
  · rw [decide_eq_true hn0]
    go_wp2_with fail
    go_ret
    refine ⟨_, rfl, ⟨fun d hd => ?_, .inl rfl⟩, ?_, HB1.o⟩
    · have : d = 48 := by simpa [Nm.ds] using hd
      omega
    · rw [hn0]; rfl
  · rw [decide_eq_false hn0]
    have HN0 := hy' hn0
    clear hn0
    go_wp2_with fail
    go_loopw [3] (fun vb wr => ∃ (A : Nat) (D : List Nat) (Aa : Option Addr) (ma ca : Nat) (Ab : Option Addr) (cb : Nat), vb = .slice Ab D.length cb ∧ Rw.At wr w.heap.size 27 [.slice Aa ma ca] ∧ Nm.Is wr (.agg #[.slice Aa ma ca]) A L ∧ wr.ownsRow w1.heap.size 5 1 (.slice Ab D.length cb) D.length (Nm.u8s D) ∧ (∀ d ∈ D, 48 ≤ d ∧ d ≤ 57) ∧ Nm.be 10 ((D.map (· - 48)).reverse) + 10 ^ D.length * A = n ∧ D.length ≤ 10 * L + 9 ∧ Below w.heap.size w wr ∧ w1.heap.size ≤ wr.heap.size) (fun vb _ => 10 * L + 20 - Nm.lenOf vb)
    case atStart => exact ⟨n, [], A0, m0, c0, none, 0, rfl, HAT1.o, HIS.o.below HB1.o, World.ownsRow_nil _ _ _ _, fun d hd => by simp at hd, by simp [Nm.be], by simp, HB1.o, Nat.le_refl _⟩
    case round =>
      obtain ⟨A, D, Aa, ma, ca, Ab, cb, rfl, hat, his, hown, hdd, hsum, hDl, hbe, hsz⟩ := hrel
      obtain ⟨wq, rfl⟩ : ∃ q : World, q = wr := ⟨_, rfl⟩
      have HAT := hy' hat
      have HIA := hy' his
      have HOW := hy' hown
      have HDD := hy' hdd
      have HSUM := hy' hsum
      have HBE := hy' hbe
      have HZ2 := hy' (Nm.zero_any (.agg #[.slice Aa ma ca]) A L wq (by omega) his)
      have k0 := hat.cell 0 rfl
      have l0' := hat.lt
      obtain ⟨dl, hdl⟩ : ∃ k, D.length = k := ⟨_, rfl⟩
      rw [hdl] at HOW hDl ⊢
      have HDLN := hy' hdl
      clear hat his hown hdd hsum hbe hdl
      go_wp2_with fail
      refine HZ2.o.mono ?_
      rintro e w2 ⟨rfl, hb2⟩
      have HB2 := hy' (HBE.o.trans (hb2.mono HBE.o.size))
      have HAT2 := hy' (HAT.o.below hb2)
      have HIA2 := hy' (HIA.o.below hb2)
      have HOW2 := hy' (own_below HOW.o hb2 (Nat.le_refl _))
      have hsz2 := Nat.le_trans hsz hb2.size
      clear hb2 k0 l0' HAT HIA HOW
      by_cases hA : A = 0
      · rw [decide_eq_true hA]
        have hsum := HSUM.o
        rw [hA, Nat.mul_zero, Nat.add_zero] at hsum
        have hdl0 : 0 < dl := by
          rcases Nat.eq_zero_or_pos dl with h | h
          · exfalso
            have h1 := HDLN.o
            rw [h] at h1
            rw [List.eq_nil_of_length_eq_zero h1] at hsum
            exact HN0.o hsum.symm
          · exact h
        obtain ⟨gb, rfl⟩ : ∃ g, Ab = some ⟨g, 0, none⟩ := by
          rcases HOW2.o.2 with ⟨hv, h0⟩ | ⟨g, cap, cur, hv, _⟩
          · cases hv; omega
          · cases hv; exact ⟨_, rfl⟩
        have HREV := hy' (Nm.reverse_any w1.heap.size gb dl cb D w2 HDLN.o (by omega) HOW2.o)
        have HS2 := hy' hsum
        clear hA hsum
        go_wp2_with fail
        refine HREV.o.mono ?_
        rintro e w3 ⟨rfl, hown3, hgr3⟩
        have hb3 : Below w.heap.size w w3 := HB2.o.grown hgr3 HB2.o.size (by
          intro k hk
          simp only [Option.some.injEq] at hk
          have := (Nm.own_zero HOW2.o).2.1
          have := HB1.o.size
          omega)
        obtain ⟨s, hs, hds⟩ := Nm.conv_sl (c := cb) (l := D.reverse) (by rw [List.length_reverse, HDLN.o]) hdl0 (Sl.of_own hown3) (fun d hd => by have := HDD.o d (List.mem_reverse.1 hd); omega)
        have HB3 := hy' hb3
        have HDS := hy' hds
        have HTL := hy' (Tryd.strings_TrimLeft_one s 48 (by decide) w3)
        clear hown3 hgr3 hb3 hds
        go_wp2_with fail
        refine HTL.o.mono ?_
        rintro e w4 ⟨rfl, hw4⟩
        rw [hw4]
        clear hw4
        go_wp2_with fail
        go_ret
        have hd2 : Nm.ds (⟨(Lib.trimLeftB s.data.toList 48).toArray⟩ : ByteArray) = (Nm.ds s).dropWhile (· == 48) := by
          unfold Nm.ds Lib.trimLeftB
          simp only []
          generalize s.data.toList = l
          induction l with
          | nil => rfl
          | cons x r ih =>
            rw [List.map_cons, List.dropWhile_cons, List.dropWhile_cons]
            by_cases hx : x = 48
            · subst hx
              simpa using ih
            · have hx2 : ¬ x.toNat = 48 := fun e => hx (UInt8.toNat_inj.1 e)
              rw [if_neg (by simpa using hx), if_neg (by simpa using hx2)]
              rfl
        have hge : ∀ d ∈ D.reverse, 48 ≤ d ∧ d ≤ 57 := fun d hd => HDD.o d (List.mem_reverse.1 hd)
        have hval : Nm.be 10 (((Nm.ds s).dropWhile (· == 48)).map (· - 48)) = n := by
          rw [HDS.o, Nm.map_drop48 (fun d hd => (hge d hd).1), Nm.be_drop0, List.map_reverse]
          exact HS2.o
        refine ⟨_, rfl, ?_, ?_, HB3.o⟩
        · rw [hd2]
          refine ⟨fun d hd => ?_, .inr ⟨fun e => ?_, Nm.drop48_head _⟩⟩
          · rw [HDS.o] at hd
            exact hge d ((List.dropWhile_suffix _).subset hd)
          · rw [e] at hval
            exact HN0.o hval.symm
        · rw [hd2]; exact hval
      · rw [decide_eq_false hA]
        have HAA := hy' hA
        have HDV := hy' (fun W (u16 : Value) (hW : Below w2.heap.size w2 W) (h16 : Nm.Is W u16 1000000000 2) => Nm.div_any (.agg #[.slice Aa ma ca]) u16 A 1000000000 L 2 W (by omega) (by omega) (by decide) (HIA2.o.below hW) h16)
        have HAT := HAT2
        clear hA
        go_upto_region 5 with (fail)
        go_cut [4, 5] (fun s4 s5 wx => ∃ (g4 g5 : Nat) (Aq : Option Addr) (mq cq : Nat) (Ar : Option Addr) (mr cr : Nat), s4 = .pointer (some ⟨g4, 0, none⟩) ∧ s5 = .pointer (some ⟨g5, 0, none⟩) ∧ Rw.At wx g4 27 [.slice Aq mq cq] ∧ Rw.At wx g5 27 [.slice Ar mr cr] ∧ Nm.Is wx (.agg #[.slice Aq mq cq]) (A / 1000000000) L ∧ Nm.Is wx (.agg #[.slice Ar mr cr]) (A % 1000000000) L ∧ w2.heap.size ≤ g4 ∧ w2.heap.size ≤ g5 ∧ Below w2.heap.size w2 wx)
        case first =>
          refine Stg.wp_regionX (Stg.Keep fun b => b < w2.heap.size) (Stg.Keep.rel _) (by kernel_rfl) ?_
          have hzd : Below w2.heap.size w2 w2.drew := (Below.refl _ _).drew
          have e1 := Stg.Keep.cells (s := fun b => b < w2.heap.size) (w := w2.drew) (HAT.o.cell 0 rfl) HAT.o.lt
          refine Stg.takeX 0 (by kernel_rfl) (Stg.Keep.rel _) rfl ?_; intro K hK; go_big_quiet_op; go_big_quiet_on
          clear e1
          refine Stg.three 1 7 8 (by kernel_rfl) ?_ ?_ ?_
          · skip
            refine Stg.callX 1 rfl 4 _ _ rfl Tryd.func4 [.int .u64 1000000000] rfl _ (HOF.o w2.drew) (by kernel_rfl) ?_
            rintro e x1 ⟨v1, rfl, his1, hb1⟩
            obtain ⟨A1, m1, k1, l1, rfl, rr1⟩ := id his1
            clear rr1
            refine ⟨_, rfl, (Stg.Keep.of_below hb1 (fun q hq => Nat.lt_of_lt_of_le hq hzd.size)), ?_⟩
            intro A' hA'; simp only [Act.put, List.setIfInBounds_toArray, List.set_cons_succ, List.set_cons_zero] at hA'; subst hA'
            have hz1 := hzd.trans (hb1.mono hzd.size)
            refine Stg.three 2 7 8 (by kernel_rfl) ?_ ?_ ?_
            · skip
              refine Stg.callX 2 rfl 14 _ _ rfl Tryd.func14 [.agg #[.slice Aa ma ca], .agg #[.slice A1 m1 k1]] rfl _ (HDV.o x1 _ hz1 his1) (by kernel_rfl) ?_
              rintro e x2 ⟨vq2, vr2, rfl, hisq2, hisr2, hb2⟩
              obtain ⟨Aq2, mq2, kq2, lq2, rfl, rq2⟩ := id hisq2
              obtain ⟨Ar2, mr2, kr2, lr2, rfl, rr2⟩ := id hisr2
              clear rq2 rr2
              refine ⟨_, rfl, (Stg.Keep.of_below hb2 (fun q hq => Nat.lt_of_lt_of_le hq hz1.size)), ?_⟩
              intro A' hA'; simp only [Act.put, List.setIfInBounds_toArray, List.set_cons_succ, List.set_cons_zero] at hA'; subst hA'
              have cof2 := his1.below hb2
              have hz2 := hz1.trans (hb2.mono hz1.size)
              refine Stg.takeX 3 (by kernel_rfl) (Stg.Keep.rel _) rfl ?_; intro K hK; go_big_quiet_op; go_big_quiet_on
              refine Stg.takeX 4 (by kernel_rfl) (Stg.Keep.rel _) rfl ?_; intro K hK; go_big_quiet_op; go_big_quiet_on
              refine Stg.takeX 5 (by kernel_rfl) (Stg.Keep.rel _) rfl ?_; intro K hK; go_big_quiet_op; go_big_quiet_on
              refine Stg.takeX 6 (by kernel_rfl) (Stg.Keep.rel _) rfl ?_; intro K hK; go_big_quiet_op; go_big_quiet_on
              refine Stg.two 7 8 (by kernel_rfl) ?_ ?_
              · skip
                refine Stg.stepX 7 (by kernel_rfl) rfl ?_; intro K hK; go_simp
                obtain ⟨x3, hw3⟩ : ∃ wz, x2.alloc (.cells #[.slice none 0 0] 27) = wz := ⟨_, rfl⟩
                have hb3 : Below x2.heap.size x2 x3 := by rw [← hw3]; exact Nm.bel_alloc x2 _
                have hat3 : Rw.At x3 x2.heap.size 27 [.slice none 0 0] := by rw [← hw3]; exact Rw.At.new x2 27 [.slice none 0 0]
                rw [hw3]
                refine hK _ _ (Stg.Keep.of_below hb3 (fun q hq => Nat.lt_of_lt_of_le hq hz2.size)) ?_
                intro A' hA'; subst hA'
                have cof3 := cof2.below hb3
                have cq3 := hisq2.below hb3
                have cr3 := hisr2.below hb3
                have hz3 := hz2.trans (hb3.mono hz2.size)
                clear hw3
                refine Stg.one 8 (by kernel_rfl) ?_
                refine Stg.stepX 8 (by kernel_rfl) rfl ?_; intro K hK; go_simp
                obtain ⟨x4, hw4⟩ : ∃ wz, x3.alloc (.cells #[.slice none 0 0] 27) = wz := ⟨_, rfl⟩
                have hb4 : Below x3.heap.size x3 x4 := by rw [← hw4]; exact Nm.bel_alloc x3 _
                have hat4 : Rw.At x4 x3.heap.size 27 [.slice none 0 0] := by rw [← hw4]; exact Rw.At.new x3 27 [.slice none 0 0]
                rw [hw4]
                refine hK _ _ (Stg.Keep.of_below hb4 (fun q hq => Nat.lt_of_lt_of_le hq hz3.size)) ?_
                intro A' hA'; subst hA'
                have cat44 := hat3.below hb4
                have cof4 := cof3.below hb4
                have cq4 := cq3.below hb4
                have cr4 := cr3.below hb4
                have hz4 := hz3.trans (hb4.mono hz3.size)
                clear hw4
                have lt5 := hat3.lt
                have ne6 : x3.heap.size ≠ x2.heap.size := Nat.ne_of_gt lt5
                refine Stg.one 9 (by kernel_rfl) ?_
                have u17 := cat44.cell 0 rfl
                have u27 := cat44.frozen 0
                have u37 := cat44.lt
                refine Stg.stepX 9 (by kernel_rfl) rfl ?_; intro K hK; go_simp
                obtain ⟨x7, hw7⟩ : ∃ wz, x4.setCell ⟨x2.heap.size, 0, none⟩ (.slice Aq2 mq2 kq2) = wz := ⟨_, rfl⟩
                have hne7 : x3.heap.size ≠ x2.heap.size := ne6
                have hs7 : Rw.At x7 x2.heap.size 27 [.slice Aq2 mq2 kq2] := by rw [← hw7]; exact cat44.set 0 (.slice Aq2 mq2 kq2)
                have ho7 : Rw.At x7 x3.heap.size 27 [.slice none 0 0] := by rw [← hw7]; exact hat4.other hne7 _
                have hq7 := cq4.setAt cat44 (by decide) 0 (.slice Aq2 mq2 kq2)
                have hr7 := cr4.setAt cat44 (by decide) 0 (.slice Aq2 mq2 kq2)
                have hz7 := hz4.setCell (p := ⟨x2.heap.size, 0, none⟩) hz2.size (.slice Aq2 mq2 kq2)
                rw [hw7] at hq7 hr7 hz7
                rw [hw7]
                refine hK _ _ (by rw [← hw7]; exact Stg.Keep.of_grown (Rw.grown_set _ _ _) (fun q hq => ⟨Nat.lt_of_lt_of_le hq hz4.size, fun e => by cases e; exact absurd hq (Nat.not_lt.2 hz2.size)⟩)) ?_
                intro A' hA'; subst hA'
                clear hw7 u17 u27 u37
                refine Stg.one 10 (by kernel_rfl) ?_
                have u18 := ho7.cell 0 rfl
                have u28 := ho7.frozen 0
                have u38 := ho7.lt
                refine Stg.stepX 10 (by kernel_rfl) rfl ?_; intro K hK; go_simp
                obtain ⟨x8, hw8⟩ : ∃ wz, x7.setCell ⟨x3.heap.size, 0, none⟩ (.slice Ar2 mr2 kr2) = wz := ⟨_, rfl⟩
                have hne8 : x2.heap.size ≠ x3.heap.size := ne6.symm
                have hs8 : Rw.At x8 x3.heap.size 27 [.slice Ar2 mr2 kr2] := by rw [← hw8]; exact ho7.set 0 (.slice Ar2 mr2 kr2)
                have ho8 : Rw.At x8 x2.heap.size 27 [.slice Aq2 mq2 kq2] := by rw [← hw8]; exact hs7.other hne8 _
                have hq8 := hq7.setAt ho7 (by decide) 0 (.slice Ar2 mr2 kr2)
                have hr8 := hr7.setAt ho7 (by decide) 0 (.slice Ar2 mr2 kr2)
                have hz8 := hz7.setCell (p := ⟨x3.heap.size, 0, none⟩) hz3.size (.slice Ar2 mr2 kr2)
                rw [hw8] at hq8 hr8 hz8
                rw [hw8]
                refine hK _ _ (by rw [← hw8]; exact Stg.Keep.of_grown (Rw.grown_set _ _ _) (fun q hq => ⟨Nat.lt_of_lt_of_le hq hz7.size, fun e => by cases e; exact absurd hq (Nat.not_lt.2 hz3.size)⟩)) ?_
                intro A' hA'; subst hA'
                clear hw8 u18 u28 u38
                refine Stg.takeX 11 (by kernel_rfl) (Stg.Keep.rel _) rfl ?_; intro K hK; go_big_quiet_op; go_big_quiet_on
                refine Stg.endX (by kernel_rfl) ?_
                go_wp2_with fail
                go_meet
                exact ⟨_, _, Aq2, mq2, kq2, Ar2, mr2, kr2, rfl, rfl, ho8, hs8, hq8, hr8, hz2.size, hz3.size, hz8⟩
              · skip
                refine Stg.stepX 8 (by kernel_rfl) rfl ?_; intro K hK; go_simp
                obtain ⟨x9, hw9⟩ : ∃ wz, x2.alloc (.cells #[.slice none 0 0] 27) = wz := ⟨_, rfl⟩
                have hb9 : Below x2.heap.size x2 x9 := by rw [← hw9]; exact Nm.bel_alloc x2 _
                have hat9 : Rw.At x9 x2.heap.size 27 [.slice none 0 0] := by rw [← hw9]; exact Rw.At.new x2 27 [.slice none 0 0]
                rw [hw9]
                refine hK _ _ (Stg.Keep.of_below hb9 (fun q hq => Nat.lt_of_lt_of_le hq hz2.size)) ?_
                intro A' hA'; subst hA'
                have cof9 := cof2.below hb9
                have cq9 := hisq2.below hb9
                have cr9 := hisr2.below hb9
                have hz9 := hz2.trans (hb9.mono hz2.size)
                clear hw9
                refine Stg.one 7 (by kernel_rfl) ?_
                refine Stg.stepX 7 (by kernel_rfl) rfl ?_; intro K hK; go_simp
                obtain ⟨x10, hw10⟩ : ∃ wz, x9.alloc (.cells #[.slice none 0 0] 27) = wz := ⟨_, rfl⟩
                have hb10 : Below x9.heap.size x9 x10 := by rw [← hw10]; exact Nm.bel_alloc x9 _
                have hat10 : Rw.At x10 x9.heap.size 27 [.slice none 0 0] := by rw [← hw10]; exact Rw.At.new x9 27 [.slice none 0 0]
                rw [hw10]
                refine hK _ _ (Stg.Keep.of_below hb10 (fun q hq => Nat.lt_of_lt_of_le hq hz9.size)) ?_
                intro A' hA'; subst hA'
                have cat510 := hat9.below hb10
                have cof10 := cof9.below hb10
                have cq10 := cq9.below hb10
                have cr10 := cr9.below hb10
                have hz10 := hz9.trans (hb10.mono hz9.size)
                clear hw10
                have lt11 := hat9.lt
                have ne12 : x2.heap.size ≠ x9.heap.size := Nat.ne_of_lt lt11
                refine Stg.one 9 (by kernel_rfl) ?_
                have u113 := hat10.cell 0 rfl
                have u213 := hat10.frozen 0
                have u313 := hat10.lt
                refine Stg.stepX 9 (by kernel_rfl) rfl ?_; intro K hK; go_simp
                obtain ⟨x13, hw13⟩ : ∃ wz, x10.setCell ⟨x9.heap.size, 0, none⟩ (.slice Aq2 mq2 kq2) = wz := ⟨_, rfl⟩
                have hne13 : x2.heap.size ≠ x9.heap.size := ne12
                have hs13 : Rw.At x13 x9.heap.size 27 [.slice Aq2 mq2 kq2] := by rw [← hw13]; exact hat10.set 0 (.slice Aq2 mq2 kq2)
                have ho13 : Rw.At x13 x2.heap.size 27 [.slice none 0 0] := by rw [← hw13]; exact cat510.other hne13 _
                have hq13 := cq10.setAt hat10 (by decide) 0 (.slice Aq2 mq2 kq2)
                have hr13 := cr10.setAt hat10 (by decide) 0 (.slice Aq2 mq2 kq2)
                have hz13 := hz10.setCell (p := ⟨x9.heap.size, 0, none⟩) hz9.size (.slice Aq2 mq2 kq2)
                rw [hw13] at hq13 hr13 hz13
                rw [hw13]
                refine hK _ _ (by rw [← hw13]; exact Stg.Keep.of_grown (Rw.grown_set _ _ _) (fun q hq => ⟨Nat.lt_of_lt_of_le hq hz10.size, fun e => by cases e; exact absurd hq (Nat.not_lt.2 hz9.size)⟩)) ?_
                intro A' hA'; subst hA'
                clear hw13 u113 u213 u313
                refine Stg.one 10 (by kernel_rfl) ?_
                have u114 := ho13.cell 0 rfl
                have u214 := ho13.frozen 0
                have u314 := ho13.lt
                refine Stg.stepX 10 (by kernel_rfl) rfl ?_; intro K hK; go_simp
                obtain ⟨x14, hw14⟩ : ∃ wz, x13.setCell ⟨x2.heap.size, 0, none⟩ (.slice Ar2 mr2 kr2) = wz := ⟨_, rfl⟩
                have hne14 : x9.heap.size ≠ x2.heap.size := ne12.symm
                have hs14 : Rw.At x14 x2.heap.size 27 [.slice Ar2 mr2 kr2] := by rw [← hw14]; exact ho13.set 0 (.slice Ar2 mr2 kr2)
                have ho14 : Rw.At x14 x9.heap.size 27 [.slice Aq2 mq2 kq2] := by rw [← hw14]; exact hs13.other hne14 _
                have hq14 := hq13.setAt ho13 (by decide) 0 (.slice Ar2 mr2 kr2)
                have hr14 := hr13.setAt ho13 (by decide) 0 (.slice Ar2 mr2 kr2)
                have hz14 := hz13.setCell (p := ⟨x2.heap.size, 0, none⟩) hz2.size (.slice Ar2 mr2 kr2)
                rw [hw14] at hq14 hr14 hz14
                rw [hw14]
                refine hK _ _ (by rw [← hw14]; exact Stg.Keep.of_grown (Rw.grown_set _ _ _) (fun q hq => ⟨Nat.lt_of_lt_of_le hq hz13.size, fun e => by cases e; exact absurd hq (Nat.not_lt.2 hz2.size)⟩)) ?_
                intro A' hA'; subst hA'
                clear hw14 u114 u214 u314
                refine Stg.takeX 11 (by kernel_rfl) (Stg.Keep.rel _) rfl ?_; intro K hK; go_big_quiet_op; go_big_quiet_on
                refine Stg.endX (by kernel_rfl) ?_
                go_wp2_with fail
                go_meet
                exact ⟨_, _, Aq2, mq2, kq2, Ar2, mr2, kr2, rfl, rfl, ho14, hs14, hq14, hr14, hz9.size, hz2.size, hz14⟩
            · skip
              refine Stg.stepX 7 (by kernel_rfl) rfl ?_; intro K hK; go_simp
              obtain ⟨x15, hw15⟩ : ∃ wz, x1.alloc (.cells #[.slice none 0 0] 27) = wz := ⟨_, rfl⟩
              have hb15 : Below x1.heap.size x1 x15 := by rw [← hw15]; exact Nm.bel_alloc x1 _
              have hat15 : Rw.At x15 x1.heap.size 27 [.slice none 0 0] := by rw [← hw15]; exact Rw.At.new x1 27 [.slice none 0 0]
              rw [hw15]
              refine hK _ _ (Stg.Keep.of_below hb15 (fun q hq => Nat.lt_of_lt_of_le hq hz1.size)) ?_
              intro A' hA'; subst hA'
              have cof15 := his1.below hb15
              have hz15 := hz1.trans (hb15.mono hz1.size)
              clear hw15
              refine Stg.two 2 8 (by kernel_rfl) ?_ ?_
              · skip
                refine Stg.callX 2 rfl 14 _ _ rfl Tryd.func14 [.agg #[.slice Aa ma ca], .agg #[.slice A1 m1 k1]] rfl _ (HDV.o x15 _ hz15 cof15) (by kernel_rfl) ?_
                rintro e x16 ⟨vq16, vr16, rfl, hisq16, hisr16, hb16⟩
                obtain ⟨Aq16, mq16, kq16, lq16, rfl, rq16⟩ := id hisq16
                obtain ⟨Ar16, mr16, kr16, lr16, rfl, rr16⟩ := id hisr16
                clear rq16 rr16
                refine ⟨_, rfl, (Stg.Keep.of_below hb16 (fun q hq => Nat.lt_of_lt_of_le hq hz15.size)), ?_⟩
                intro A' hA'; simp only [Act.put, List.setIfInBounds_toArray, List.set_cons_succ, List.set_cons_zero] at hA'; subst hA'
                have cat416 := hat15.below hb16
                have cof16 := cof15.below hb16
                have hz16 := hz15.trans (hb16.mono hz15.size)
                refine Stg.takeX 3 (by kernel_rfl) (Stg.Keep.rel _) rfl ?_; intro K hK; go_big_quiet_op; go_big_quiet_on
                refine Stg.takeX 4 (by kernel_rfl) (Stg.Keep.rel _) rfl ?_; intro K hK; go_big_quiet_op; go_big_quiet_on
                refine Stg.takeX 5 (by kernel_rfl) (Stg.Keep.rel _) rfl ?_; intro K hK; go_big_quiet_op; go_big_quiet_on
                refine Stg.takeX 6 (by kernel_rfl) (Stg.Keep.rel _) rfl ?_; intro K hK; go_big_quiet_op; go_big_quiet_on
                refine Stg.one 8 (by kernel_rfl) ?_
                refine Stg.stepX 8 (by kernel_rfl) rfl ?_; intro K hK; go_simp
                obtain ⟨x17, hw17⟩ : ∃ wz, x16.alloc (.cells #[.slice none 0 0] 27) = wz := ⟨_, rfl⟩
                have hb17 : Below x16.heap.size x16 x17 := by rw [← hw17]; exact Nm.bel_alloc x16 _
                have hat17 : Rw.At x17 x16.heap.size 27 [.slice none 0 0] := by rw [← hw17]; exact Rw.At.new x16 27 [.slice none 0 0]
                rw [hw17]
                refine hK _ _ (Stg.Keep.of_below hb17 (fun q hq => Nat.lt_of_lt_of_le hq hz16.size)) ?_
                intro A' hA'; subst hA'
                have cat417 := cat416.below hb17
                have cof17 := cof16.below hb17
                have cq17 := hisq16.below hb17
                have cr17 := hisr16.below hb17
                have hz17 := hz16.trans (hb17.mono hz16.size)
                clear hw17
                have lt18 := cat416.lt
                have ne19 : x16.heap.size ≠ x1.heap.size := Nat.ne_of_gt lt18
                refine Stg.one 9 (by kernel_rfl) ?_
                have u120 := cat417.cell 0 rfl
                have u220 := cat417.frozen 0
                have u320 := cat417.lt
                refine Stg.stepX 9 (by kernel_rfl) rfl ?_; intro K hK; go_simp
                obtain ⟨x20, hw20⟩ : ∃ wz, x17.setCell ⟨x1.heap.size, 0, none⟩ (.slice Aq16 mq16 kq16) = wz := ⟨_, rfl⟩
                have hne20 : x16.heap.size ≠ x1.heap.size := ne19
                have hs20 : Rw.At x20 x1.heap.size 27 [.slice Aq16 mq16 kq16] := by rw [← hw20]; exact cat417.set 0 (.slice Aq16 mq16 kq16)
                have ho20 : Rw.At x20 x16.heap.size 27 [.slice none 0 0] := by rw [← hw20]; exact hat17.other hne20 _
                have hq20 := cq17.setAt cat417 (by decide) 0 (.slice Aq16 mq16 kq16)
                have hr20 := cr17.setAt cat417 (by decide) 0 (.slice Aq16 mq16 kq16)
                have hz20 := hz17.setCell (p := ⟨x1.heap.size, 0, none⟩) hz1.size (.slice Aq16 mq16 kq16)
                rw [hw20] at hq20 hr20 hz20
                rw [hw20]
                refine hK _ _ (by rw [← hw20]; exact Stg.Keep.of_grown (Rw.grown_set _ _ _) (fun q hq => ⟨Nat.lt_of_lt_of_le hq hz17.size, fun e => by cases e; exact absurd hq (Nat.not_lt.2 hz1.size)⟩)) ?_
                intro A' hA'; subst hA'
                clear hw20 u120 u220 u320
                refine Stg.one 10 (by kernel_rfl) ?_
                have u121 := ho20.cell 0 rfl
                have u221 := ho20.frozen 0
                have u321 := ho20.lt
                refine Stg.stepX 10 (by kernel_rfl) rfl ?_; intro K hK; go_simp
                obtain ⟨x21, hw21⟩ : ∃ wz, x20.setCell ⟨x16.heap.size, 0, none⟩ (.slice Ar16 mr16 kr16) = wz := ⟨_, rfl⟩
                have hne21 : x1.heap.size ≠ x16.heap.size := ne19.symm
                have hs21 : Rw.At x21 x16.heap.size 27 [.slice Ar16 mr16 kr16] := by rw [← hw21]; exact ho20.set 0 (.slice Ar16 mr16 kr16)
                have ho21 : Rw.At x21 x1.heap.size 27 [.slice Aq16 mq16 kq16] := by rw [← hw21]; exact hs20.other hne21 _
                have hq21 := hq20.setAt ho20 (by decide) 0 (.slice Ar16 mr16 kr16)
                have hr21 := hr20.setAt ho20 (by decide) 0 (.slice Ar16 mr16 kr16)
                have hz21 := hz20.setCell (p := ⟨x16.heap.size, 0, none⟩) hz16.size (.slice Ar16 mr16 kr16)
                rw [hw21] at hq21 hr21 hz21
                rw [hw21]
                refine hK _ _ (by rw [← hw21]; exact Stg.Keep.of_grown (Rw.grown_set _ _ _) (fun q hq => ⟨Nat.lt_of_lt_of_le hq hz20.size, fun e => by cases e; exact absurd hq (Nat.not_lt.2 hz16.size)⟩)) ?_
                intro A' hA'; subst hA'
                clear hw21 u121 u221 u321
                refine Stg.takeX 11 (by kernel_rfl) (Stg.Keep.rel _) rfl ?_; intro K hK; go_big_quiet_op; go_big_quiet_on
                refine Stg.endX (by kernel_rfl) ?_
                go_wp2_with fail
                go_meet
                exact ⟨_, _, Aq16, mq16, kq16, Ar16, mr16, kr16, rfl, rfl, ho21, hs21, hq21, hr21, hz1.size, hz16.size, hz21⟩
              · skip
                refine Stg.stepX 8 (by kernel_rfl) rfl ?_; intro K hK; go_simp
                obtain ⟨x22, hw22⟩ : ∃ wz, x15.alloc (.cells #[.slice none 0 0] 27) = wz := ⟨_, rfl⟩
                have hb22 : Below x15.heap.size x15 x22 := by rw [← hw22]; exact Nm.bel_alloc x15 _
                have hat22 : Rw.At x22 x15.heap.size 27 [.slice none 0 0] := by rw [← hw22]; exact Rw.At.new x15 27 [.slice none 0 0]
                rw [hw22]
                refine hK _ _ (Stg.Keep.of_below hb22 (fun q hq => Nat.lt_of_lt_of_le hq hz15.size)) ?_
                intro A' hA'; subst hA'
                have cat422 := hat15.below hb22
                have cof22 := cof15.below hb22
                have hz22 := hz15.trans (hb22.mono hz15.size)
                clear hw22
                have lt23 := hat15.lt
                refine Stg.one 2 (by kernel_rfl) ?_
                refine Stg.callX 2 rfl 14 _ _ rfl Tryd.func14 [.agg #[.slice Aa ma ca], .agg #[.slice A1 m1 k1]] rfl _ (HDV.o x22 _ hz22 cof22) (by kernel_rfl) ?_
                rintro e x24 ⟨vq24, vr24, rfl, hisq24, hisr24, hb24⟩
                obtain ⟨Aq24, mq24, kq24, lq24, rfl, rq24⟩ := id hisq24
                obtain ⟨Ar24, mr24, kr24, lr24, rfl, rr24⟩ := id hisr24
                clear rq24 rr24
                refine ⟨_, rfl, (Stg.Keep.of_below hb24 (fun q hq => Nat.lt_of_lt_of_le hq hz22.size)), ?_⟩
                intro A' hA'; simp only [Act.put, List.setIfInBounds_toArray, List.set_cons_succ, List.set_cons_zero] at hA'; subst hA'
                have cat424 := cat422.below hb24
                have cat524 := hat22.below hb24
                have cof24 := cof22.below hb24
                have hz24 := hz22.trans (hb24.mono hz22.size)
                refine Stg.takeX 3 (by kernel_rfl) (Stg.Keep.rel _) rfl ?_; intro K hK; go_big_quiet_op; go_big_quiet_on
                refine Stg.takeX 4 (by kernel_rfl) (Stg.Keep.rel _) rfl ?_; intro K hK; go_big_quiet_op; go_big_quiet_on
                refine Stg.takeX 5 (by kernel_rfl) (Stg.Keep.rel _) rfl ?_; intro K hK; go_big_quiet_op; go_big_quiet_on
                refine Stg.takeX 6 (by kernel_rfl) (Stg.Keep.rel _) rfl ?_; intro K hK; go_big_quiet_op; go_big_quiet_on
                have ne25 : x15.heap.size ≠ x1.heap.size := Nat.ne_of_gt lt23
                refine Stg.one 9 (by kernel_rfl) ?_
                have u126 := cat424.cell 0 rfl
                have u226 := cat424.frozen 0
                have u326 := cat424.lt
                refine Stg.stepX 9 (by kernel_rfl) rfl ?_; intro K hK; go_simp
                obtain ⟨x26, hw26⟩ : ∃ wz, x24.setCell ⟨x1.heap.size, 0, none⟩ (.slice Aq24 mq24 kq24) = wz := ⟨_, rfl⟩
                have hne26 : x15.heap.size ≠ x1.heap.size := ne25
                have hs26 : Rw.At x26 x1.heap.size 27 [.slice Aq24 mq24 kq24] := by rw [← hw26]; exact cat424.set 0 (.slice Aq24 mq24 kq24)
                have ho26 : Rw.At x26 x15.heap.size 27 [.slice none 0 0] := by rw [← hw26]; exact cat524.other hne26 _
                have hq26 := hisq24.setAt cat424 (by decide) 0 (.slice Aq24 mq24 kq24)
                have hr26 := hisr24.setAt cat424 (by decide) 0 (.slice Aq24 mq24 kq24)
                have hz26 := hz24.setCell (p := ⟨x1.heap.size, 0, none⟩) hz1.size (.slice Aq24 mq24 kq24)
                rw [hw26] at hq26 hr26 hz26
                rw [hw26]
                refine hK _ _ (by rw [← hw26]; exact Stg.Keep.of_grown (Rw.grown_set _ _ _) (fun q hq => ⟨Nat.lt_of_lt_of_le hq hz24.size, fun e => by cases e; exact absurd hq (Nat.not_lt.2 hz1.size)⟩)) ?_
                intro A' hA'; subst hA'
                clear hw26 u126 u226 u326
                refine Stg.one 10 (by kernel_rfl) ?_
                have u127 := ho26.cell 0 rfl
                have u227 := ho26.frozen 0
                have u327 := ho26.lt
                refine Stg.stepX 10 (by kernel_rfl) rfl ?_; intro K hK; go_simp
                obtain ⟨x27, hw27⟩ : ∃ wz, x26.setCell ⟨x15.heap.size, 0, none⟩ (.slice Ar24 mr24 kr24) = wz := ⟨_, rfl⟩
                have hne27 : x1.heap.size ≠ x15.heap.size := ne25.symm
                have hs27 : Rw.At x27 x15.heap.size 27 [.slice Ar24 mr24 kr24] := by rw [← hw27]; exact ho26.set 0 (.slice Ar24 mr24 kr24)
                have ho27 : Rw.At x27 x1.heap.size 27 [.slice Aq24 mq24 kq24] := by rw [← hw27]; exact hs26.other hne27 _
                have hq27 := hq26.setAt ho26 (by decide) 0 (.slice Ar24 mr24 kr24)
                have hr27 := hr26.setAt ho26 (by decide) 0 (.slice Ar24 mr24 kr24)
                have hz27 := hz26.setCell (p := ⟨x15.heap.size, 0, none⟩) hz15.size (.slice Ar24 mr24 kr24)
                rw [hw27] at hq27 hr27 hz27
                rw [hw27]
                refine hK _ _ (by rw [← hw27]; exact Stg.Keep.of_grown (Rw.grown_set _ _ _) (fun q hq => ⟨Nat.lt_of_lt_of_le hq hz26.size, fun e => by cases e; exact absurd hq (Nat.not_lt.2 hz15.size)⟩)) ?_
                intro A' hA'; subst hA'
                clear hw27 u127 u227 u327
                refine Stg.takeX 11 (by kernel_rfl) (Stg.Keep.rel _) rfl ?_; intro K hK; go_big_quiet_op; go_big_quiet_on
                refine Stg.endX (by kernel_rfl) ?_
                go_wp2_with fail
                go_meet
                exact ⟨_, _, Aq24, mq24, kq24, Ar24, mr24, kr24, rfl, rfl, ho27, hs27, hq27, hr27, hz1.size, hz15.size, hz27⟩
            · skip
              refine Stg.stepX 8 (by kernel_rfl) rfl ?_; intro K hK; go_simp
              obtain ⟨x28, hw28⟩ : ∃ wz, x1.alloc (.cells #[.slice none 0 0] 27) = wz := ⟨_, rfl⟩
              have hb28 : Below x1.heap.size x1 x28 := by rw [← hw28]; exact Nm.bel_alloc x1 _
              have hat28 : Rw.At x28 x1.heap.size 27 [.slice none 0 0] := by rw [← hw28]; exact Rw.At.new x1 27 [.slice none 0 0]
              rw [hw28]
              refine hK _ _ (Stg.Keep.of_below hb28 (fun q hq => Nat.lt_of_lt_of_le hq hz1.size)) ?_
              intro A' hA'; subst hA'
              have cof28 := his1.below hb28
              have hz28 := hz1.trans (hb28.mono hz1.size)
              clear hw28
              refine Stg.two 2 7 (by kernel_rfl) ?_ ?_
              · skip
                refine Stg.callX 2 rfl 14 _ _ rfl Tryd.func14 [.agg #[.slice Aa ma ca], .agg #[.slice A1 m1 k1]] rfl _ (HDV.o x28 _ hz28 cof28) (by kernel_rfl) ?_
                rintro e x29 ⟨vq29, vr29, rfl, hisq29, hisr29, hb29⟩
                obtain ⟨Aq29, mq29, kq29, lq29, rfl, rq29⟩ := id hisq29
                obtain ⟨Ar29, mr29, kr29, lr29, rfl, rr29⟩ := id hisr29
                clear rq29 rr29
                refine ⟨_, rfl, (Stg.Keep.of_below hb29 (fun q hq => Nat.lt_of_lt_of_le hq hz28.size)), ?_⟩
                intro A' hA'; simp only [Act.put, List.setIfInBounds_toArray, List.set_cons_succ, List.set_cons_zero] at hA'; subst hA'
                have cat529 := hat28.below hb29
                have cof29 := cof28.below hb29
                have hz29 := hz28.trans (hb29.mono hz28.size)
                refine Stg.takeX 3 (by kernel_rfl) (Stg.Keep.rel _) rfl ?_; intro K hK; go_big_quiet_op; go_big_quiet_on
                refine Stg.takeX 4 (by kernel_rfl) (Stg.Keep.rel _) rfl ?_; intro K hK; go_big_quiet_op; go_big_quiet_on
                refine Stg.takeX 5 (by kernel_rfl) (Stg.Keep.rel _) rfl ?_; intro K hK; go_big_quiet_op; go_big_quiet_on
                refine Stg.takeX 6 (by kernel_rfl) (Stg.Keep.rel _) rfl ?_; intro K hK; go_big_quiet_op; go_big_quiet_on
                refine Stg.one 7 (by kernel_rfl) ?_
                refine Stg.stepX 7 (by kernel_rfl) rfl ?_; intro K hK; go_simp
                obtain ⟨x30, hw30⟩ : ∃ wz, x29.alloc (.cells #[.slice none 0 0] 27) = wz := ⟨_, rfl⟩
                have hb30 : Below x29.heap.size x29 x30 := by rw [← hw30]; exact Nm.bel_alloc x29 _
                have hat30 : Rw.At x30 x29.heap.size 27 [.slice none 0 0] := by rw [← hw30]; exact Rw.At.new x29 27 [.slice none 0 0]
                rw [hw30]
                refine hK _ _ (Stg.Keep.of_below hb30 (fun q hq => Nat.lt_of_lt_of_le hq hz29.size)) ?_
                intro A' hA'; subst hA'
                have cat530 := cat529.below hb30
                have cof30 := cof29.below hb30
                have cq30 := hisq29.below hb30
                have cr30 := hisr29.below hb30
                have hz30 := hz29.trans (hb30.mono hz29.size)
                clear hw30
                have lt31 := cat529.lt
                have ne32 : x1.heap.size ≠ x29.heap.size := Nat.ne_of_lt lt31
                refine Stg.one 9 (by kernel_rfl) ?_
                have u133 := hat30.cell 0 rfl
                have u233 := hat30.frozen 0
                have u333 := hat30.lt
                refine Stg.stepX 9 (by kernel_rfl) rfl ?_; intro K hK; go_simp
                obtain ⟨x33, hw33⟩ : ∃ wz, x30.setCell ⟨x29.heap.size, 0, none⟩ (.slice Aq29 mq29 kq29) = wz := ⟨_, rfl⟩
                have hne33 : x1.heap.size ≠ x29.heap.size := ne32
                have hs33 : Rw.At x33 x29.heap.size 27 [.slice Aq29 mq29 kq29] := by rw [← hw33]; exact hat30.set 0 (.slice Aq29 mq29 kq29)
                have ho33 : Rw.At x33 x1.heap.size 27 [.slice none 0 0] := by rw [← hw33]; exact cat530.other hne33 _
                have hq33 := cq30.setAt hat30 (by decide) 0 (.slice Aq29 mq29 kq29)
                have hr33 := cr30.setAt hat30 (by decide) 0 (.slice Aq29 mq29 kq29)
                have hz33 := hz30.setCell (p := ⟨x29.heap.size, 0, none⟩) hz29.size (.slice Aq29 mq29 kq29)
                rw [hw33] at hq33 hr33 hz33
                rw [hw33]
                refine hK _ _ (by rw [← hw33]; exact Stg.Keep.of_grown (Rw.grown_set _ _ _) (fun q hq => ⟨Nat.lt_of_lt_of_le hq hz30.size, fun e => by cases e; exact absurd hq (Nat.not_lt.2 hz29.size)⟩)) ?_
                intro A' hA'; subst hA'
                clear hw33 u133 u233 u333
                refine Stg.one 10 (by kernel_rfl) ?_
                have u134 := ho33.cell 0 rfl
                have u234 := ho33.frozen 0
                have u334 := ho33.lt
                refine Stg.stepX 10 (by kernel_rfl) rfl ?_; intro K hK; go_simp
                obtain ⟨x34, hw34⟩ : ∃ wz, x33.setCell ⟨x1.heap.size, 0, none⟩ (.slice Ar29 mr29 kr29) = wz := ⟨_, rfl⟩
                have hne34 : x29.heap.size ≠ x1.heap.size := ne32.symm
                have hs34 : Rw.At x34 x1.heap.size 27 [.slice Ar29 mr29 kr29] := by rw [← hw34]; exact ho33.set 0 (.slice Ar29 mr29 kr29)
                have ho34 : Rw.At x34 x29.heap.size 27 [.slice Aq29 mq29 kq29] := by rw [← hw34]; exact hs33.other hne34 _
                have hq34 := hq33.setAt ho33 (by decide) 0 (.slice Ar29 mr29 kr29)
                have hr34 := hr33.setAt ho33 (by decide) 0 (.slice Ar29 mr29 kr29)
                have hz34 := hz33.setCell (p := ⟨x1.heap.size, 0, none⟩) hz1.size (.slice Ar29 mr29 kr29)
                rw [hw34] at hq34 hr34 hz34
                rw [hw34]
                refine hK _ _ (by rw [← hw34]; exact Stg.Keep.of_grown (Rw.grown_set _ _ _) (fun q hq => ⟨Nat.lt_of_lt_of_le hq hz33.size, fun e => by cases e; exact absurd hq (Nat.not_lt.2 hz1.size)⟩)) ?_
                intro A' hA'; subst hA'
                clear hw34 u134 u234 u334
                refine Stg.takeX 11 (by kernel_rfl) (Stg.Keep.rel _) rfl ?_; intro K hK; go_big_quiet_op; go_big_quiet_on
                refine Stg.endX (by kernel_rfl) ?_
                go_wp2_with fail
                go_meet
                exact ⟨_, _, Aq29, mq29, kq29, Ar29, mr29, kr29, rfl, rfl, ho34, hs34, hq34, hr34, hz29.size, hz1.size, hz34⟩
              · skip
                refine Stg.stepX 7 (by kernel_rfl) rfl ?_; intro K hK; go_simp
                obtain ⟨x35, hw35⟩ : ∃ wz, x28.alloc (.cells #[.slice none 0 0] 27) = wz := ⟨_, rfl⟩
                have hb35 : Below x28.heap.size x28 x35 := by rw [← hw35]; exact Nm.bel_alloc x28 _
                have hat35 : Rw.At x35 x28.heap.size 27 [.slice none 0 0] := by rw [← hw35]; exact Rw.At.new x28 27 [.slice none 0 0]
                rw [hw35]
                refine hK _ _ (Stg.Keep.of_below hb35 (fun q hq => Nat.lt_of_lt_of_le hq hz28.size)) ?_
                intro A' hA'; subst hA'
                have cat535 := hat28.below hb35
                have cof35 := cof28.below hb35
                have hz35 := hz28.trans (hb35.mono hz28.size)
                clear hw35
                have lt36 := hat28.lt
                refine Stg.one 2 (by kernel_rfl) ?_
                refine Stg.callX 2 rfl 14 _ _ rfl Tryd.func14 [.agg #[.slice Aa ma ca], .agg #[.slice A1 m1 k1]] rfl _ (HDV.o x35 _ hz35 cof35) (by kernel_rfl) ?_
                rintro e x37 ⟨vq37, vr37, rfl, hisq37, hisr37, hb37⟩
                obtain ⟨Aq37, mq37, kq37, lq37, rfl, rq37⟩ := id hisq37
                obtain ⟨Ar37, mr37, kr37, lr37, rfl, rr37⟩ := id hisr37
                clear rq37 rr37
                refine ⟨_, rfl, (Stg.Keep.of_below hb37 (fun q hq => Nat.lt_of_lt_of_le hq hz35.size)), ?_⟩
                intro A' hA'; simp only [Act.put, List.setIfInBounds_toArray, List.set_cons_succ, List.set_cons_zero] at hA'; subst hA'
                have cat437 := hat35.below hb37
                have cat537 := cat535.below hb37
                have cof37 := cof35.below hb37
                have hz37 := hz35.trans (hb37.mono hz35.size)
                refine Stg.takeX 3 (by kernel_rfl) (Stg.Keep.rel _) rfl ?_; intro K hK; go_big_quiet_op; go_big_quiet_on
                refine Stg.takeX 4 (by kernel_rfl) (Stg.Keep.rel _) rfl ?_; intro K hK; go_big_quiet_op; go_big_quiet_on
                refine Stg.takeX 5 (by kernel_rfl) (Stg.Keep.rel _) rfl ?_; intro K hK; go_big_quiet_op; go_big_quiet_on
                refine Stg.takeX 6 (by kernel_rfl) (Stg.Keep.rel _) rfl ?_; intro K hK; go_big_quiet_op; go_big_quiet_on
                have ne38 : x1.heap.size ≠ x28.heap.size := Nat.ne_of_lt lt36
                refine Stg.one 9 (by kernel_rfl) ?_
                have u139 := cat437.cell 0 rfl
                have u239 := cat437.frozen 0
                have u339 := cat437.lt
                refine Stg.stepX 9 (by kernel_rfl) rfl ?_; intro K hK; go_simp
                obtain ⟨x39, hw39⟩ : ∃ wz, x37.setCell ⟨x28.heap.size, 0, none⟩ (.slice Aq37 mq37 kq37) = wz := ⟨_, rfl⟩
                have hne39 : x1.heap.size ≠ x28.heap.size := ne38
                have hs39 : Rw.At x39 x28.heap.size 27 [.slice Aq37 mq37 kq37] := by rw [← hw39]; exact cat437.set 0 (.slice Aq37 mq37 kq37)
                have ho39 : Rw.At x39 x1.heap.size 27 [.slice none 0 0] := by rw [← hw39]; exact cat537.other hne39 _
                have hq39 := hisq37.setAt cat437 (by decide) 0 (.slice Aq37 mq37 kq37)
                have hr39 := hisr37.setAt cat437 (by decide) 0 (.slice Aq37 mq37 kq37)
                have hz39 := hz37.setCell (p := ⟨x28.heap.size, 0, none⟩) hz28.size (.slice Aq37 mq37 kq37)
                rw [hw39] at hq39 hr39 hz39
                rw [hw39]
                refine hK _ _ (by rw [← hw39]; exact Stg.Keep.of_grown (Rw.grown_set _ _ _) (fun q hq => ⟨Nat.lt_of_lt_of_le hq hz37.size, fun e => by cases e; exact absurd hq (Nat.not_lt.2 hz28.size)⟩)) ?_
                intro A' hA'; subst hA'
                clear hw39 u139 u239 u339
                refine Stg.one 10 (by kernel_rfl) ?_
                have u140 := ho39.cell 0 rfl
                have u240 := ho39.frozen 0
                have u340 := ho39.lt
                refine Stg.stepX 10 (by kernel_rfl) rfl ?_; intro K hK; go_simp
                obtain ⟨x40, hw40⟩ : ∃ wz, x39.setCell ⟨x1.heap.size, 0, none⟩ (.slice Ar37 mr37 kr37) = wz := ⟨_, rfl⟩
                have hne40 : x28.heap.size ≠ x1.heap.size := ne38.symm
                have hs40 : Rw.At x40 x1.heap.size 27 [.slice Ar37 mr37 kr37] := by rw [← hw40]; exact ho39.set 0 (.slice Ar37 mr37 kr37)
                have ho40 : Rw.At x40 x28.heap.size 27 [.slice Aq37 mq37 kq37] := by rw [← hw40]; exact hs39.other hne40 _
                have hq40 := hq39.setAt ho39 (by decide) 0 (.slice Ar37 mr37 kr37)
                have hr40 := hr39.setAt ho39 (by decide) 0 (.slice Ar37 mr37 kr37)
                have hz40 := hz39.setCell (p := ⟨x1.heap.size, 0, none⟩) hz1.size (.slice Ar37 mr37 kr37)
                rw [hw40] at hq40 hr40 hz40
                rw [hw40]
                refine hK _ _ (by rw [← hw40]; exact Stg.Keep.of_grown (Rw.grown_set _ _ _) (fun q hq => ⟨Nat.lt_of_lt_of_le hq hz39.size, fun e => by cases e; exact absurd hq (Nat.not_lt.2 hz1.size)⟩)) ?_
                intro A' hA'; subst hA'
                clear hw40 u140 u240 u340
                refine Stg.takeX 11 (by kernel_rfl) (Stg.Keep.rel _) rfl ?_; intro K hK; go_big_quiet_op; go_big_quiet_on
                refine Stg.endX (by kernel_rfl) ?_
                go_wp2_with fail
                go_meet
                exact ⟨_, _, Aq37, mq37, kq37, Ar37, mr37, kr37, rfl, rfl, ho40, hs40, hq40, hr40, hz28.size, hz1.size, hz40⟩
          · skip
            refine Stg.stepX 7 (by kernel_rfl) rfl ?_; intro K hK; go_simp
            obtain ⟨x41, hw41⟩ : ∃ wz, (w2.alloc (.cells #[.slice none 0 0] 27)).drew = wz := ⟨_, rfl⟩
            have hb41 : Below w2.heap.size w2.drew x41 := by rw [← hw41]; exact Nm.bel_alloc_drew w2 _
            have hat41 : Rw.At x41 w2.heap.size 27 [.slice none 0 0] := by rw [← hw41]; exact Rw.At.new w2 27 [.slice none 0 0]
            rw [hw41]
            refine hK _ _ (Stg.Keep.of_below hb41 (fun q hq => Nat.lt_of_lt_of_le hq hzd.size)) ?_
            intro A' hA'; subst hA'
            have hz41 := hzd.trans (hb41.mono hzd.size)
            clear hw41
            refine Stg.two 1 8 (by kernel_rfl) ?_ ?_
            · skip
              refine Stg.callX 1 rfl 4 _ _ rfl Tryd.func4 [.int .u64 1000000000] rfl _ (HOF.o x41) (by kernel_rfl) ?_
              rintro e x42 ⟨v42, rfl, his42, hb42⟩
              obtain ⟨A42, m42, k42, l42, rfl, rr42⟩ := id his42
              clear rr42
              refine ⟨_, rfl, (Stg.Keep.of_below hb42 (fun q hq => Nat.lt_of_lt_of_le hq hz41.size)), ?_⟩
              intro A' hA'; simp only [Act.put, List.setIfInBounds_toArray, List.set_cons_succ, List.set_cons_zero] at hA'; subst hA'
              have cat442 := hat41.below hb42
              have hz42 := hz41.trans (hb42.mono hz41.size)
              refine Stg.two 2 8 (by kernel_rfl) ?_ ?_
              · skip
                refine Stg.callX 2 rfl 14 _ _ rfl Tryd.func14 [.agg #[.slice Aa ma ca], .agg #[.slice A42 m42 k42]] rfl _ (HDV.o x42 _ hz42 his42) (by kernel_rfl) ?_
                rintro e x43 ⟨vq43, vr43, rfl, hisq43, hisr43, hb43⟩
                obtain ⟨Aq43, mq43, kq43, lq43, rfl, rq43⟩ := id hisq43
                obtain ⟨Ar43, mr43, kr43, lr43, rfl, rr43⟩ := id hisr43
                clear rq43 rr43
                refine ⟨_, rfl, (Stg.Keep.of_below hb43 (fun q hq => Nat.lt_of_lt_of_le hq hz42.size)), ?_⟩
                intro A' hA'; simp only [Act.put, List.setIfInBounds_toArray, List.set_cons_succ, List.set_cons_zero] at hA'; subst hA'
                have cat443 := cat442.below hb43
                have cof43 := his42.below hb43
                have hz43 := hz42.trans (hb43.mono hz42.size)
                refine Stg.takeX 3 (by kernel_rfl) (Stg.Keep.rel _) rfl ?_; intro K hK; go_big_quiet_op; go_big_quiet_on
                refine Stg.takeX 4 (by kernel_rfl) (Stg.Keep.rel _) rfl ?_; intro K hK; go_big_quiet_op; go_big_quiet_on
                refine Stg.takeX 5 (by kernel_rfl) (Stg.Keep.rel _) rfl ?_; intro K hK; go_big_quiet_op; go_big_quiet_on
                refine Stg.takeX 6 (by kernel_rfl) (Stg.Keep.rel _) rfl ?_; intro K hK; go_big_quiet_op; go_big_quiet_on
                refine Stg.one 8 (by kernel_rfl) ?_
                refine Stg.stepX 8 (by kernel_rfl) rfl ?_; intro K hK; go_simp
                obtain ⟨x44, hw44⟩ : ∃ wz, x43.alloc (.cells #[.slice none 0 0] 27) = wz := ⟨_, rfl⟩
                have hb44 : Below x43.heap.size x43 x44 := by rw [← hw44]; exact Nm.bel_alloc x43 _
                have hat44 : Rw.At x44 x43.heap.size 27 [.slice none 0 0] := by rw [← hw44]; exact Rw.At.new x43 27 [.slice none 0 0]
                rw [hw44]
                refine hK _ _ (Stg.Keep.of_below hb44 (fun q hq => Nat.lt_of_lt_of_le hq hz43.size)) ?_
                intro A' hA'; subst hA'
                have cat444 := cat443.below hb44
                have cof44 := cof43.below hb44
                have cq44 := hisq43.below hb44
                have cr44 := hisr43.below hb44
                have hz44 := hz43.trans (hb44.mono hz43.size)
                clear hw44
                have lt45 := cat443.lt
                have ne46 : x43.heap.size ≠ w2.heap.size := Nat.ne_of_gt lt45
                refine Stg.one 9 (by kernel_rfl) ?_
                have u147 := cat444.cell 0 rfl
                have u247 := cat444.frozen 0
                have u347 := cat444.lt
                refine Stg.stepX 9 (by kernel_rfl) rfl ?_; intro K hK; go_simp
                obtain ⟨x47, hw47⟩ : ∃ wz, x44.setCell ⟨w2.heap.size, 0, none⟩ (.slice Aq43 mq43 kq43) = wz := ⟨_, rfl⟩
                have hne47 : x43.heap.size ≠ w2.heap.size := ne46
                have hs47 : Rw.At x47 w2.heap.size 27 [.slice Aq43 mq43 kq43] := by rw [← hw47]; exact cat444.set 0 (.slice Aq43 mq43 kq43)
                have ho47 : Rw.At x47 x43.heap.size 27 [.slice none 0 0] := by rw [← hw47]; exact hat44.other hne47 _
                have hq47 := cq44.setAt cat444 (by decide) 0 (.slice Aq43 mq43 kq43)
                have hr47 := cr44.setAt cat444 (by decide) 0 (.slice Aq43 mq43 kq43)
                have hz47 := hz44.setCell (p := ⟨w2.heap.size, 0, none⟩) hzd.size (.slice Aq43 mq43 kq43)
                rw [hw47] at hq47 hr47 hz47
                rw [hw47]
                refine hK _ _ (by rw [← hw47]; exact Stg.Keep.of_grown (Rw.grown_set _ _ _) (fun q hq => ⟨Nat.lt_of_lt_of_le hq hz44.size, fun e => by cases e; exact absurd hq (Nat.not_lt.2 hzd.size)⟩)) ?_
                intro A' hA'; subst hA'
                clear hw47 u147 u247 u347
                refine Stg.one 10 (by kernel_rfl) ?_
                have u148 := ho47.cell 0 rfl
                have u248 := ho47.frozen 0
                have u348 := ho47.lt
                refine Stg.stepX 10 (by kernel_rfl) rfl ?_; intro K hK; go_simp
                obtain ⟨x48, hw48⟩ : ∃ wz, x47.setCell ⟨x43.heap.size, 0, none⟩ (.slice Ar43 mr43 kr43) = wz := ⟨_, rfl⟩
                have hne48 : w2.heap.size ≠ x43.heap.size := ne46.symm
                have hs48 : Rw.At x48 x43.heap.size 27 [.slice Ar43 mr43 kr43] := by rw [← hw48]; exact ho47.set 0 (.slice Ar43 mr43 kr43)
                have ho48 : Rw.At x48 w2.heap.size 27 [.slice Aq43 mq43 kq43] := by rw [← hw48]; exact hs47.other hne48 _
                have hq48 := hq47.setAt ho47 (by decide) 0 (.slice Ar43 mr43 kr43)
                have hr48 := hr47.setAt ho47 (by decide) 0 (.slice Ar43 mr43 kr43)
                have hz48 := hz47.setCell (p := ⟨x43.heap.size, 0, none⟩) hz43.size (.slice Ar43 mr43 kr43)
                rw [hw48] at hq48 hr48 hz48
                rw [hw48]
                refine hK _ _ (by rw [← hw48]; exact Stg.Keep.of_grown (Rw.grown_set _ _ _) (fun q hq => ⟨Nat.lt_of_lt_of_le hq hz47.size, fun e => by cases e; exact absurd hq (Nat.not_lt.2 hz43.size)⟩)) ?_
                intro A' hA'; subst hA'
                clear hw48 u148 u248 u348
                refine Stg.takeX 11 (by kernel_rfl) (Stg.Keep.rel _) rfl ?_; intro K hK; go_big_quiet_op; go_big_quiet_on
                refine Stg.endX (by kernel_rfl) ?_
                go_wp2_with fail
                go_meet
                exact ⟨_, _, Aq43, mq43, kq43, Ar43, mr43, kr43, rfl, rfl, ho48, hs48, hq48, hr48, hzd.size, hz43.size, hz48⟩
              · skip
                refine Stg.stepX 8 (by kernel_rfl) rfl ?_; intro K hK; go_simp
                obtain ⟨x49, hw49⟩ : ∃ wz, x42.alloc (.cells #[.slice none 0 0] 27) = wz := ⟨_, rfl⟩
                have hb49 : Below x42.heap.size x42 x49 := by rw [← hw49]; exact Nm.bel_alloc x42 _
                have hat49 : Rw.At x49 x42.heap.size 27 [.slice none 0 0] := by rw [← hw49]; exact Rw.At.new x42 27 [.slice none 0 0]
                rw [hw49]
                refine hK _ _ (Stg.Keep.of_below hb49 (fun q hq => Nat.lt_of_lt_of_le hq hz42.size)) ?_
                intro A' hA'; subst hA'
                have cat449 := cat442.below hb49
                have cof49 := his42.below hb49
                have hz49 := hz42.trans (hb49.mono hz42.size)
                clear hw49
                have lt50 := cat442.lt
                refine Stg.one 2 (by kernel_rfl) ?_
                refine Stg.callX 2 rfl 14 _ _ rfl Tryd.func14 [.agg #[.slice Aa ma ca], .agg #[.slice A42 m42 k42]] rfl _ (HDV.o x49 _ hz49 cof49) (by kernel_rfl) ?_
                rintro e x51 ⟨vq51, vr51, rfl, hisq51, hisr51, hb51⟩
                obtain ⟨Aq51, mq51, kq51, lq51, rfl, rq51⟩ := id hisq51
                obtain ⟨Ar51, mr51, kr51, lr51, rfl, rr51⟩ := id hisr51
                clear rq51 rr51
                refine ⟨_, rfl, (Stg.Keep.of_below hb51 (fun q hq => Nat.lt_of_lt_of_le hq hz49.size)), ?_⟩
                intro A' hA'; simp only [Act.put, List.setIfInBounds_toArray, List.set_cons_succ, List.set_cons_zero] at hA'; subst hA'
                have cat451 := cat449.below hb51
                have cat551 := hat49.below hb51
                have cof51 := cof49.below hb51
                have hz51 := hz49.trans (hb51.mono hz49.size)
                refine Stg.takeX 3 (by kernel_rfl) (Stg.Keep.rel _) rfl ?_; intro K hK; go_big_quiet_op; go_big_quiet_on
                refine Stg.takeX 4 (by kernel_rfl) (Stg.Keep.rel _) rfl ?_; intro K hK; go_big_quiet_op; go_big_quiet_on
                refine Stg.takeX 5 (by kernel_rfl) (Stg.Keep.rel _) rfl ?_; intro K hK; go_big_quiet_op; go_big_quiet_on
                refine Stg.takeX 6 (by kernel_rfl) (Stg.Keep.rel _) rfl ?_; intro K hK; go_big_quiet_op; go_big_quiet_on
                have ne52 : x42.heap.size ≠ w2.heap.size := Nat.ne_of_gt lt50
                refine Stg.one 9 (by kernel_rfl) ?_
                have u153 := cat451.cell 0 rfl
                have u253 := cat451.frozen 0
                have u353 := cat451.lt
                refine Stg.stepX 9 (by kernel_rfl) rfl ?_; intro K hK; go_simp
                obtain ⟨x53, hw53⟩ : ∃ wz, x51.setCell ⟨w2.heap.size, 0, none⟩ (.slice Aq51 mq51 kq51) = wz := ⟨_, rfl⟩
                have hne53 : x42.heap.size ≠ w2.heap.size := ne52
                have hs53 : Rw.At x53 w2.heap.size 27 [.slice Aq51 mq51 kq51] := by rw [← hw53]; exact cat451.set 0 (.slice Aq51 mq51 kq51)
                have ho53 : Rw.At x53 x42.heap.size 27 [.slice none 0 0] := by rw [← hw53]; exact cat551.other hne53 _
                have hq53 := hisq51.setAt cat451 (by decide) 0 (.slice Aq51 mq51 kq51)
                have hr53 := hisr51.setAt cat451 (by decide) 0 (.slice Aq51 mq51 kq51)
                have hz53 := hz51.setCell (p := ⟨w2.heap.size, 0, none⟩) hzd.size (.slice Aq51 mq51 kq51)
                rw [hw53] at hq53 hr53 hz53
                rw [hw53]
                refine hK _ _ (by rw [← hw53]; exact Stg.Keep.of_grown (Rw.grown_set _ _ _) (fun q hq => ⟨Nat.lt_of_lt_of_le hq hz51.size, fun e => by cases e; exact absurd hq (Nat.not_lt.2 hzd.size)⟩)) ?_
                intro A' hA'; subst hA'
                clear hw53 u153 u253 u353
                refine Stg.one 10 (by kernel_rfl) ?_
                have u154 := ho53.cell 0 rfl
                have u254 := ho53.frozen 0
                have u354 := ho53.lt
                refine Stg.stepX 10 (by kernel_rfl) rfl ?_; intro K hK; go_simp
                obtain ⟨x54, hw54⟩ : ∃ wz, x53.setCell ⟨x42.heap.size, 0, none⟩ (.slice Ar51 mr51 kr51) = wz := ⟨_, rfl⟩
                have hne54 : w2.heap.size ≠ x42.heap.size := ne52.symm
                have hs54 : Rw.At x54 x42.heap.size 27 [.slice Ar51 mr51 kr51] := by rw [← hw54]; exact ho53.set 0 (.slice Ar51 mr51 kr51)
                have ho54 : Rw.At x54 w2.heap.size 27 [.slice Aq51 mq51 kq51] := by rw [← hw54]; exact hs53.other hne54 _
                have hq54 := hq53.setAt ho53 (by decide) 0 (.slice Ar51 mr51 kr51)
                have hr54 := hr53.setAt ho53 (by decide) 0 (.slice Ar51 mr51 kr51)
                have hz54 := hz53.setCell (p := ⟨x42.heap.size, 0, none⟩) hz42.size (.slice Ar51 mr51 kr51)
                rw [hw54] at hq54 hr54 hz54
                rw [hw54]
                refine hK _ _ (by rw [← hw54]; exact Stg.Keep.of_grown (Rw.grown_set _ _ _) (fun q hq => ⟨Nat.lt_of_lt_of_le hq hz53.size, fun e => by cases e; exact absurd hq (Nat.not_lt.2 hz42.size)⟩)) ?_
                intro A' hA'; subst hA'
                clear hw54 u154 u254 u354
                refine Stg.takeX 11 (by kernel_rfl) (Stg.Keep.rel _) rfl ?_; intro K hK; go_big_quiet_op; go_big_quiet_on
                refine Stg.endX (by kernel_rfl) ?_
                go_wp2_with fail
                go_meet
                exact ⟨_, _, Aq51, mq51, kq51, Ar51, mr51, kr51, rfl, rfl, ho54, hs54, hq54, hr54, hzd.size, hz42.size, hz54⟩
            · skip
              refine Stg.stepX 8 (by kernel_rfl) rfl ?_; intro K hK; go_simp
              obtain ⟨x55, hw55⟩ : ∃ wz, x41.alloc (.cells #[.slice none 0 0] 27) = wz := ⟨_, rfl⟩
              have hb55 : Below x41.heap.size x41 x55 := by rw [← hw55]; exact Nm.bel_alloc x41 _
              have hat55 : Rw.At x55 x41.heap.size 27 [.slice none 0 0] := by rw [← hw55]; exact Rw.At.new x41 27 [.slice none 0 0]
              rw [hw55]
              refine hK _ _ (Stg.Keep.of_below hb55 (fun q hq => Nat.lt_of_lt_of_le hq hz41.size)) ?_
              intro A' hA'; subst hA'
              have cat455 := hat41.below hb55
              have hz55 := hz41.trans (hb55.mono hz41.size)
              clear hw55
              have lt56 := hat41.lt
              refine Stg.one 1 (by kernel_rfl) ?_
              refine Stg.callX 1 rfl 4 _ _ rfl Tryd.func4 [.int .u64 1000000000] rfl _ (HOF.o x55) (by kernel_rfl) ?_
              rintro e x57 ⟨v57, rfl, his57, hb57⟩
              obtain ⟨A57, m57, k57, l57, rfl, rr57⟩ := id his57
              clear rr57
              refine ⟨_, rfl, (Stg.Keep.of_below hb57 (fun q hq => Nat.lt_of_lt_of_le hq hz55.size)), ?_⟩
              intro A' hA'; simp only [Act.put, List.setIfInBounds_toArray, List.set_cons_succ, List.set_cons_zero] at hA'; subst hA'
              have cat457 := cat455.below hb57
              have cat557 := hat55.below hb57
              have hz57 := hz55.trans (hb57.mono hz55.size)
              refine Stg.one 2 (by kernel_rfl) ?_
              refine Stg.callX 2 rfl 14 _ _ rfl Tryd.func14 [.agg #[.slice Aa ma ca], .agg #[.slice A57 m57 k57]] rfl _ (HDV.o x57 _ hz57 his57) (by kernel_rfl) ?_
              rintro e x58 ⟨vq58, vr58, rfl, hisq58, hisr58, hb58⟩
              obtain ⟨Aq58, mq58, kq58, lq58, rfl, rq58⟩ := id hisq58
              obtain ⟨Ar58, mr58, kr58, lr58, rfl, rr58⟩ := id hisr58
              clear rq58 rr58
              refine ⟨_, rfl, (Stg.Keep.of_below hb58 (fun q hq => Nat.lt_of_lt_of_le hq hz57.size)), ?_⟩
              intro A' hA'; simp only [Act.put, List.setIfInBounds_toArray, List.set_cons_succ, List.set_cons_zero] at hA'; subst hA'
              have cat458 := cat457.below hb58
              have cat558 := cat557.below hb58
              have cof58 := his57.below hb58
              have hz58 := hz57.trans (hb58.mono hz57.size)
              refine Stg.takeX 3 (by kernel_rfl) (Stg.Keep.rel _) rfl ?_; intro K hK; go_big_quiet_op; go_big_quiet_on
              refine Stg.takeX 4 (by kernel_rfl) (Stg.Keep.rel _) rfl ?_; intro K hK; go_big_quiet_op; go_big_quiet_on
              refine Stg.takeX 5 (by kernel_rfl) (Stg.Keep.rel _) rfl ?_; intro K hK; go_big_quiet_op; go_big_quiet_on
              refine Stg.takeX 6 (by kernel_rfl) (Stg.Keep.rel _) rfl ?_; intro K hK; go_big_quiet_op; go_big_quiet_on
              have ne59 : x41.heap.size ≠ w2.heap.size := Nat.ne_of_gt lt56
              refine Stg.one 9 (by kernel_rfl) ?_
              have u160 := cat458.cell 0 rfl
              have u260 := cat458.frozen 0
              have u360 := cat458.lt
              refine Stg.stepX 9 (by kernel_rfl) rfl ?_; intro K hK; go_simp
              obtain ⟨x60, hw60⟩ : ∃ wz, x58.setCell ⟨w2.heap.size, 0, none⟩ (.slice Aq58 mq58 kq58) = wz := ⟨_, rfl⟩
              have hne60 : x41.heap.size ≠ w2.heap.size := ne59
              have hs60 : Rw.At x60 w2.heap.size 27 [.slice Aq58 mq58 kq58] := by rw [← hw60]; exact cat458.set 0 (.slice Aq58 mq58 kq58)
              have ho60 : Rw.At x60 x41.heap.size 27 [.slice none 0 0] := by rw [← hw60]; exact cat558.other hne60 _
              have hq60 := hisq58.setAt cat458 (by decide) 0 (.slice Aq58 mq58 kq58)
              have hr60 := hisr58.setAt cat458 (by decide) 0 (.slice Aq58 mq58 kq58)
              have hz60 := hz58.setCell (p := ⟨w2.heap.size, 0, none⟩) hzd.size (.slice Aq58 mq58 kq58)
              rw [hw60] at hq60 hr60 hz60
              rw [hw60]
              refine hK _ _ (by rw [← hw60]; exact Stg.Keep.of_grown (Rw.grown_set _ _ _) (fun q hq => ⟨Nat.lt_of_lt_of_le hq hz58.size, fun e => by cases e; exact absurd hq (Nat.not_lt.2 hzd.size)⟩)) ?_
              intro A' hA'; subst hA'
              clear hw60 u160 u260 u360
              refine Stg.one 10 (by kernel_rfl) ?_
              have u161 := ho60.cell 0 rfl
              have u261 := ho60.frozen 0
              have u361 := ho60.lt
              refine Stg.stepX 10 (by kernel_rfl) rfl ?_; intro K hK; go_simp
              obtain ⟨x61, hw61⟩ : ∃ wz, x60.setCell ⟨x41.heap.size, 0, none⟩ (.slice Ar58 mr58 kr58) = wz := ⟨_, rfl⟩
              have hne61 : w2.heap.size ≠ x41.heap.size := ne59.symm
              have hs61 : Rw.At x61 x41.heap.size 27 [.slice Ar58 mr58 kr58] := by rw [← hw61]; exact ho60.set 0 (.slice Ar58 mr58 kr58)
              have ho61 : Rw.At x61 w2.heap.size 27 [.slice Aq58 mq58 kq58] := by rw [← hw61]; exact hs60.other hne61 _
              have hq61 := hq60.setAt ho60 (by decide) 0 (.slice Ar58 mr58 kr58)
              have hr61 := hr60.setAt ho60 (by decide) 0 (.slice Ar58 mr58 kr58)
              have hz61 := hz60.setCell (p := ⟨x41.heap.size, 0, none⟩) hz41.size (.slice Ar58 mr58 kr58)
              rw [hw61] at hq61 hr61 hz61
              rw [hw61]
              refine hK _ _ (by rw [← hw61]; exact Stg.Keep.of_grown (Rw.grown_set _ _ _) (fun q hq => ⟨Nat.lt_of_lt_of_le hq hz60.size, fun e => by cases e; exact absurd hq (Nat.not_lt.2 hz41.size)⟩)) ?_
              intro A' hA'; subst hA'
              clear hw61 u161 u261 u361
              refine Stg.takeX 11 (by kernel_rfl) (Stg.Keep.rel _) rfl ?_; intro K hK; go_big_quiet_op; go_big_quiet_on
              refine Stg.endX (by kernel_rfl) ?_
              go_wp2_with fail
              go_meet
              exact ⟨_, _, Aq58, mq58, kq58, Ar58, mr58, kr58, rfl, rfl, ho61, hs61, hq61, hr61, hzd.size, hz41.size, hz61⟩
          · skip
            refine Stg.stepX 8 (by kernel_rfl) rfl ?_; intro K hK; go_simp
            obtain ⟨x62, hw62⟩ : ∃ wz, (w2.alloc (.cells #[.slice none 0 0] 27)).drew = wz := ⟨_, rfl⟩
            have hb62 : Below w2.heap.size w2.drew x62 := by rw [← hw62]; exact Nm.bel_alloc_drew w2 _
            have hat62 : Rw.At x62 w2.heap.size 27 [.slice none 0 0] := by rw [← hw62]; exact Rw.At.new w2 27 [.slice none 0 0]
            rw [hw62]
            refine hK _ _ (Stg.Keep.of_below hb62 (fun q hq => Nat.lt_of_lt_of_le hq hzd.size)) ?_
            intro A' hA'; subst hA'
            have hz62 := hzd.trans (hb62.mono hzd.size)
            clear hw62
            refine Stg.two 1 7 (by kernel_rfl) ?_ ?_
            · skip
              refine Stg.callX 1 rfl 4 _ _ rfl Tryd.func4 [.int .u64 1000000000] rfl _ (HOF.o x62) (by kernel_rfl) ?_
              rintro e x63 ⟨v63, rfl, his63, hb63⟩
              obtain ⟨A63, m63, k63, l63, rfl, rr63⟩ := id his63
              clear rr63
              refine ⟨_, rfl, (Stg.Keep.of_below hb63 (fun q hq => Nat.lt_of_lt_of_le hq hz62.size)), ?_⟩
              intro A' hA'; simp only [Act.put, List.setIfInBounds_toArray, List.set_cons_succ, List.set_cons_zero] at hA'; subst hA'
              have cat563 := hat62.below hb63
              have hz63 := hz62.trans (hb63.mono hz62.size)
              refine Stg.two 2 7 (by kernel_rfl) ?_ ?_
              · skip
                refine Stg.callX 2 rfl 14 _ _ rfl Tryd.func14 [.agg #[.slice Aa ma ca], .agg #[.slice A63 m63 k63]] rfl _ (HDV.o x63 _ hz63 his63) (by kernel_rfl) ?_
                rintro e x64 ⟨vq64, vr64, rfl, hisq64, hisr64, hb64⟩
                obtain ⟨Aq64, mq64, kq64, lq64, rfl, rq64⟩ := id hisq64
                obtain ⟨Ar64, mr64, kr64, lr64, rfl, rr64⟩ := id hisr64
                clear rq64 rr64
                refine ⟨_, rfl, (Stg.Keep.of_below hb64 (fun q hq => Nat.lt_of_lt_of_le hq hz63.size)), ?_⟩
                intro A' hA'; simp only [Act.put, List.setIfInBounds_toArray, List.set_cons_succ, List.set_cons_zero] at hA'; subst hA'
                have cat564 := cat563.below hb64
                have cof64 := his63.below hb64
                have hz64 := hz63.trans (hb64.mono hz63.size)
                refine Stg.takeX 3 (by kernel_rfl) (Stg.Keep.rel _) rfl ?_; intro K hK; go_big_quiet_op; go_big_quiet_on
                refine Stg.takeX 4 (by kernel_rfl) (Stg.Keep.rel _) rfl ?_; intro K hK; go_big_quiet_op; go_big_quiet_on
                refine Stg.takeX 5 (by kernel_rfl) (Stg.Keep.rel _) rfl ?_; intro K hK; go_big_quiet_op; go_big_quiet_on
                refine Stg.takeX 6 (by kernel_rfl) (Stg.Keep.rel _) rfl ?_; intro K hK; go_big_quiet_op; go_big_quiet_on
                refine Stg.one 7 (by kernel_rfl) ?_
                refine Stg.stepX 7 (by kernel_rfl) rfl ?_; intro K hK; go_simp
                obtain ⟨x65, hw65⟩ : ∃ wz, x64.alloc (.cells #[.slice none 0 0] 27) = wz := ⟨_, rfl⟩
                have hb65 : Below x64.heap.size x64 x65 := by rw [← hw65]; exact Nm.bel_alloc x64 _
                have hat65 : Rw.At x65 x64.heap.size 27 [.slice none 0 0] := by rw [← hw65]; exact Rw.At.new x64 27 [.slice none 0 0]
                rw [hw65]
                refine hK _ _ (Stg.Keep.of_below hb65 (fun q hq => Nat.lt_of_lt_of_le hq hz64.size)) ?_
                intro A' hA'; subst hA'
                have cat565 := cat564.below hb65
                have cof65 := cof64.below hb65
                have cq65 := hisq64.below hb65
                have cr65 := hisr64.below hb65
                have hz65 := hz64.trans (hb65.mono hz64.size)
                clear hw65
                have lt66 := cat564.lt
                have ne67 : w2.heap.size ≠ x64.heap.size := Nat.ne_of_lt lt66
                refine Stg.one 9 (by kernel_rfl) ?_
                have u168 := hat65.cell 0 rfl
                have u268 := hat65.frozen 0
                have u368 := hat65.lt
                refine Stg.stepX 9 (by kernel_rfl) rfl ?_; intro K hK; go_simp
                obtain ⟨x68, hw68⟩ : ∃ wz, x65.setCell ⟨x64.heap.size, 0, none⟩ (.slice Aq64 mq64 kq64) = wz := ⟨_, rfl⟩
                have hne68 : w2.heap.size ≠ x64.heap.size := ne67
                have hs68 : Rw.At x68 x64.heap.size 27 [.slice Aq64 mq64 kq64] := by rw [← hw68]; exact hat65.set 0 (.slice Aq64 mq64 kq64)
                have ho68 : Rw.At x68 w2.heap.size 27 [.slice none 0 0] := by rw [← hw68]; exact cat565.other hne68 _
                have hq68 := cq65.setAt hat65 (by decide) 0 (.slice Aq64 mq64 kq64)
                have hr68 := cr65.setAt hat65 (by decide) 0 (.slice Aq64 mq64 kq64)
                have hz68 := hz65.setCell (p := ⟨x64.heap.size, 0, none⟩) hz64.size (.slice Aq64 mq64 kq64)
                rw [hw68] at hq68 hr68 hz68
                rw [hw68]
                refine hK _ _ (by rw [← hw68]; exact Stg.Keep.of_grown (Rw.grown_set _ _ _) (fun q hq => ⟨Nat.lt_of_lt_of_le hq hz65.size, fun e => by cases e; exact absurd hq (Nat.not_lt.2 hz64.size)⟩)) ?_
                intro A' hA'; subst hA'
                clear hw68 u168 u268 u368
                refine Stg.one 10 (by kernel_rfl) ?_
                have u169 := ho68.cell 0 rfl
                have u269 := ho68.frozen 0
                have u369 := ho68.lt
                refine Stg.stepX 10 (by kernel_rfl) rfl ?_; intro K hK; go_simp
                obtain ⟨x69, hw69⟩ : ∃ wz, x68.setCell ⟨w2.heap.size, 0, none⟩ (.slice Ar64 mr64 kr64) = wz := ⟨_, rfl⟩
                have hne69 : x64.heap.size ≠ w2.heap.size := ne67.symm
                have hs69 : Rw.At x69 w2.heap.size 27 [.slice Ar64 mr64 kr64] := by rw [← hw69]; exact ho68.set 0 (.slice Ar64 mr64 kr64)
                have ho69 : Rw.At x69 x64.heap.size 27 [.slice Aq64 mq64 kq64] := by rw [← hw69]; exact hs68.other hne69 _
                have hq69 := hq68.setAt ho68 (by decide) 0 (.slice Ar64 mr64 kr64)
                have hr69 := hr68.setAt ho68 (by decide) 0 (.slice Ar64 mr64 kr64)
                have hz69 := hz68.setCell (p := ⟨w2.heap.size, 0, none⟩) hzd.size (.slice Ar64 mr64 kr64)
                rw [hw69] at hq69 hr69 hz69
                rw [hw69]
                refine hK _ _ (by rw [← hw69]; exact Stg.Keep.of_grown (Rw.grown_set _ _ _) (fun q hq => ⟨Nat.lt_of_lt_of_le hq hz68.size, fun e => by cases e; exact absurd hq (Nat.not_lt.2 hzd.size)⟩)) ?_
                intro A' hA'; subst hA'
                clear hw69 u169 u269 u369
                refine Stg.takeX 11 (by kernel_rfl) (Stg.Keep.rel _) rfl ?_; intro K hK; go_big_quiet_op; go_big_quiet_on
                refine Stg.endX (by kernel_rfl) ?_
                go_wp2_with fail
                go_meet
                exact ⟨_, _, Aq64, mq64, kq64, Ar64, mr64, kr64, rfl, rfl, ho69, hs69, hq69, hr69, hz64.size, hzd.size, hz69⟩
              · skip
                refine Stg.stepX 7 (by kernel_rfl) rfl ?_; intro K hK; go_simp
                obtain ⟨x70, hw70⟩ : ∃ wz, x63.alloc (.cells #[.slice none 0 0] 27) = wz := ⟨_, rfl⟩
                have hb70 : Below x63.heap.size x63 x70 := by rw [← hw70]; exact Nm.bel_alloc x63 _
                have hat70 : Rw.At x70 x63.heap.size 27 [.slice none 0 0] := by rw [← hw70]; exact Rw.At.new x63 27 [.slice none 0 0]
                rw [hw70]
                refine hK _ _ (Stg.Keep.of_below hb70 (fun q hq => Nat.lt_of_lt_of_le hq hz63.size)) ?_
                intro A' hA'; subst hA'
                have cat570 := cat563.below hb70
                have cof70 := his63.below hb70
                have hz70 := hz63.trans (hb70.mono hz63.size)
                clear hw70
                have lt71 := cat563.lt
                refine Stg.one 2 (by kernel_rfl) ?_
                refine Stg.callX 2 rfl 14 _ _ rfl Tryd.func14 [.agg #[.slice Aa ma ca], .agg #[.slice A63 m63 k63]] rfl _ (HDV.o x70 _ hz70 cof70) (by kernel_rfl) ?_
                rintro e x72 ⟨vq72, vr72, rfl, hisq72, hisr72, hb72⟩
                obtain ⟨Aq72, mq72, kq72, lq72, rfl, rq72⟩ := id hisq72
                obtain ⟨Ar72, mr72, kr72, lr72, rfl, rr72⟩ := id hisr72
                clear rq72 rr72
                refine ⟨_, rfl, (Stg.Keep.of_below hb72 (fun q hq => Nat.lt_of_lt_of_le hq hz70.size)), ?_⟩
                intro A' hA'; simp only [Act.put, List.setIfInBounds_toArray, List.set_cons_succ, List.set_cons_zero] at hA'; subst hA'
                have cat472 := hat70.below hb72
                have cat572 := cat570.below hb72
                have cof72 := cof70.below hb72
                have hz72 := hz70.trans (hb72.mono hz70.size)
                refine Stg.takeX 3 (by kernel_rfl) (Stg.Keep.rel _) rfl ?_; intro K hK; go_big_quiet_op; go_big_quiet_on
                refine Stg.takeX 4 (by kernel_rfl) (Stg.Keep.rel _) rfl ?_; intro K hK; go_big_quiet_op; go_big_quiet_on
                refine Stg.takeX 5 (by kernel_rfl) (Stg.Keep.rel _) rfl ?_; intro K hK; go_big_quiet_op; go_big_quiet_on
                refine Stg.takeX 6 (by kernel_rfl) (Stg.Keep.rel _) rfl ?_; intro K hK; go_big_quiet_op; go_big_quiet_on
                have ne73 : w2.heap.size ≠ x63.heap.size := Nat.ne_of_lt lt71
                refine Stg.one 9 (by kernel_rfl) ?_
                have u174 := cat472.cell 0 rfl
                have u274 := cat472.frozen 0
                have u374 := cat472.lt
                refine Stg.stepX 9 (by kernel_rfl) rfl ?_; intro K hK; go_simp
                obtain ⟨x74, hw74⟩ : ∃ wz, x72.setCell ⟨x63.heap.size, 0, none⟩ (.slice Aq72 mq72 kq72) = wz := ⟨_, rfl⟩
                have hne74 : w2.heap.size ≠ x63.heap.size := ne73
                have hs74 : Rw.At x74 x63.heap.size 27 [.slice Aq72 mq72 kq72] := by rw [← hw74]; exact cat472.set 0 (.slice Aq72 mq72 kq72)
                have ho74 : Rw.At x74 w2.heap.size 27 [.slice none 0 0] := by rw [← hw74]; exact cat572.other hne74 _
                have hq74 := hisq72.setAt cat472 (by decide) 0 (.slice Aq72 mq72 kq72)
                have hr74 := hisr72.setAt cat472 (by decide) 0 (.slice Aq72 mq72 kq72)
                have hz74 := hz72.setCell (p := ⟨x63.heap.size, 0, none⟩) hz63.size (.slice Aq72 mq72 kq72)
                rw [hw74] at hq74 hr74 hz74
                rw [hw74]
                refine hK _ _ (by rw [← hw74]; exact Stg.Keep.of_grown (Rw.grown_set _ _ _) (fun q hq => ⟨Nat.lt_of_lt_of_le hq hz72.size, fun e => by cases e; exact absurd hq (Nat.not_lt.2 hz63.size)⟩)) ?_
                intro A' hA'; subst hA'
                clear hw74 u174 u274 u374
                refine Stg.one 10 (by kernel_rfl) ?_
                have u175 := ho74.cell 0 rfl
                have u275 := ho74.frozen 0
                have u375 := ho74.lt
                refine Stg.stepX 10 (by kernel_rfl) rfl ?_; intro K hK; go_simp
                obtain ⟨x75, hw75⟩ : ∃ wz, x74.setCell ⟨w2.heap.size, 0, none⟩ (.slice Ar72 mr72 kr72) = wz := ⟨_, rfl⟩
                have hne75 : x63.heap.size ≠ w2.heap.size := ne73.symm
                have hs75 : Rw.At x75 w2.heap.size 27 [.slice Ar72 mr72 kr72] := by rw [← hw75]; exact ho74.set 0 (.slice Ar72 mr72 kr72)
                have ho75 : Rw.At x75 x63.heap.size 27 [.slice Aq72 mq72 kq72] := by rw [← hw75]; exact hs74.other hne75 _
                have hq75 := hq74.setAt ho74 (by decide) 0 (.slice Ar72 mr72 kr72)
                have hr75 := hr74.setAt ho74 (by decide) 0 (.slice Ar72 mr72 kr72)
                have hz75 := hz74.setCell (p := ⟨w2.heap.size, 0, none⟩) hzd.size (.slice Ar72 mr72 kr72)
                rw [hw75] at hq75 hr75 hz75
                rw [hw75]
                refine hK _ _ (by rw [← hw75]; exact Stg.Keep.of_grown (Rw.grown_set _ _ _) (fun q hq => ⟨Nat.lt_of_lt_of_le hq hz74.size, fun e => by cases e; exact absurd hq (Nat.not_lt.2 hzd.size)⟩)) ?_
                intro A' hA'; subst hA'
                clear hw75 u175 u275 u375
                refine Stg.takeX 11 (by kernel_rfl) (Stg.Keep.rel _) rfl ?_; intro K hK; go_big_quiet_op; go_big_quiet_on
                refine Stg.endX (by kernel_rfl) ?_
                go_wp2_with fail
                go_meet
                exact ⟨_, _, Aq72, mq72, kq72, Ar72, mr72, kr72, rfl, rfl, ho75, hs75, hq75, hr75, hz63.size, hzd.size, hz75⟩
            · skip
              refine Stg.stepX 7 (by kernel_rfl) rfl ?_; intro K hK; go_simp
              obtain ⟨x76, hw76⟩ : ∃ wz, x62.alloc (.cells #[.slice none 0 0] 27) = wz := ⟨_, rfl⟩
              have hb76 : Below x62.heap.size x62 x76 := by rw [← hw76]; exact Nm.bel_alloc x62 _
              have hat76 : Rw.At x76 x62.heap.size 27 [.slice none 0 0] := by rw [← hw76]; exact Rw.At.new x62 27 [.slice none 0 0]
              rw [hw76]
              refine hK _ _ (Stg.Keep.of_below hb76 (fun q hq => Nat.lt_of_lt_of_le hq hz62.size)) ?_
              intro A' hA'; subst hA'
              have cat576 := hat62.below hb76
              have hz76 := hz62.trans (hb76.mono hz62.size)
              clear hw76
              have lt77 := hat62.lt
              refine Stg.one 1 (by kernel_rfl) ?_
              refine Stg.callX 1 rfl 4 _ _ rfl Tryd.func4 [.int .u64 1000000000] rfl _ (HOF.o x76) (by kernel_rfl) ?_
              rintro e x78 ⟨v78, rfl, his78, hb78⟩
              obtain ⟨A78, m78, k78, l78, rfl, rr78⟩ := id his78
              clear rr78
              refine ⟨_, rfl, (Stg.Keep.of_below hb78 (fun q hq => Nat.lt_of_lt_of_le hq hz76.size)), ?_⟩
              intro A' hA'; simp only [Act.put, List.setIfInBounds_toArray, List.set_cons_succ, List.set_cons_zero] at hA'; subst hA'
              have cat478 := hat76.below hb78
              have cat578 := cat576.below hb78
              have hz78 := hz76.trans (hb78.mono hz76.size)
              refine Stg.one 2 (by kernel_rfl) ?_
              refine Stg.callX 2 rfl 14 _ _ rfl Tryd.func14 [.agg #[.slice Aa ma ca], .agg #[.slice A78 m78 k78]] rfl _ (HDV.o x78 _ hz78 his78) (by kernel_rfl) ?_
              rintro e x79 ⟨vq79, vr79, rfl, hisq79, hisr79, hb79⟩
              obtain ⟨Aq79, mq79, kq79, lq79, rfl, rq79⟩ := id hisq79
              obtain ⟨Ar79, mr79, kr79, lr79, rfl, rr79⟩ := id hisr79
              clear rq79 rr79
              refine ⟨_, rfl, (Stg.Keep.of_below hb79 (fun q hq => Nat.lt_of_lt_of_le hq hz78.size)), ?_⟩
              intro A' hA'; simp only [Act.put, List.setIfInBounds_toArray, List.set_cons_succ, List.set_cons_zero] at hA'; subst hA'
              have cat479 := cat478.below hb79
              have cat579 := cat578.below hb79
              have cof79 := his78.below hb79
              have hz79 := hz78.trans (hb79.mono hz78.size)
              refine Stg.takeX 3 (by kernel_rfl) (Stg.Keep.rel _) rfl ?_; intro K hK; go_big_quiet_op; go_big_quiet_on
              refine Stg.takeX 4 (by kernel_rfl) (Stg.Keep.rel _) rfl ?_; intro K hK; go_big_quiet_op; go_big_quiet_on
              refine Stg.takeX 5 (by kernel_rfl) (Stg.Keep.rel _) rfl ?_; intro K hK; go_big_quiet_op; go_big_quiet_on
              refine Stg.takeX 6 (by kernel_rfl) (Stg.Keep.rel _) rfl ?_; intro K hK; go_big_quiet_op; go_big_quiet_on
              have ne80 : w2.heap.size ≠ x62.heap.size := Nat.ne_of_lt lt77
              refine Stg.one 9 (by kernel_rfl) ?_
              have u181 := cat479.cell 0 rfl
              have u281 := cat479.frozen 0
              have u381 := cat479.lt
              refine Stg.stepX 9 (by kernel_rfl) rfl ?_; intro K hK; go_simp
              obtain ⟨x81, hw81⟩ : ∃ wz, x79.setCell ⟨x62.heap.size, 0, none⟩ (.slice Aq79 mq79 kq79) = wz := ⟨_, rfl⟩
              have hne81 : w2.heap.size ≠ x62.heap.size := ne80
              have hs81 : Rw.At x81 x62.heap.size 27 [.slice Aq79 mq79 kq79] := by rw [← hw81]; exact cat479.set 0 (.slice Aq79 mq79 kq79)
              have ho81 : Rw.At x81 w2.heap.size 27 [.slice none 0 0] := by rw [← hw81]; exact cat579.other hne81 _
              have hq81 := hisq79.setAt cat479 (by decide) 0 (.slice Aq79 mq79 kq79)
              have hr81 := hisr79.setAt cat479 (by decide) 0 (.slice Aq79 mq79 kq79)
              have hz81 := hz79.setCell (p := ⟨x62.heap.size, 0, none⟩) hz62.size (.slice Aq79 mq79 kq79)
              rw [hw81] at hq81 hr81 hz81
              rw [hw81]
              refine hK _ _ (by rw [← hw81]; exact Stg.Keep.of_grown (Rw.grown_set _ _ _) (fun q hq => ⟨Nat.lt_of_lt_of_le hq hz79.size, fun e => by cases e; exact absurd hq (Nat.not_lt.2 hz62.size)⟩)) ?_
              intro A' hA'; subst hA'
              clear hw81 u181 u281 u381
              refine Stg.one 10 (by kernel_rfl) ?_
              have u182 := ho81.cell 0 rfl
              have u282 := ho81.frozen 0
              have u382 := ho81.lt
              refine Stg.stepX 10 (by kernel_rfl) rfl ?_; intro K hK; go_simp
              obtain ⟨x82, hw82⟩ : ∃ wz, x81.setCell ⟨w2.heap.size, 0, none⟩ (.slice Ar79 mr79 kr79) = wz := ⟨_, rfl⟩
              have hne82 : x62.heap.size ≠ w2.heap.size := ne80.symm
              have hs82 : Rw.At x82 w2.heap.size 27 [.slice Ar79 mr79 kr79] := by rw [← hw82]; exact ho81.set 0 (.slice Ar79 mr79 kr79)
              have ho82 : Rw.At x82 x62.heap.size 27 [.slice Aq79 mq79 kq79] := by rw [← hw82]; exact hs81.other hne82 _
              have hq82 := hq81.setAt ho81 (by decide) 0 (.slice Ar79 mr79 kr79)
              have hr82 := hr81.setAt ho81 (by decide) 0 (.slice Ar79 mr79 kr79)
              have hz82 := hz81.setCell (p := ⟨w2.heap.size, 0, none⟩) hzd.size (.slice Ar79 mr79 kr79)
              rw [hw82] at hq82 hr82 hz82
              rw [hw82]
              refine hK _ _ (by rw [← hw82]; exact Stg.Keep.of_grown (Rw.grown_set _ _ _) (fun q hq => ⟨Nat.lt_of_lt_of_le hq hz81.size, fun e => by cases e; exact absurd hq (Nat.not_lt.2 hzd.size)⟩)) ?_
              intro A' hA'; subst hA'
              clear hw82 u182 u282 u382
              refine Stg.takeX 11 (by kernel_rfl) (Stg.Keep.rel _) rfl ?_; intro K hK; go_big_quiet_op; go_big_quiet_on
              refine Stg.endX (by kernel_rfl) ?_
              go_wp2_with fail
              go_meet
              exact ⟨_, _, Aq79, mq79, kq79, Ar79, mr79, kr79, rfl, rfl, ho82, hs82, hq82, hr82, hz62.size, hzd.size, hz82⟩
        case rest =>
        obtain ⟨g4, g5, Aq, mq, cq, Ar, mr, cr, rfl, rfl, hat4, hat5, hisq, hisr, hg4, hg5, hbx⟩ := hcut
        obtain ⟨wx2, rfl⟩ : ∃ q : World, q = wc := ⟨_, rfl⟩
        obtain ⟨Q, hQ⟩ : ∃ q, A / 1000000000 = q := ⟨_, rfl⟩
        obtain ⟨R, hR⟩ : ∃ r, A % 1000000000 = r := ⟨_, rfl⟩
        rw [hQ] at hisq
        rw [hR] at hisr
        have hRl : R < 1000000000 := by rw [← hR]; exact Nat.mod_lt _ (by decide)
        have hAe : A = R + 1000000000 * Q := by rw [← hQ, ← hR]; exact (Nat.mod_add_div A 1000000000).symm
        have HU := hy' (Nm.uint64_any (.agg #[.slice Ar mr cr]) R L wx2 (by omega) (by omega) hisr)
        have H4 := hy' hat4
        have HIQ := hy' hisq
        have HAX := hy' (HAT2.o.below hbx)
        have HOX := hy' (own_below HOW2.o hbx (Nat.le_refl _))
        have HBX := hy' (HB2.o.trans (hbx.mono HB2.o.size))
        have HG4 := hy' (show w2.heap.size ≤ g4 from hg4)
        have HL2 := hy' (HAT2.o.lt)
        have hszx := Nat.le_trans hsz2 hbx.size
        -- how many digits there may be
        have hdl10 : dl ≤ 10 * L := by
          have hs := HSUM.o
          rw [HDLN.o] at hs
          obtain ⟨A9, m9, c9, l9, hv9, hm9, _, hc9, hn9, hL9⟩ := HIS.o
          have h1 : n < 4294967296 ^ L := by
            rw [← hn9]
            exact Nat.lt_of_lt_of_le (Nm.val_lt hc9.1) (Nat.pow_le_pow_right (by decide) (by omega))
          have h2 : 10 ^ dl * 1 ≤ 10 ^ dl * A := Nat.mul_le_mul_left _ (Nat.pos_of_ne_zero HAA.o)
          have h3 : (4294967296 : Nat) ^ L ≤ (10 ^ 10) ^ L := Nat.pow_le_pow_left (by decide) _
          rw [← Nat.pow_mul] at h3
          have h4 : 10 ^ dl < 10 ^ (10 * L) := by omega
          exact Nat.le_of_lt ((Nat.pow_lt_pow_iff_right (by decide : 1 < 10)).1 h4)
        have hstart : Nm.be 10 ((D.map (· - 48)).reverse) + 10 ^ (D.map (· - 48)).length * (R + 10 ^ 9 * Q) = n := by
          rw [List.length_map, show (10 : Nat) ^ 9 = 1000000000 by decide, ← hAe]; exact HSUM.o
        have HST := hy' hstart
        have k5 := hat5.cell 0 rfl
        have l5 := hat5.lt
        clear hat4 hat5 hisq hisr hbx hQ hR hAe hg4 hg5 hstart
        go_wp2_with fail
        refine HU.o.mono ?_
        rintro e w6 ⟨rfl, hb6⟩
        have H46 := hy' (H4.o.below hb6)
        have HIQ6 := hy' (HIQ.o.below hb6)
        have HAX6 := hy' (HAX.o.below hb6)
        have HOX6 := hy' (own_below HOX.o hb6 (Nat.le_refl _))
        have HBX6 := hy' (HBX.o.trans (hb6.mono HBX.o.size))
        have hsz6 := Nat.le_trans hszx hb6.size
        clear hb6 k5 l5
        go_wp2_with fail
        go_loopw [3, 7, 26] (fun vb vd vi wr => ∃ (D2 : List Nat) (d2 t : Nat) (Ab2 : Option Addr) (cb2 : Nat), vb = .slice Ab2 (dl + t) cb2 ∧ vd = .int .u64 (d2 : Int) ∧ vi = .int .i64 (t : Int) ∧ t ≤ 9 ∧ d2 < 10 ^ (9 - t) ∧ D2.length = dl + t ∧ wr.ownsRow w1.heap.size 5 1 (.slice Ab2 (dl + t) cb2) (dl + t) (Nm.u8s D2) ∧ (∀ d ∈ D2, 48 ≤ d ∧ d ≤ 57) ∧ Nm.be 10 ((D2.map (· - 48)).reverse) + 10 ^ (D2.map (· - 48)).length * (d2 + 10 ^ (9 - t) * Q) = n ∧ Rw.At wr w.heap.size 27 [.slice Aa ma ca] ∧ Rw.At wr g4 27 [.slice Aq mq cq] ∧ Nm.Is wr (.agg #[.slice Aq mq cq]) Q L ∧ Below w.heap.size w wr ∧ w1.heap.size ≤ wr.heap.size) (fun _ _ vi _ => 9 - (intOf vi).toNat)
        case atStart => exact ⟨D, R, 0, Ab, cb, rfl, rfl, rfl, by omega, by rw [show (10 : Nat) ^ (9 - 0) = 1000000000 by decide]; exact hRl, HDLN.o, HOX6.o, HDD.o, HST.o, HAX6.o, H46.o, HIQ6.o, HBX6.o, hsz6⟩
        case round =>
          obtain ⟨D2, d2, t, Ab2, cb2, rfl, rfl, rfl, ht9, hd2, hl2, hown2, hdd2, hsum2, hax2, h42, hiq2, hbe2, hsz7⟩ := hrel
          have HL22 := hy' hl2
          have HOW7 := hy' hown2
          have HDD7 := hy' hdd2
          have HSUM7 := hy' hsum2
          have HAX7 := hy' hax2
          have H47 := hy' h42
          have HIQ7 := hy' hiq2
          have HBE7 := hy' hbe2
          clear hl2 hown2 hdd2 hsum2 hax2 h42 hiq2 hbe2
          by_cases hlt : t < 9
          · have tI : (t : Int) < 9 := by omega
            obtain ⟨r, hr⟩ : ∃ r, d2 % 10 = r := ⟨_, rfl⟩
            obtain ⟨q, hq⟩ : ∃ q, d2 / 10 = q := ⟨_, rfl⟩
            have hpow : 10 ^ (9 - t) = 10 * 10 ^ (9 - (t + 1)) := by rw [show 9 - t = 9 - (t + 1) + 1 by omega, Nat.pow_succ, Nat.mul_comm]
            have hd2b : d2 < 1000000000 := Nat.lt_of_lt_of_le hd2 (by rw [show (1000000000 : Nat) = 10 ^ 9 by decide]; exact Nat.pow_le_pow_right (by decide) (by omega))
            have hqb : q < 10 ^ (9 - (t + 1)) := by rw [hpow] at hd2; omega
            have hsum2 := HSUM7.o
            rw [hpow, Nat.mul_assoc] at hsum2
            have hnx := Nm.dec_next hsum2
            rw [hr, hq] at hnx
            have hmap : (D2 ++ [48 + r]).map (· - 48) = D2.map (· - 48) ++ [r] := by
              rw [List.map_append, List.map_cons, List.map_nil, show 48 + r - 48 = r by omega]
            rw [← hmap] at hnx
            have HNX := hy' hnx
            have HQB := hy' hqb
            have hrI : (d2 : Int) % 10 = r := by omega
            have hqI : (d2 : Int) / 10 = q := by omega
            have hrl : r < 10 := by omega
            have r0 : (0 : Int) ≤ r := by omega
            have r1 : (r : Int) < 10 := by omega
            have hyI : ((48 : Int) + r) % 256 = 48 + r := by omega
            have d0 : (0 : Int) ≤ d2 := by omega
            have d1 : (d2 : Int) < 1000000000 := by omega
            have hu : Nm.u8s D2 ++ [Value.int .u8 ((48 : Int) + r)] = Nm.u8s (D2 ++ [48 + r]) := by simp [Nm.u8s]
            have HUU := hy' hu
            obtain ⟨ln, hln⟩ : ∃ k, dl + t = k := ⟨_, rfl⟩
            have hln2 : dl + (t + 1) = ln + 1 := by omega
            have hlnb : ln ≤ 100000 := by omega
            rw [hln] at HOW7 HL22 ⊢
            have HLN2 := hy' hln2
            clear hr hq hpow hd2 hqb hsum2 hnx hmap hu hln hln2
            go_wp2_with (at_builtin; refine Nm.wpList_push _ rfl _ _ _ rfl w1.heap.size 5 i0 _ 1 Tryd.underlying23 hi hz0 hz1 hz2 rfl _ ln _ rfl HOW7.o _ rfl rfl (by simp only [maxLen]; omega) (by omega) hsz7 ?_; intro v1 w4 hown4 hb4 hgr4; rw [HUU.o] at hown4; obtain ⟨A4, c4, rfl⟩ := own_form hown4; have HO4 := hy' hown4; have HAX8 := hy' (Nm.at_push HAX7.o HOW7.o (by decide) hgr4); have H48 := hy' (Nm.at_push H47.o HOW7.o (by decide) hgr4); have HIQ8 := hy' (Nm.is_push HIQ7.o HOW7.o (by decide) hgr4); have HBE8 := hy' (HBE7.o.trans (hb4.mono HB1.o.size)); have HSZ8 := hy' (Nat.le_trans hsz7 hb4.size); clear hown4 hb4 hgr4)
            exact ⟨⟨D2 ++ [48 + r], q, t + 1, A4, c4, by rw [HLN2.o], rfl, by first | rfl | go_num, by omega, HQB.o, by rw [List.length_append, HL22.o, HLN2.o]; rfl, by rw [HLN2.o]; exact HO4.o, fun d hd => by
              rcases List.mem_append.1 hd with h | h
              · exact HDD7.o d h
              · simp at h; omega, HNX.o, HAX8.o, H48.o, HIQ8.o, HBE8.o, HSZ8.o⟩, by first | (simp [intOf]; done) | (simp [intOf]; omega)⟩
          · obtain rfl : t = 9 := by omega
            have tI : ¬ ((9 : Nat) : Int) < 9 := by omega
            have hd20 : d2 = 0 := by
              rw [show (10 : Nat) ^ (9 - 9) = 1 by decide] at hd2; omega
            have hfin := HSUM7.o
            rw [hd20, show (10 : Nat) ^ (9 - 9) = 1 by decide, Nat.one_mul, Nat.zero_add, List.length_map] at hfin
            have HFIN := hy' hfin
            have k1 := HAX7.o.cell 0 rfl
            have k4 := H47.o.cell 0 rfl
            have f1 := HAX7.o.frozen 0
            have l1 := HAX7.o.lt
            have l4 := H47.o.lt
            have hown9 := ownsRow_setCell_below (a := ⟨w.heap.size, 0, none⟩) HOW7.o HAT1.o.lt (.slice Aq mq cq)
            have HO9 := hy' hown9
            have HA9 := hy' (HAX7.o.set 0 (.slice Aq mq cq))
            have HI9 := hy' (HIQ7.o.setAt HAX7.o (by decide) 0 (.slice Aq mq cq))
            have HB9 := hy' (HBE7.o.setCell (p := ⟨w.heap.size, 0, none⟩) (Nat.le_refl _) (.slice Aq mq cq))
            clear hfin hown9 hd2 hd20
            go_wp2_with fail
            exact ⟨⟨Q, D2, Aq, mq, cq, Ab2, cb2, by rw [HL22.o], HA9.o, HI9.o, by rw [HL22.o]; exact HO9.o, HDD7.o, HFIN.o, by rw [HL22.o]; omega, HB9.o, by rw [World.size_setCell]; exact hsz7⟩, by show 10 * L + 20 - (dl + 9) < 10 * L + 20 - dl; omega⟩
end Go.Proofs.YthcdecncnppjaaaDoor
