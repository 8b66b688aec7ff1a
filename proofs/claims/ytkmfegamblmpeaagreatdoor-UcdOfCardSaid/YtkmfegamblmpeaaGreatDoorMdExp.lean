/- The layer model: expand and Full, by walking their text. -/
import Derived.Test.YtkmfegamblmpeaaGreatDoorPgLib
import Derived.Deep.AppendLies
import Derived.Maps.Range
namespace Go.Proofs.YtkmfegamblmpeaaGreatDoor
open Go.RowKit
set_option linter.unusedSimpArgs false
set_option linter.unusedVariables false

theorem Md.expL_app (f : List Int → Int → Option (List Int)) : ∀ (a b out : List Int), Md.expL f out (a ++ b) = (Md.expL f out a).bind fun o => Md.expL f o b
  | [], b, out => rfl
  | d :: r, b, out => by
    rw [List.cons_append, Md.expL, Md.expL]
    cases f out d with
    | none => rfl
    | some o => exact Md.expL_app f r b o
theorem Md.expL_step {f : List Int → Int → Option (List Int)} {L out o : List Int} {k : Nat} {x : Int} (hx : L[k]? = some x) (h : Md.expL f out (L.take k) = some o) : Md.expL f out (L.take (k + 1)) = f o x := by
  rw [List.take_add_one, hx, Md.expL_app, h, Option.bind_some]
  show (f o x).bind (fun o => Md.expL f o []) = f o x
  cases f o x <;> rfl
theorem Md.expL_stop {f : List Int → Int → Option (List Int)} {L out o : List Int} {k : Nat} {x : Int} (hx : L[k]? = some x) (h : Md.expL f out (L.take k) = some o) (hn : f o x = none) : Md.expL f out L = none := by
  have h1 := Md.expL_step hx h
  rw [hn] at h1
  rw [← List.take_append_drop (k + 1) L, Md.expL_app, h1]
  rfl
theorem Md.exp_le {mp : Int → List Int} {k : Nat} {out l : List Int} {c : Int} (ho : out.length ≤ 32) (h : Md.exp mp k out c = some l) : l.length ≤ 32 := by
  rw [Md.exp_lv mp k out c ho] at h
  cases hl : Md.lv mp k c with
  | none => rw [hl] at h; cases h
  | some a =>
    rw [hl, Option.bind_some] at h
    unfold Md.fit at h
    split at h
    · cases h; simpa using ‹_›
    · cases h
theorem Md.exp_leaf {mp : Int → List Int} (k : Nat) {out : List Int} {c : Int} (h : mp c = []) : Md.exp mp k out c = Md.leaf out c := by
  cases k with
  | zero => rw [Md.exp, if_pos h]
  | succ k => rw [Md.exp, if_pos h]
theorem Md.kept_of {w w' : World} {base : Nat} {e : TypeId} {size n : Nat} {v : Value} {xs : List Value} {row : Option Nat} (h : w.ownsRow base e size v n xs) (hg : w.grownBy w' row) (hr : ∀ k, row = some k → k < base) : w'.ownsRow base e size v n xs := by
  refine h.kept hg ?_
  cases hv : v.ownBlock with
  | none => exact .inl rfl
  | some g =>
    refine .inr fun e' => ?_
    have h1 := hr g e'.symm
    have h2 := (h.lt g hv).1
    omega
/-- What expand answers: where it ends, the list behind what was there, in a row of the call's own; whose block is the elder one, or new. -/
def Md.RetExp (W0 : World) (w : World) (vo : Value) (o : Option (List Int)) (e : Ending) (w' : World) : Prop :=
  ∃ A n c, e = .returned (.tuple #[.slice A n c, .bool o.isSome]) ∧ (∀ l, o = some l → w'.ownsRow W0.heap.size 21 1 (.slice A n c) l.length (l.map (Value.int .i32)) ∧ ∀ g, (Value.slice A n c).ownBlock = some g → vo.ownBlock = some g ∨ w.heap.size ≤ g) ∧ w.grownBy w' vo.ownBlock
def Md.Exps (T : List Rw.Row) (W0 : World) (v : Value) (k : Nat) : Prop :=
  ∀ (l : List Int) (vo : Value) (c : Int) (deep : Nat) (w : World), deep + k = T.length + 3 → -2147483648 ≤ c → c ≤ 2147483647 → l.length ≤ 32 → Below W0.heap.size W0 w → w.ownsRow W0.heap.size 21 1 vo l.length (l.map (Value.int .i32)) →
    Calls Tryz.prog 81 #[v, vo, .int .i32 c, .int .i64 deep] w (Md.RetExp W0 w vo (Md.exp (Md.mp T) k l c))

set_option maxRecDepth 100000 in
set_option maxHeartbeats 4000000 in
theorem Md.exp_step (T : List Rw.Row) (S : List Int) (W0 : World) (v : Value) (ok : Md.Ok T) (h0 : Md.Is W0 v T S) (k : Nat) (IH : ∀ k', k = k' + 1 → Md.Exps T W0 v k') : Md.Exps T W0 v k := by
  intro l vo c deep w hd h3 h4 hl hBw hown
  obtain ⟨j0, hj0, hy0, hy1, hy2⟩ := info_parts infoRune
  have hv := h0
  obtain ⟨A, cc, XA, xc, rfl, h2, hX⟩ := hv
  obtain ⟨xn, hxn⟩ : ∃ k, S.length = k := ⟨_, rfl⟩
  obtain ⟨n, hn⟩ : ∃ k, T.length = k := ⟨_, rfl⟩
  have hnb : n ≤ 1000000 := by rw [← hn]; exact ok.1
  rw [hn] at hd
  have HNN := Lib.hid hn
  rw [hn, hxn] at h0 IH ⊢
  obtain ⟨AO, co, rfl⟩ := own_form hown
  have hba : Below w.heap.size w (w.alloc (.cells #[.slice A n cc, .slice XA xn xc] 50)) := (Below.refl _ _).alloc (Nat.le_refl _) _
  have hat : Rw.At (w.alloc (.cells #[.slice A n cc, .slice XA xn xc] 50)) w.heap.size 50 [.slice A n cc, .slice XA xn xc] := Rw.At.new w 50 [.slice A n cc, .slice XA xn xc]
  have hBa := hBw.trans (hba.mono hBw.size)
  have hM := Md.map_any _ T S c _ ok (h0.below hBa) h3 h4
  have hmb := Md.mp_bd ok.2.2.1 c
  have hmq : (Md.mp T c).length ≤ 1000000 := by
    unfold Md.mp Md.rmp
    split
    · simp
    · cases hf : Md.find T c with
      | none => simp
      | some r => exact ok.2.2.2 r (Md.find_some hf).1
  have z0 := hat.cell 0 rfl
  have z1 := hat.cell 1 rfl
  have hat' := hat
  obtain ⟨m, hm⟩ : ∃ m, Md.mp T c = m := ⟨_, rfl⟩
  rw [hm] at hmb hM hmq
  obtain ⟨f, hf⟩ : ∃ f, Md.exp (Md.mp T) k l c = f := ⟨_, rfl⟩
  rw [hf]
  have HM := Lib.hid hm
  have HF := Lib.hid hf
  have HMB := Lib.hid hmb
  have HIH := Lib.hid IH
  have HOWN := Lib.hid hown
  have HBA := Lib.hid hba
  have HBW := Lib.hid hBw
  have hob : ∀ g, (Value.slice AO l.length co).ownBlock = some g → W0.heap.size ≤ g ∧ g < w.heap.size := fun g hg => hown.lt g hg
  have HOB := Lib.hid hob
  have HATT := Lib.hid hat'
  unfold Md.RetOwn at hM
  clear h0 h2 hX hn hxn hba hat hat' ok hm hf hmb IH hown hBa hBw hob
  unfold Md.tv at *
  go_enter Tryz.func81, Tryz.ntmps81
  go_wp2_with fail
  refine hM.mono ?_
  rintro e w1 ⟨A1, c1, rfl, hownM, hb1⟩
  have hB1 := HBA.out.trans (hb1.mono HBA.out.size)
  have hsz1 : w.heap.size < w1.heap.size := Nat.lt_of_lt_of_le (by simp) hb1.size
  have hat1 := HATT.out.below hb1
  have hown1 := own_below HOWN.out hB1 (Nat.le_refl _)
  have hg1 := (Rw.grown_below hB1).but (Value.slice AO l.length co).ownBlock
  have hW1 := HBW.out.trans (hB1.mono HBW.out.size)
  have hbase1 := hW1.size
  have HAT1 := Lib.hid hat1
  have HOWN1 := Lib.hid hown1
  have HG1 := Lib.hid hg1
  have HW1 := Lib.hid hW1
  have HOM := Lib.hid hownM
  have hll : (l.map (Value.int .i32)).length = l.length := List.length_map _
  clear hB1 hat1 hown1 hg1 hW1 hownM hb1 hM z0 z1
  rcases m with _ | ⟨m0, mr⟩
  · have hleaf : f = Md.leaf l c := by rw [← HF.out]; exact Md.exp_leaf k HM.out
    have hsome : f.isSome = decide ((l.length : Int) < 32) := by
      rw [hleaf]
      unfold Md.leaf
      by_cases h : l.length < 32
      · rw [if_pos h, decide_eq_true (by omega)]; rfl
      · rw [if_neg h, decide_eq_false (by omega)]; rfl
    have HLEAF := Lib.hid hleaf
    have HSOME := Lib.hid hsome
    have hal : (w1.alloc (.cells #[.int .i32 c] 21)).heap.size = w1.heap.size + 1 := by simp
    clear hleaf hsome HIH
    go_wp2_with (at_builtin; refine wpList_append_lies _ rfl _ _ 36 rfl W0.heap.size 21 j0 _ 1 4 Tryz.underlying36 hj0 hy0 hy1 hy2 rfl (by omega) _ l.length (l.map (Value.int .i32)) rfl (HOWN1.out.alloc _) ⟨w1.heap.size, 0, none⟩ 1 1 [.int .i32 c] rfl rfl (cell_one_new _ _ _) (by intro u hu; simp only [List.mem_singleton] at hu; subst hu; rfl) (by omega) (by unfold maxLen; omega) (by omega) (by omega) _ rfl ?_; intro g cap w2 hown2 hgr2 hlies hlt)
    have HOWN2 := Lib.hid hown2
    have HLIES := Lib.hid hlies
    have HG2 := Lib.hid (HG1.out.andThen ((World.grownBy_alloc w1 (.cells #[.int .i32 c] 21) (Value.slice AO l.length co).ownBlock).trans hgr2) fun j hj => .inr hj)
    clear hown2 hgr2 hlies
    go_wp2_with fail
    go_ret2
    refine ⟨some ⟨g, 0, none⟩, l.length + 1, cap, ?_, fun l' hl' => ?_, HG2.out⟩
    · rw [HSOME.out]; rfl
    have hlt32 : l.length < 32 ∧ l' = l ++ [c] := by
      rw [HLEAF.out] at hl'
      unfold Md.leaf at hl'
      split at hl'
      · cases hl'; exact ⟨‹_›, rfl⟩
      · cases hl'
    obtain ⟨_, rfl⟩ := hlt32
    refine ⟨?_, fun g' hg' => ?_⟩
    · have := HOWN2.out
      rw [List.length_append, List.map_append]
      exact this
    · simp only [Value.ownBlock, Option.some.injEq] at hg'
      subst hg'
      rcases HLIES.out with h | h
      · exact .inl h
      · exact .inr (by omega)
  · have hne : Md.mp T c ≠ [] := by rw [HM.out]; exact fun e => by cases e
    have q1 : ((mr.length : Int) + 1 == 0) = false := by simp; omega
    have hmlen : (m0 :: mr).length = mr.length + 1 := rfl
    rcases k with _ | k
    · have hfn : f = none := by rw [← HF.out, Md.exp, if_neg hne]
      have HFN := Lib.hid hfn
      have hdeep : (n : Int) + 2 < deep := by omega
      have htt := HAT1.out
      have z2 := htt.cell 0 rfl
      clear hfn HIH htt hne
      go_wp2_with fail
      go_ret2
      refine ⟨AO, l.length, co, ?_, fun l' hl' => ?_, HG1.out⟩
      · rw [HFN.out]; rfl
      · rw [HFN.out] at hl'; cases hl'
    · have hfn : f = Md.expL (Md.exp (Md.mp T) k) l (m0 :: mr) := by rw [← HF.out, Md.exp, if_neg hne, HM.out]
      have HFN := Lib.hid hfn
      have hdeep : ¬ (n : Int) + 2 < deep := by omega
      have hih : Md.Exps T W0 (.agg #[.slice A n cc, .slice XA xn xc]) k := HIH.out k rfl
      have HI := Lib.hid hih
      have htt := HAT1.out
      have z2 := htt.cell 0 rfl
      obtain ⟨q, hq⟩ : ∃ q, (m0 :: mr).length = q := ⟨_, rfl⟩
      have hownm := HOM.out
      rw [hq] at hownm ⊢
      have q2 : ((q : Int) == 0) = false := by rw [← hq]; simp; omega
      rw [hq] at hmq
      have HQ := Lib.hid hq
      have HOM2 := Lib.hid hownm
      have hrow : (Value.slice AO l.length co).ownBlock ≠ some w.heap.size := fun e => by have := (HOB.out _ e).2; omega
      have HROW := Lib.hid hrow
      obtain ⟨vb, hvb⟩ : ∃ vb, (Value.slice AO l.length co).ownBlock = vb := ⟨_, rfl⟩
      rw [hvb] at HG1 HROW HOB
      have HVB := Lib.hid hvb
      clear hfn HIH htt hne hih hq hownm HOM q1 hmlen hrow hvb
      go_wp2_with fail
      go_loopw [1, 11, 13, 36] (fun v1 v11 _ i wr => ∃ (t : Nat) (A2 : Option Addr) (c2 : Nat) (ls : List Int), t ≤ q ∧ i = .int .i64 t ∧ v1 = .slice A2 ls.length c2 ∧ v11 = .bool true ∧ Md.expL (Md.exp (Md.mp T) k) l ((m0 :: mr).take t) = some ls ∧ ls.length ≤ 32 ∧ wr.ownsRow W0.heap.size 21 1 (.slice A2 ls.length c2) ls.length (ls.map (Value.int .i32)) ∧ (∀ g, (Value.slice A2 ls.length c2).ownBlock = some g → vb = some g ∨ w1.heap.size ≤ g) ∧ w1.grownBy wr vb) (fun _ _ _ i _ => q - (intOf i).toNat)
      case atStart => exact ⟨0, AO, co, l, Nat.zero_le _, rfl, rfl, rfl, rfl, hl, HOWN1.out, fun g hg => .inl (by rw [← HVB.out]; exact hg), (Rw.grown_below (Below.refl _ _)).but _⟩
      case round =>
        obtain ⟨t, A2, c2, ls, ht, rfl, rfl, rfl, hpre, hls, hownr, hlies, hgr⟩ := hrel
        have hatr := HAT1.out.grown hgr HROW.out
        have hm2 := Md.kept_of HOM2.out hgr (fun g hg => by have := (HOB.out g hg).2; simp; omega)
        have hsm := Sl.of_own hm2
        have hwr := HG1.out.andThen hgr fun j hj => .inr hj
        have hBr : Below W0.heap.size W0 wr := HBW.out.trans (Rw.below_grown hwr HBW.out.size fun g hg => (HOB.out g hg).1)
        have y0 := hatr.cell 0 rfl
        have y1 := hatr.cell 1 rfl
        have hzr := hgr.size
        have HPRE := Lib.hid hpre
        have HOWNR := Lib.hid hownr
        have HLIES := Lib.hid hlies
        have HGR := Lib.hid hgr
        have HWR := Lib.hid hwr
        by_cases hlt : t < q
        · obtain ⟨x, hx⟩ : ∃ x, (m0 :: mr)[t]? = some x := ⟨_, List.getElem?_eq_getElem (by rw [HQ.out]; exact hlt)⟩
          have hxb := HMB.out x (List.mem_of_getElem? hx)
          obtain ⟨ab, ao, rfl, hab, hac⟩ := hsm (by rw [List.length_map, HQ.out]; omega)
          have hc := hac t (by rw [List.length_map, HQ.out]; exact hlt)
          rw [List.getElem?_map, hx, Option.map_some] at hc
          have hcall := HI.out ls _ x (deep + 1) wr (by rw [HNN.out]; omega) hxb.1 hxb.2 hls hBr hownr
          rw [show ((deep + 1 : Nat) : Int) = (deep : Int) + 1 by omega] at hcall
          obtain ⟨o, ho⟩ : ∃ o, Md.exp (Md.mp T) k ls x = o := ⟨_, rfl⟩
          rw [ho] at hcall
          have HX := Lib.hid hx
          have HO := Lib.hid ho
          have tI : (t : Int) < q := by omega
          clear hpre hownr hlies hgr hwr hBr hatr hm2 hsm hac hx ho
          go_wp2_with fail
          refine hcall.mono ?_
          rintro e w2 ⟨A3, n3, c3, rfl, hres, hg2⟩
          have hg3 := HGR.out.andThen hg2 fun j hj => by
            rcases HLIES.out j hj with h | h
            · exact .inr h
            · exact .inl h
          have HG3 := Lib.hid hg3
          have HRES := Lib.hid hres
          clear hg2 hg3 hres hcall
          rcases o with _ | l3
          · have hfn : f = none := by rw [HFN.out]; exact Md.expL_stop HX.out HPRE.out HO.out
            have HFN2 := Lib.hid hfn
            clear hfn
            go_wp2_with fail
            go_ret2
            refine ⟨A3, n3, c3, ?_, fun l' hl' => ?_, ?_⟩
            · rw [HFN2.out]; rfl
            · rw [HFN2.out] at hl'; cases hl'
            · rw [HVB.out]; exact HG1.out.andThen HG3.out fun j hj => .inr hj
          · obtain ⟨hown3, hlies3⟩ := HRES.out l3 rfl
            obtain ⟨A4, c4, h4⟩ := own_form hown3
            injection h4 with h4a h4b h4c
            subst h4a h4b h4c
            have HOWN3 := Lib.hid hown3
            have HLIES3 := Lib.hid hlies3
            have hl3 := Md.exp_le hls HO.out
            have hz2 := HG3.out.size
            clear hown3 hlies3
            go_wp2_with fail
            refine ⟨⟨t + 1, A3, c3, l3, by omega, by go_num, rfl, rfl, ?_, hl3, HOWN3.out, fun g hg => ?_, HG3.out⟩, by simp [intOf]; omega⟩
            · rw [Md.expL_step HX.out HPRE.out, HO.out]
            · rcases HLIES3.out g hg with h | h
              · exact HLIES.out g h
              · exact .inr (Nat.le_trans hzr h)
        · obtain rfl : t = q := by omega
          have tI : ¬ (t : Int) < t := by omega
          clear hpre hownr hlies hgr hwr hBr hatr hm2 hsm
          go_wp2_with fail
          go_ret2
          have hf : f = some ls := by
            have := HPRE.out
            rw [List.take_of_length_le (by rw [HQ.out]; exact Nat.le_refl _)] at this
            rw [HFN.out, this]
          refine ⟨A2, ls.length, c2, ?_, fun l' hl' => ?_, ?_⟩
          · rw [hf]; rfl
          · rw [hf] at hl'
            cases hl'
            refine ⟨HOWNR.out, fun g hg => ?_⟩
            rw [HVB.out]
            rcases HLIES.out g hg with h | h
            · exact .inl h
            · exact .inr (by omega)
          · rw [HVB.out]; exact HWR.out

theorem Md.exp_any (T : List Rw.Row) (S : List Int) (W0 : World) (v : Value) (ok : Md.Ok T) (h0 : Md.Is W0 v T S) : ∀ k, Md.Exps T W0 v k
  | 0 => Md.exp_step T S W0 v ok h0 0 fun k' h => absurd h (by omega)
  | k + 1 => Md.exp_step T S W0 v ok h0 (k + 1) fun k' h => by
    obtain rfl : k = k' := by omega
    exact Md.exp_any T S W0 v ok h0 k

set_option maxRecDepth 100000 in
set_option maxHeartbeats 1000000 in
theorem Md.full_any (v : Value) (T : List Rw.Row) (S : List Int) (d : Int) (w : World) (ok : Md.Ok T) (h : Md.Is w v T S) (h3 : -2147483648 ≤ d) (h4 : d ≤ 2147483647) :
    Calls Tryz.prog 54 #[v, .int .i32 d] w (Md.RetOwn ((Md.full T d).getD []) w) := by
  have hv := h
  obtain ⟨A, c, XA, xc, rfl, h2, hX⟩ := hv
  obtain ⟨xn, hxn⟩ : ∃ k, S.length = k := ⟨_, rfl⟩
  obtain ⟨n, hn⟩ : ∃ k, T.length = k := ⟨_, rfl⟩
  rw [hn, hxn] at h ⊢
  have hba : Below w.heap.size w (w.alloc (.cells #[.slice A n c, .slice XA xn xc] 50)) := (Below.refl _ _).alloc (Nat.le_refl _) _
  have hat : Rw.At (w.alloc (.cells #[.slice A n c, .slice XA xn xc] 50)) w.heap.size 50 [.slice A n c, .slice XA xn xc] := Rw.At.new w 50 [.slice A n c, .slice XA xn xc]
  have hE := Md.exp_any T S _ _ ok (h.below hba) (T.length + 3) [] (.slice none 0 0) d 0 _ (by omega) h3 h4 (by simp) (Below.refl _ _) (World.ownsRow_nil _ _ _ _)
  have hfe : Md.exp (Md.mp T) (T.length + 3) [] d = Md.full T d := rfl
  rw [hfe] at hE
  obtain ⟨o, ho⟩ : ∃ o, Md.full T d = o := ⟨_, rfl⟩
  rw [ho] at hE ⊢
  have hole : ∀ l, o = some l → l.length ≤ 32 := fun l hl => Md.exp_le (by simp) (hfe.trans (ho.trans hl))
  have z0 := hat.cell 0 rfl
  have z1 := hat.cell 1 rfl
  have HB := Lib.hid hba
  have HOLE := Lib.hid hole
  clear h h2 hX hn hxn hba hat ok hfe ho hole
  unfold Md.tv at hE ⊢
  go_enter Tryz.func54, Tryz.ntmps54
  go_wp2_with fail
  refine hE.mono ?_
  rintro e w1 ⟨A1, n1, c1, rfl, hres, hg⟩
  have HB1 := Lib.hid (HB.out.trans (Rw.below_grown hg HB.out.size fun k hk => by cases hk))
  have HRES := Lib.hid hres
  clear hres hg hE z0 z1
  rcases o with _ | l
  · go_wp2_with fail
    go_ret
    exact ⟨none, 0, rfl, World.ownsRow_nil _ _ _ _, HB1.out⟩
  · obtain ⟨hown, _⟩ := HRES.out l rfl
    obtain ⟨A4, c4, h4'⟩ := own_form hown
    injection h4' with h4a h4b h4c
    subst h4a h4b h4c
    have HO := Lib.hid (own_base hown (by simp : w.heap.size ≤ (w.alloc (.cells #[.slice A n c, .slice XA xn xc] 50)).heap.size))
    clear hown
    go_wp2_with fail
    go_ret
    exact ⟨A1, c1, rfl, HO.out, HB1.out⟩
end Go.Proofs.YtkmfegamblmpeaaGreatDoor
