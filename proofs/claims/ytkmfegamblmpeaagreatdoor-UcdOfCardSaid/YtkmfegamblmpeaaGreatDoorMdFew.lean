/- The laws' Few of a document's table, by walking its text. -/
import Derived.Test.YtkmfegamblmpeaaGreatDoorStepCall2
import Derived.Test.YtkmfegamblmpeaaGreatDoorRwOpen
import Derived.Deep.DeepCutAuto
import Derived.BigRegion
namespace Go.Proofs.YtkmfegamblmpeaaGreatDoor
open Go.RowKit
set_option linter.unusedSimpArgs false
set_option linter.unusedVariables false

/-- A number as a character's. -/
def Md.w32 (x : Int) : Int := IntKind.i32.wrap x
theorem Md.w32_bd (x : Int) : -2147483648 ≤ Md.w32 x ∧ Md.w32 x ≤ 2147483647 := by
  unfold Md.w32
  rw [IntKind.wrap_i32]
  omega
theorem Md.w32_64 (x : Int) : IntKind.i64.wrap (Md.w32 x) = Md.w32 x := by
  have := Md.w32_bd x
  rw [IntKind.wrap_i64]
  omega
def Md.fewR (r : Rw.Row) : Rw.Row := (Md.w32 r.1, r.2.1, (r.2.2.take 4).map Md.w32)
def Md.fewT (T : List Rw.Row) : List Rw.Row := (T.take 20).map Md.fewR
def Md.fewE (E : List Int) : List Int := (E.take 30).map Ch.K
theorem Md.fewT_get {T : List Rw.Row} {j : Nat} {r : Rw.Row} (h : T[j]? = some r) (hj : j < 20) : (Md.fewT T)[j]? = some (Md.fewR r) := by
  unfold Md.fewT
  rw [List.getElem?_map, List.getElem?_take, if_pos hj, h]
  rfl
theorem Md.fewE_get {E : List Int} {j : Nat} {x : Int} (h : E[j]? = some x) (hj : j < 30) : (Md.fewE E)[j]? = some (Ch.K x) := by
  unfold Md.fewE
  rw [List.getElem?_map, List.getElem?_take, if_pos hj, h]
  rfl
theorem Md.grown_below {w w' w'' : World} {row : Option Nat} (h : w.grownBy w' row) (hb : Below w.heap.size w' w'') : w.grownBy w'' row :=
  ⟨hb.os.trans h.os, hb.tape.trans h.tape, hb.output.trans h.output, Nat.le_trans h.size hb.size, fun k hk hr => (hb.block k hk).trans (h.block k hk hr)⟩
/-- Mappings that lie in blocks of their own, rising. -/
def Md.apart (lo hi : Nat) (ads : List (Option Addr × Nat)) : Prop :=
  (ads.Pairwise fun a b => ∀ p q, a.1 = some p → b.1 = some q → p.block < q.block) ∧ ∀ a ∈ ads, ∀ p, a.1 = some p → lo ≤ p.block ∧ p.block < hi
theorem Md.apart.nil (lo hi : Nat) : Md.apart lo hi [] := ⟨List.Pairwise.nil, fun a h => by simp at h⟩
theorem Md.apart.more {lo hi hi' : Nat} {ads : List (Option Addr × Nat)} (h : Md.apart lo hi ads) (hh : hi ≤ hi') : Md.apart lo hi' ads :=
  ⟨h.1, fun a ha p hp => ⟨(h.2 a ha p hp).1, Nat.lt_of_lt_of_le (h.2 a ha p hp).2 hh⟩⟩
theorem Md.apart.app {lo hi hi' : Nat} {ads : List (Option Addr × Nat)} (h : Md.apart lo hi ads) (hh : hi ≤ hi') (hl : lo ≤ hi) {a : Option Addr × Nat} (ha : ∀ p, a.1 = some p → hi ≤ p.block ∧ p.block < hi') : Md.apart lo hi' (ads ++ [a]) := by
  refine ⟨List.pairwise_append.2 ⟨h.1, by simp, fun x hx y hy p q hp hq => ?_⟩, fun x hx p hp => ?_⟩
  · simp only [List.mem_singleton] at hy
    subst hy
    have h1 := (h.2 x hx p hp).2
    have h2 := (ha q hq).1
    omega
  · rcases List.mem_append.1 hx with hx | hx
    · have := h.2 x hx p hp
      omega
    · simp only [List.mem_singleton] at hx
      subst hx
      have := ha p hp
      omega
/-- Mappings' room. -/
def Md.caps (rs : List Rw.Row) (ads : List (Option Addr × Nat)) : Prop := ∀ (i : Nat) (r : Rw.Row) (a : Option Addr × Nat), rs[i]? = some r → ads[i]? = some a → r.2.2.length ≤ a.2
theorem Md.caps.app {rs : List Rw.Row} {ads : List (Option Addr × Nat)} (h : Md.caps rs ads) (hl : ads.length = rs.length) {r : Rw.Row} {a : Option Addr × Nat} (hr : r.2.2.length ≤ a.2) : Md.caps (rs ++ [r]) (ads ++ [a]) := by
  intro i q x hq hx
  rcases Nat.lt_or_ge i rs.length with hi | hi
  · rw [List.getElem?_append_left hi] at hq
    rw [List.getElem?_append_left (by omega)] at hx
    exact h i q x hq hx
  · have hlt := (List.getElem?_eq_some_iff.1 hq).1
    rw [List.length_append, List.length_singleton] at hlt
    obtain rfl : i = rs.length := by omega
    rw [List.getElem?_append_right (Nat.le_refl _), Nat.sub_self] at hq
    rw [List.getElem?_append_right (by omega), show rs.length - ads.length = 0 by omega] at hx
    simp at hq hx
    subst hq hx
    exact hr
theorem Md.own_cap {w : World} {base : Nat} {e : TypeId} {size n m c : Nat} {A : Option Addr} {xs : List Value} (h : w.ownsRow base e size (.slice A m c) n xs) : n ≤ c := by
  rcases h.2 with ⟨hv, h0⟩ | ⟨g, cap, cur, hv, _, _, hc, _⟩
  · omega
  · simp only [Value.slice.injEq] at hv
    obtain ⟨_, _, rfl⟩ := hv
    exact hc
/-- A document's table that a call made. -/
def Md.DocO (w : World) (v : Value) (lo : Nat) (T : List Rw.Row) (E : List Int) : Prop :=
  ∃ A c XA xc ads, v = Md.tv A T.length c XA E.length xc ∧ (ads.length = T.length ∧ Md.caps T ads) ∧ w.ownsRow lo 59 3 (.slice A T.length c) T.length (Rw.flI T ads) ∧ Rw.MapsI w T ads ∧
    ∃ mid, lo ≤ mid ∧ mid ≤ w.heap.size ∧ Md.apart lo mid ads ∧ w.ownsRow mid 3 1 (.slice XA E.length xc) E.length (E.map (Value.int .i64))
theorem Md.DocO.doc {w : World} {v : Value} {lo : Nat} {T : List Rw.Row} {E : List Int} (h : Md.DocO w v lo T E) : Md.Doc w v T E := by
  obtain ⟨A, c, XA, xc, ads, rfl, hl, ho, hm, mid, _, _, _, hx⟩ := h
  exact ⟨A, c, XA, xc, rfl, Rw.seesI_mk hl.1 (Slt.of_own ho) hm, Sl.of_own hx⟩
theorem Md.DocO.cap {w : World} {v : Value} {lo : Nat} {T : List Rw.Row} {E : List Int} (h : Md.DocO w v lo T E) : ∀ A n c x, v = .agg #[.slice A n c, x] → n ≤ c := by
  obtain ⟨A, c, XA, xc, ads, rfl, hl, ho, hm, _⟩ := h
  rintro A' n c' x h
  unfold Md.tv at h
  simp only [Value.agg.injEq, Array.mk.injEq, List.cons.injEq, Value.slice.injEq, and_true] at h
  obtain ⟨⟨rfl, rfl, rfl⟩, _⟩ := h
  rcases ho.2 with ⟨hv, h0⟩ | ⟨g, cap, cur, hv, _, _, hc, _⟩
  · rw [h0]; exact Nat.zero_le _
  · simp only [Value.slice.injEq] at hv
    obtain ⟨_, _, rfl⟩ := hv
    exact hc

set_option maxRecDepth 100000 in
set_option maxHeartbeats 4000000 in
theorem Md.few_any (A XA : Option Addr) (n c xn xc : Nat) (T : List Rw.Row) (E : List Int) (w : World) (hn : T.length = n) (hxn : E.length = xn) (hnb : n ≤ maxLen) (hxb : xn ≤ maxLen) (hml : ∀ r ∈ T, r.2.2.length ≤ maxLen) (h2 : Rw.SeesI w A T) (hX : Sl w w.heap.size XA (E.map (Value.int .i64))) :
    Calls Tryz.prog 21 #[.agg #[.slice A n c, .slice XA xn xc]] w fun e w' => ∃ v, e = .returned v ∧ Md.DocO w' v w.heap.size (Md.fewT T) (Md.fewE E) ∧ Below w.heap.size w w' := by
  obtain ⟨j0, hj0, hy0, hy1, hy2⟩ := info_parts infoRowI
  obtain ⟨i0, hi0, hz0, hz1, hz2⟩ := info_parts infoInt
  obtain ⟨wa, hwa⟩ : ∃ wa, ((w.alloc (.cells #[.slice A n c, .slice XA xn xc] 25)).alloc (.cells #[.slice none 0 0, .slice none 0 0] 25)).alloc (.cells #[.slice none 0 0, .slice none 0 0] 25) = wa := ⟨_, rfl⟩
  have hbA : Below w.heap.size w wa := by rw [← hwa]; exact (((Below.refl _ _).alloc (Nat.le_refl _) _).alloc (by simp) _).alloc (by simp; omega) _
  have hat0 : Rw.At wa w.heap.size 25 [.slice A n c, .slice XA xn xc] := by
    rw [← hwa]; exact ((Rw.At.new w 25 [.slice A n c, .slice XA xn xc]).alloc _).alloc _
  have hat1 : Rw.At wa (w.heap.size + 1) 25 [.slice none 0 0, .slice none 0 0] := by
    have h := Rw.At.new (w.alloc (.cells #[.slice A n c, .slice XA xn xc] 25)) 25 [.slice none 0 0, .slice none 0 0]
    rw [World.size_alloc] at h
    rw [← hwa]
    exact h.alloc _
  have hat2 : Rw.At wa (w.heap.size + 2) 25 [.slice none 0 0, .slice none 0 0] := by
    have h := Rw.At.new ((w.alloc (.cells #[.slice A n c, .slice XA xn xc] 25)).alloc (.cells #[.slice none 0 0, .slice none 0 0] 25)) 25 [.slice none 0 0, .slice none 0 0]
    rw [World.size_alloc, World.size_alloc] at h
    rw [← hwa]
    exact h
  have hz : w.heap.size + 2 < wa.heap.size := hat2.lt
  obtain ⟨M, hM⟩ : ∃ M, Md.fewT T = M := ⟨_, rfl⟩
  obtain ⟨F, hF⟩ : ∃ F, Md.fewE E = F := ⟨_, rfl⟩
  have hMl : M.length = min n 20 := by rw [← hM]; unfold Md.fewT; rw [List.length_map, List.length_take, hn]; omega
  have hFl : F.length = min xn 30 := by rw [← hF]; unfold Md.fewE; rw [List.length_map, List.length_take, hxn]; omega
  rw [hM, hF]
  have HM := Lib.hid hM
  have HF := Lib.hid hF
  have HML := Lib.hid hMl
  have HFL := Lib.hid hFl
  have HWA := Lib.hid hwa
  have HBA := Lib.hid hbA
  have HN := Lib.hid hn
  have HXN := Lib.hid hxn
  have HMLR := Lib.hid hml
  have HSEE := Lib.hid h2
  have HX := Lib.hid hX
  have HAT0 := Lib.hid hat0
  clear hwa hbA hn hxn hml h2 hX hat0 hM hF hMl hFl
  go_enter Tryz.func21, Tryz.ntmps21
  go_upto_region 2 with (fail)
  rw [HWA.out]
  go_wp2_with fail
  go_loopw [4] (fun i wr => ∃ (j : Nat) (v : Value) (ads : List (Option Addr × Nat)), j ≤ min n 20 ∧ i = .int .i64 j ∧ Rw.At wr (w.heap.size + 1) 25 [.slice none 0 0, .slice none 0 0] ∧ Rw.At wr (w.heap.size + 2) 25 [v, .slice none 0 0] ∧
      (ads.length = (M.take j).length ∧ Md.caps (M.take j) ads) ∧ wr.ownsRow (w.heap.size + 3) 59 3 v j (Rw.flI (M.take j) ads) ∧ Rw.MapsI wr (M.take j) ads ∧ Md.apart (w.heap.size + 3) wr.heap.size ads ∧ Below (w.heap.size + 1) wa wr) (fun i _ => min n 20 - (intOf i).toNat)
  case atStart => exact ⟨0, .slice none 0 0, [], Nat.zero_le _, rfl, hat1, hat2, ⟨rfl, fun i r a h => by simp at h⟩, World.ownsRow_nil _ _ _ _, fun i r a h => by simp at h, Md.apart.nil _ _, Below.refl _ _⟩
  case round =>
    obtain ⟨j, v, ads, hj, rfl, ha1, ha2, ⟨hads, hcaps⟩, hown, hmaps, hap, hbel⟩ := hrel
    have hzr : w.heap.size + 3 ≤ wr.heap.size := Nat.le_trans hz hbel.size
    have ha0 := HAT0.out.below' hbel (Nat.lt_succ_self _)
    have HA1 := Lib.hid ha1
    have HA2 := Lib.hid ha2
    have HADS := Lib.hid hads
    have HCAPS := Lib.hid hcaps
    have HOWN := Lib.hid hown
    have HMAPS := Lib.hid hmaps
    have HAP := Lib.hid hap
    have HBEL := Lib.hid hbel
    have HA0 := Lib.hid ha0
    have hbw : Below w.heap.size w wr := HBA.out.trans (hbel.mono (Nat.le_succ _))
    have HBW := Lib.hid hbw
    have z0 := ha0.cell 0 rfl
    have hlt0 := ha0.lt
    obtain ⟨tb, htb⟩ : ∃ tb, decide (j < n ∧ j < 20) = tb := ⟨_, rfl⟩
    have HTB := Lib.hid htb
    clear ha1 ha2 hads hcaps hown hmaps hap hbel ha0 hbw hat1 hat2 htb
    go_upto_region 3 with (fail)
    go_cut [16] (fun s wx => s = .bool tb ∧ wx = wr)
    case first =>
      by_cases h1 : j < n
      · have h1I : (j : Int) < n := by omega
        by_cases h2 : j < 20
        · have h2I : (j : Int) < 20 := by omega
          have htt : tb = true := by rw [← HTB.out]; simp [h1, h2]
          subst htt
          clear h1 h2
          go_wp2_with fail
          go_meet
          exact ⟨rfl, rfl⟩
        · have h2I : ¬ (j : Int) < 20 := by omega
          have htt : tb = false := by rw [← HTB.out]; simp [h2]
          subst htt
          clear h1 h2
          go_wp2_with fail
          go_meet
          exact ⟨rfl, rfl⟩
      · have h1I : ¬ (j : Int) < n := by omega
        have htt : tb = false := by rw [← HTB.out]; simp [h1]
        subst htt
        clear h1
        go_wp2_with fail
        go_meet
        exact ⟨rfl, rfl⟩
    case rest =>
      obtain ⟨rfl, rfl⟩ := hcut
      obtain ⟨wo, rfl⟩ : ∃ wo : World, wo = wc := ⟨_, rfl⟩
      rcases tb with _ | _
      · have hnj : ¬ (j < n ∧ j < 20) := of_decide_eq_false HTB.out
        have hjN : j = min n 20 := by omega
        have htk : M.take j = M := List.take_of_length_le (by rw [HML.out]; omega)
        have hjl : M.length = j := by rw [HML.out]; omega
        have hownR := HOWN.out
        have hadsR := HADS.out
        have hcapsR := HCAPS.out
        have hmapR := HMAPS.out
        rw [htk] at hownR hadsR hmapR hcapsR
        obtain ⟨A8, c8, rfl⟩ := own_form hownR
        have HOWNR := Lib.hid hownR
        have HADSR := Lib.hid (And.intro hadsR hcapsR)
        have HMAPR := Lib.hid hmapR
        have HJL := Lib.hid hjl
        clear hownR hadsR hcapsR hmapR htk hjl hjN hnj z0
        go_wp2_with fail
        go_loopw [7] (fun i wr => ∃ (k : Nat) (u : Value), k ≤ min xn 30 ∧ i = .int .i64 k ∧ Rw.At wr (w.heap.size + 2) 25 [.slice A8 j c8, u] ∧ wr.ownsRow wo.heap.size 3 1 u k ((F.take k).map (Value.int .i64)) ∧ wo.grownBy wr (some (w.heap.size + 2))) (fun i _ => min xn 30 - (intOf i).toNat)
        case atStart => exact ⟨0, .slice none 0 0, Nat.zero_le _, rfl, HA2.out, World.ownsRow_nil _ _ _ _, Rw.grown_bel (Below.refl _ _)⟩
        case round =>
          obtain ⟨k, u, hk, rfl, hat, hown, hg⟩ := hrel
          have hl2 : w.heap.size + 2 < wr.heap.size := hat.lt
          have hzz : wo.heap.size ≤ wr.heap.size := hg.size
          have h0 := HA0.out.grown hg (by simp)
          have z1 := h0.cell 1 rfl
          have hl0 := h0.lt
          have hbw3 := HBW.out.trans (Rw.below_grown (b := w.heap.size) hg HBW.out.size fun q hq => by cases hq; omega)
          obtain ⟨kb, hkb⟩ : ∃ kb, decide (k < xn ∧ k < 30) = kb := ⟨_, rfl⟩
          have HKB := Lib.hid hkb
          have HAT := Lib.hid hat
          have HOWN3 := Lib.hid hown
          have HG := Lib.hid hg
          have HBW3 := Lib.hid hbw3
          clear hkb hat hown hg h0 hbw3
          go_upto_region 12 with (fail)
          go_cut [79] (fun s wx => s = .bool kb ∧ wx = wr)
          case first =>
            by_cases h1 : k < xn
            · have h1I : (k : Int) < xn := by omega
              by_cases h2 : k < 30
              · have h2I : (k : Int) < 30 := by omega
                have htt : kb = true := by rw [← HKB.out]; simp [h1, h2]
                subst htt
                clear h1 h2
                go_wp2_with fail
                go_meet
                exact ⟨rfl, rfl⟩
              · have h2I : ¬ (k : Int) < 30 := by omega
                have htt : kb = false := by rw [← HKB.out]; simp [h2]
                subst htt
                clear h1 h2
                go_wp2_with fail
                go_meet
                exact ⟨rfl, rfl⟩
            · have h1I : ¬ (k : Int) < xn := by omega
              have htt : kb = false := by rw [← HKB.out]; simp [h1]
              subst htt
              clear h1
              go_wp2_with fail
              go_meet
              exact ⟨rfl, rfl⟩
          case rest =>
            obtain ⟨rfl, rfl⟩ := hcut
            obtain ⟨wq, rfl⟩ : ∃ wq : World, wq = wc := ⟨_, rfl⟩
            rcases kb with _ | _
            · have hnk : ¬ (k < xn ∧ k < 30) := of_decide_eq_false HKB.out
              have hFk : F.length = k := by rw [HFL.out]; omega
              have htk : F.take k = F := List.take_of_length_le (by rw [hFk]; omega)
              have hown := HOWN3.out
              rw [htk] at hown
              obtain ⟨A9, c9, rfl⟩ := own_form hown
              have hat2 := HAT.out
              have hat1 := HA1.out.grown HG.out (by simp)
              have p0 := hat2.cell 0 rfl
              have p1 := hat2.cell 1 rfl
              have r0 := hat1.cell 0 rfl
              have r1 := hat1.cell 1 rfl
              have rf0 := hat1.frozen 0
              have rf1 := hat1.frozen 1
              have HAT1 := Lib.hid hat1
              have HOWN9 := Lib.hid hown
              have HFK := Lib.hid hFk
              have hl1 := hat1.lt
              clear hnk hFk htk hown hat1 hat2 z1
              go_wp2_with fail
              have k1 := HAT1.out.set 0 (.slice A8 j c8)
              have k2 := k1.set 1 (.slice A9 k c9)
              refine bodyPost_ret (Rw.results1 rfl _ _ (w.heap.size + 1) _ _ _ _ rfl k2 Tryz.underlying25 rfl (by kernel_rfl)) rfl ⟨_, rfl, ⟨A8, c8, A9, c9, ads, ?_, HADSR.out, ?_, ?_, wo.heap.size, by omega, by rw [World.size_setCell, World.size_setCell]; omega, ?_, ?_⟩, ?_⟩
              · rw [HJL.out, HFK.out]; rfl
              · rw [HJL.out]
                exact own_base (Rw.own_grown (Rw.own_grown (Rw.own_grown HOWNR.out (by omega) HG.out) (by omega) (Rw.grown_set (w.heap.size + 1) 0 _)) (by omega) (Rw.grown_set (w.heap.size + 1) 1 _)) (by omega)
              · exact ((HMAPR.out.grown HG.out (by intro q hq; cases hq; exact HA2.out.not (by decide))).grown (Rw.grown_set (w.heap.size + 1) 0 _) (by intro q hq; cases hq; exact HAT1.out.not (by decide))).grown (Rw.grown_set (w.heap.size + 1) 1 _) (by intro q hq; cases hq; exact k1.not (by decide))
              · have := HAP.out
                exact ⟨this.1, fun a ha p hp => by have h := this.2 a ha p hp; omega⟩
              · rw [HFK.out]
                exact Rw.own_grown (Rw.own_grown HOWN9.out (by omega) (Rw.grown_set (w.heap.size + 1) 0 _)) (by omega) (Rw.grown_set (w.heap.size + 1) 1 _)
              · exact (HBW3.out.setCell (p := ⟨w.heap.size + 1, 0, none⟩) (Nat.le_succ _) _).setCell (p := ⟨w.heap.size + 1, 1, none⟩) (Nat.le_succ _) _
            · obtain ⟨hkl, hk30⟩ : k < xn ∧ k < 30 := of_decide_eq_true HKB.out
              obtain ⟨x, hx⟩ : ∃ x, E[k]? = some x := ⟨_, List.getElem?_eq_getElem (by rw [HXN.out]; exact hkl)⟩
              obtain ⟨ab, ao, rfl, hab, hac⟩ := HX.out (by rw [List.length_map, HXN.out]; omega)
              have hc := hac k (by rw [List.length_map, HXN.out]; exact hkl)
              rw [List.getElem?_map, hx, Option.map_some, ← (bcell HBW3.out).1 _ _ hab] at hc
              have hFk : F[k]? = some (Ch.K x) := by rw [← HF.out]; exact Md.fewE_get hx hk30
              have hCY := Ch.char_any x
              have hyb := (Ch.isC_iff _).1 (Ch.K_is x)
              have hnext : (F.take (k + 1)).map (Value.int .i64) = (F.take k).map (Value.int .i64) ++ [.int .i64 (Ch.K x)] := by
                rw [List.take_add_one, hFk]; simp
              obtain ⟨y, hy⟩ : ∃ y, Ch.K x = y := ⟨_, rfl⟩
              rw [hy] at hyb hnext
              simp only [hy] at hCY
              have hy64 : IntKind.i64.wrap y = y := by rw [IntKind.wrap_i64]; omega
              have kI : (k : Int) < xn := by omega
              have k0 : (0 : Int) ≤ (k : Int) := by omega
              have habq : ab < wq.heap.size := Nat.lt_of_lt_of_le hab HBW3.out.size
              have q0 := HAT.out.cell 0 rfl
              have q1 := HAT.out.cell 1 rfl
              have hownd := (HOWN3.out.alloc (.cells #[.int .i64 y] 3)).drew
              have hatd : Rw.At (wq.alloc (.cells #[.int .i64 y] 3)).drew (w.heap.size + 2) 25 [.slice A8 j c8, u] := HAT.out.alloc _
              have hcl := cell1 wq (.int .i64 y) 3 wq.heap.size rfl
              have hbase : wo.heap.size ≤ (wq.alloc (.cells #[.int .i64 y] 3)).drew.heap.size := by simp; omega
              have bzd : Below wq.heap.size wq (wq.alloc (.cells #[.int .i64 y] 3)).drew := ((Below.refl _ _).alloc (Nat.le_refl _) _).drew
              have HOWN4 := Lib.hid hownd
              have HNX := Lib.hid hnext
              have HNE := Lib.hid (Rw.own_ne HOWN3.out (w.heap.size + 2) (by omega))
              have HBZD := Lib.hid bzd
              clear bzd hx hac hnext hownd hFk hyb hy
              go_upto_region 14 with (fail)
              go_region_law
                (first
                  | (refine step_quiet _ (by rfl) 34 _ _ (by rfl) (C.enter Tryz.func34 (by kernel_rfl) rfl) (.int .i64 x) (by rfl) _ (hCY _) ?_)
                  | (refine step_push1 _ rfl _ _ _ rfl wo.heap.size 3 i0 _ 8 Tryz.underlying23 hi0 hz0 hz1 hz2 rfl u k _ rfl HOWN4.out _ rfl wq.heap.size rfl hcl (by simp only [maxLen]; omega) (by omega) hbase ?_; intro v1 w4 hown4 hb4 hgrow; have hat4 := hatd.grown hgrow HNE.out; have q40 := hat4.cell 0 rfl; have q41 := hat4.cell 1 rfl; have q42 := hat4.frozen 1; have q43 := hat4.lt; obtain ⟨A6, c6, rfl⟩ := own_form hown4)
                  | fail)
              all_goals
                go_wp2_with fail
                exact ⟨⟨k + 1, _, by omega, by go_num, hat4.set 1 _, by rw [HNX.out]; exact Rw.own_grown hown4 (by omega) (Rw.grown_set _ 1 _),
                  Rw.grown_trans (Md.grown_below HG.out ((HBZD.out.mono hzz).trans hb4)) (Rw.grown_set _ 1 _)⟩, by simp [intOf]; omega⟩
      · obtain ⟨hlt, h20⟩ : j < n ∧ j < 20 := of_decide_eq_true HTB.out
        obtain ⟨r, hr⟩ : ∃ r, T[j]? = some r := ⟨_, List.getElem?_eq_getElem (by rw [HN.out]; exact hlt)⟩
        have hmlr := HMLR.out r (List.mem_of_getElem? hr)
        obtain ⟨b, o, a, hA1, hb, c0', c1', c2', hsl⟩ := HSEE.out.row hr
        have c0 := ((bcell HBW.out).1 b (o + j * 3) hb).trans c0'
        have c1 := ((bcell HBW.out).1 b (o + j * 3 + 1) hb).trans c1'
        have c2 := ((bcell HBW.out).1 b (o + j * 3 + 2) hb).trans c2'
        have hbr : b < wo.heap.size := Nat.lt_of_lt_of_le hb HBW.out.size
        obtain ⟨rc, rk, rm⟩ := r
        obtain ⟨aA, ac⟩ := a
        simp only at c0 c1 c2 hsl hmlr
        obtain ⟨ml, hmle⟩ : ∃ k, rm.length = k := ⟨_, rfl⟩
        rw [hmle] at c2 hmlr
        obtain ⟨q, hq⟩ : ∃ q, IntKind.i32.wrap rc = q := ⟨_, rfl⟩
        have hq64 : IntKind.i64.wrap q = q := by rw [← hq]; exact Md.w32_64 rc
        have jI : (j : Int) < n := by omega
        have j0' : (0 : Int) ≤ j := by omega
        have HR := Lib.hid hr
        have HMLE := Lib.hid hmle
        have HSLW := Lib.hid (hsl.below HBW.out (Nat.le_refl _))
        have HQ := Lib.hid hq
        subst hA1
        clear c0' c1' c2' hsl hr hmle
        go_upto_region 5 with (fail)
        go_cut [5] (fun s wx => s = .pointer (some ⟨wo.heap.size, 0, none⟩) ∧ Rw.At wx wo.heap.size 59 [.int .i64 q, .int .i64 rk, .slice none 0 0] ∧ Below wo.heap.size wo wx)
        case first =>
          go_region
          all_goals
            go_wp2_with fail
            go_meet
            exact ⟨rfl, Rw.At.new _ 59 [.int .i64 q, .int .i64 rk, .slice none 0 0], ((Below.refl _ _).drew.alloc (Nat.le_refl _) _)⟩
        case rest =>
          obtain ⟨rfl, hatA, hbAr⟩ := hcut
          obtain ⟨wA, rfl⟩ : ∃ wA : World, wA = wc := ⟨_, rfl⟩
          have hzA : wo.heap.size < wA.heap.size := hatA.lt
          have HBAR := Lib.hid hbAr
          have C2 := Lib.hid c2
          clear c0 c1 c2 z0
          go_wp2_with fail
          go_loopw [6] (fun i wq => ∃ (k : Nat) (u : Value), k ≤ min ml 4 ∧ i = .int .i64 k ∧ Rw.At wq wo.heap.size 59 [.int .i64 q, .int .i64 rk, u] ∧ wq.ownsRow (wo.heap.size + 1) 3 1 u k (((rm.take k).map Md.w32).map (Value.int .i64)) ∧ Below wo.heap.size wo wq) (fun i _ => min ml 4 - (intOf i).toNat)
          case atStart => exact ⟨0, .slice none 0 0, Nat.zero_le _, rfl, hatA, World.ownsRow_nil _ _ _ _, hbAr⟩
          case round =>
            obtain ⟨k, u, hk, rfl, hatq, hownq, hbq⟩ := hrel
            obtain ⟨wq, rfl⟩ : ∃ wq : World, wq = wr := ⟨_, rfl⟩
            have hzq : wo.heap.size < wq.heap.size := hatq.lt
            have h0q := HA0.out.below hbq
            have z0 := h0q.cell 0 rfl
            have hl0q := h0q.lt
            have hbrq : b < wq.heap.size := by omega
            have c2 := ((bcell hbq).1 b (o + j * 3 + 2) hbr).trans C2.out
            obtain ⟨kb, hkb⟩ : ∃ kb, decide (k < ml ∧ k < 4) = kb := ⟨_, rfl⟩
            have HKB := Lib.hid hkb
            have HATQ := Lib.hid hatq
            have HOWNQ := Lib.hid hownq
            have HBQ := Lib.hid hbq
            clear hkb h0q hatq hownq hbq hatA hbAr
            go_upto_region 7 with (fail)
            go_cut [46] (fun s wx => s = .bool kb ∧ wx = wq)
            case first =>
              by_cases h1 : k < ml
              · have h1I : (k : Int) < ml := by omega
                by_cases h2 : k < 4
                · have h2I : (k : Int) < 4 := by omega
                  have htt : kb = true := by rw [← HKB.out]; simp [h1, h2]
                  subst htt
                  clear h1 h2
                  go_wp2_with fail
                  go_meet
                  exact ⟨rfl, rfl⟩
                · have h2I : ¬ (k : Int) < 4 := by omega
                  have htt : kb = false := by rw [← HKB.out]; simp [h2]
                  subst htt
                  clear h1 h2
                  go_wp2_with fail
                  go_meet
                  exact ⟨rfl, rfl⟩
              · have h1I : ¬ (k : Int) < ml := by omega
                have htt : kb = false := by rw [← HKB.out]; simp [h1]
                subst htt
                clear h1
                go_wp2_with fail
                go_meet
                exact ⟨rfl, rfl⟩
            case rest =>
              obtain ⟨rfl, rfl⟩ := hcut
              obtain ⟨wq, rfl⟩ : ∃ wq : World, wq = wc := ⟨_, rfl⟩
              rcases kb with _ | _
              · have hnk : ¬ (k < ml ∧ k < 4) := of_decide_eq_false HKB.out
                have hmm : (rm.take k).map Md.w32 = (rm.take 4).map Md.w32 := by
                  by_cases h4 : k = 4
                  · rw [h4]
                  · rw [List.take_of_length_le (by rw [HMLE.out]; omega), List.take_of_length_le (by rw [HMLE.out]; omega)]
                obtain ⟨R, hR⟩ : ∃ R, Md.fewR (rc, rk, rm) = R := ⟨_, rfl⟩
                have hR1 : R.1 = q := by rw [← hR]; exact HQ.out
                have hR2 : R.2.1 = rk := by rw [← hR]; rfl
                have hR3 : R.2.2 = (rm.take k).map Md.w32 := by rw [← hR, hmm]; rfl
                have hR4 : R.2.2.length = k := by rw [hR3, List.length_map, List.length_take, HMLE.out]; omega
                have hMj : M[j]? = some R := by rw [← HM.out, ← hR]; exact Md.fewT_get HR.out h20
                have hownq := HOWNQ.out
                rw [← hR3] at hownq
                obtain ⟨A6, c6, rfl⟩ := own_form hownq
                have bz5 : Below wq.heap.size wq (wq.alloc (.cells #[.int .i64 q, .int .i64 rk, .slice A6 k c6] 59)) := (Below.refl _ _).alloc (Nat.le_refl _) _
                have hb5 := HBQ.out.trans (bz5.mono HBQ.out.size)
                have hown5 := own_below HOWN.out hb5 (Nat.le_refl _)
                have hat5 := HA2.out.below hb5
                have hatq2 := HA2.out.below HBQ.out
                have p0 := hatq2.cell 0 rfl
                have p0' := hat5.cell 0 rfl
                obtain ⟨x0, x1, x2, _, _, _⟩ := HATQ.out.three
                have hm5 := HMAPS.out.below hb5
                have hs5 := (Slt.of_own hownq).below bz5
                have hnew := Lib.hid (Sl.lit (w := wq.alloc (.cells #[.int .i64 q, .int .i64 rk, .slice A6 k c6] 59)) (A := some ⟨wq.heap.size, 0, none⟩) (xs := [.int .i64 q, .int .i64 rk, .slice A6 k c6]) rfl 59 (0, 0) (heap_alloc_new wq _))
                have hsz5 : w.heap.size + 3 ≤ (wq.alloc (.cells #[.int .i64 q, .int .i64 rk, .slice A6 k c6] 59)).heap.size := by simp; omega
                have HOWN5 := Lib.hid hown5
                have HAT5 := Lib.hid hat5
                have HM5 := Lib.hid hm5
                have HS5 := Lib.hid hs5
                have HB5 := Lib.hid hb5
                have HOWNM := Lib.hid hownq
                have HMJ := Lib.hid hMj
                have HR1 := Lib.hid hR1
                have HR2 := Lib.hid hR2
                have HR4 := Lib.hid hR4
                have HNE2 := Lib.hid (Rw.own_ne HOWN.out (w.heap.size + 2) (by omega))
                have HNE1 := Lib.hid (Rw.own_ne HOWN.out (w.heap.size + 1) (by omega))
                have hl2 : w.heap.size + 2 < wq.heap.size := by omega
                clear hmm hR hR1 hR2 hR3 hR4 hMj hownq bz5 hb5 hown5 hat5 hatq2 hm5 hs5 hnk z0 c2
                go_wp2_with (first | (at_builtin; refine wpList_appendSl _ rfl _ _ _ rfl (w.heap.size + 3) 59 j0 _ 3 40 Tryz.underlying22 hj0 hy0 hy1 hy2 rfl (by omega) v j _ rfl HOWN5.out _ (some ⟨wq.heap.size, 0, none⟩) 1 1 [.int .i64 q, .int .i64 rk, .slice A6 k c6] rfl rfl hnew.out (by simp [Value.oneCell']) (by simp only [maxLen]; omega) (by omega) hsz5 ?_; intro v1 w6 hown6 hb6 hgrow; have hat6 := HAT5.out.grown hgrow HNE2.out; have y0 := hat6.cell 0 rfl; have y0f := hat6.frozen 0; have y2f := hat6.lt; obtain ⟨A8, c8, rfl⟩ := own_form hown6) | fail)
                have e1 := ((HM5.out).grown hgrow (Rw.own_not HOWN5.out (by decide))).grown (Rw.grown_set (w.heap.size + 2) 0 (.slice A8 (j + 1) c8)) (by intro q hq; cases hq; exact hat6.not (by decide))
                have e2 := ((HS5.out).grown hgrow (Rw.own_not HOWN5.out (by decide))).grown (Rw.grown_set (w.heap.size + 2) 0 (.slice A8 (j + 1) c8)) (by intro q hq; cases hq; exact hat6.not (by decide))
                have e3 := Rw.own_grown hown6 (Nat.lt_succ_self (w.heap.size + 2)) (Rw.grown_set (w.heap.size + 2) 0 (.slice A8 (j + 1) c8))
                have htk : M.take (j + 1) = M.take j ++ [R] := by rw [List.take_add_one, HMJ.out]; rfl
                have hsz6 : wq.heap.size < w6.heap.size := Nat.lt_of_lt_of_le (by simp) hb6.size
                refine ⟨⟨j + 1, _, ads ++ [(A6, c6)], by omega, by go_num, (((HA1.out.below HB5.out).grown hgrow HNE1.out).other (by omega) _), hat6.set 0 _, ⟨by rw [htk]; simp [HADS.out], by rw [htk]; exact HCAPS.out.app HADS.out (by rw [HR4.out]; exact Md.own_cap HOWNM.out)⟩, ?_, ?_, ?_, ?_⟩, by simp [intOf]; omega⟩
                · rw [htk, Rw.flI_app _ _ R (A6, c6) HADS.out, HR1.out, HR2.out, show R.2.2.length = k from HR4.out]
                  exact e3
                · rw [htk]
                  exact e1.app HADS.out e2
                · refine HAP.out.app (hi' := (w6.setCell ⟨w.heap.size + 2, 0, none⟩ (.slice A8 (j + 1) c8)).heap.size) ?_ hzr ?_
                  · rw [World.size_setCell]; omega
                  · intro p hp
                    simp only at hp
                    subst hp
                    have := HOWNM.out.lt p.block rfl
                    rw [World.size_setCell]
                    omega
                · have b1 := HBEL.out.trans (HB5.out.mono (Nat.le_trans (by omega) hzr))
                  exact (b1.trans (hb6.mono (by omega))).setCell (p := ⟨w.heap.size + 2, 0, none⟩) (by show w.heap.size + 1 ≤ w.heap.size + 2; omega) _
              · obtain ⟨hkl, hk4⟩ : k < ml ∧ k < 4 := of_decide_eq_true HKB.out
                obtain ⟨x, hx⟩ : ∃ x, rm[k]? = some x := ⟨_, List.getElem?_eq_getElem (by rw [HMLE.out]; exact hkl)⟩
                obtain ⟨ab, ao, rfl, hab0, hac⟩ := HSLW.out (by rw [List.length_map, HMLE.out]; omega)
                have hab : ab < wo.heap.size := Nat.lt_of_lt_of_le hab0 HBW.out.size
                have hc := hac k (by rw [List.length_map, HMLE.out]; exact hkl)
                rw [List.getElem?_map, hx, Option.map_some, ← (bcell HBQ.out).1 _ _ hab] at hc
                have hnext : ((rm.take (k + 1)).map Md.w32).map (Value.int .i64) = ((rm.take k).map Md.w32).map (Value.int .i64) ++ [.int .i64 (Md.w32 x)] := by
                  rw [List.take_add_one, hx]; simp
                obtain ⟨y, hy⟩ : ∃ y, IntKind.i32.wrap x = y := ⟨_, rfl⟩
                have hy64 : IntKind.i64.wrap y = y := by rw [← hy]; exact Md.w32_64 x
                rw [show Md.w32 x = y from hy] at hnext
                have kI : (k : Int) < ml := by omega
                have k0 : (0 : Int) ≤ (k : Int) := by omega
                have habq : ab < wq.heap.size := by omega
                obtain ⟨m1, m2, m3, m4, m5, m6⟩ := HATQ.out.three
                have hownd := (HOWNQ.out.alloc (.cells #[.int .i64 y] 3)).drew
                have hatd : Rw.At (wq.alloc (.cells #[.int .i64 y] 3)).drew wo.heap.size 59 [.int .i64 q, .int .i64 rk, u] := HATQ.out.alloc _
                have hcl := cell1 wq (.int .i64 y) 3 wq.heap.size rfl
                have hbase : wo.heap.size + 1 ≤ (wq.alloc (.cells #[.int .i64 y] 3)).drew.heap.size := by simp; omega
                have bzd : Below wq.heap.size wq (wq.alloc (.cells #[.int .i64 y] 3)).drew := ((Below.refl _ _).alloc (Nat.le_refl _) _).drew
                have HOWN2 := Lib.hid hownd
                have HNX := Lib.hid hnext
                have HNE := Lib.hid (Rw.own_ne HOWNQ.out wo.heap.size (Nat.lt_succ_self _))
                have HBZD := Lib.hid bzd
                clear bzd hx hac hnext hownd
                go_upto_region 9 with (fail)
                go_region_law
                  (first
                    | (refine step_push1 _ rfl _ _ _ rfl (wo.heap.size + 1) 3 i0 _ 8 Tryz.underlying23 hi0 hz0 hz1 hz2 rfl u k _ rfl HOWN2.out _ rfl wq.heap.size rfl hcl (by simp only [maxLen]; omega) (by omega) hbase ?_; intro v1 w4 hown4 hb4 hgrow; have hat4 := hatd.grown hgrow HNE.out; obtain ⟨z1, z2, z3, z4, z5, z6⟩ := hat4.three; obtain ⟨A6, c6, rfl⟩ := own_form hown4)
                    | fail)
                all_goals
                  go_wp2_with fail
                  exact ⟨⟨k + 1, _, by omega, by go_num, hat4.set 2 _, by rw [HNX.out]; exact Rw.own_grown hown4 (Nat.lt_succ_self _) (Rw.grown_set _ 2 _),
                    ((HBQ.out.trans (HBZD.out.mono (Nat.le_of_lt hzq))).trans (hb4.mono (Nat.le_succ _))).setCell (p := ⟨wo.heap.size, 2, none⟩) (Nat.le_refl _) _⟩, by simp [intOf]; omega⟩
end Go.Proofs.YtkmfegamblmpeaaGreatDoor
