/- The document's layer model: Map, step, Full, by walking their texts. -/
import Derived.Test.YtkmfegamblmpeaaGreatDoorStepCall2
namespace Go.Proofs.YtkmfegamblmpeaaGreatDoor
open Go.RowKit
set_option linter.unusedSimpArgs false
set_option linter.unusedVariables false

theorem Md.mp_split (T : List Rw.Row) (c : Int) : (∃ a b, Hg.splitK c = [a, b] ∧ Md.mp T c = [a, b]) ∨ (∃ a b t, Hg.splitK c = [a, b, t] ∧ Md.mp T c = [c - (t - 4519), t] ∧ 0 ≤ t ∧ t ≤ 60000 ∧ 0 ≤ c ∧ c ≤ 60000) ∨ (Hg.splitK c = [] ∧ Md.mp T c = Md.rmp T c) := by
  by_cases h4 : Hg.ofK c = 4
  · have hs := Hg.ofK_syl c (.inl h4)
    refine .inl ⟨4352 + (c - 44032) / 588, 4449 + (c - 44032) % 588 / 28, ?_, ?_⟩
    · unfold Hg.splitK
      grind
    · unfold Md.mp
      rw [Hg.pairK_four c h4]
      simp
  · by_cases h5 : Hg.ofK c = 5
    · have hs := Hg.ofK_syl c (.inr h5)
      refine .inr (.inl ⟨4352 + (c - 44032) / 588, 4449 + (c - 44032) % 588 / 28, 4519 + (c - 44032) % 28, ?_, ?_, by omega, by omega, by omega, by omega⟩)
      · unfold Hg.splitK
        grind
      · unfold Md.mp
        rw [Hg.pairK_five c h5]
        simp
        omega
    · refine .inr (.inr ⟨?_, ?_⟩)
      · unfold Hg.splitK
        grind
      · unfold Md.mp
        rw [Hg.pairK_none c h4 h5]
        simp

theorem Md.sl_of_lit {w : World} {e : TypeId} {xs : List Value} : Sl (w.alloc (.cells xs.toArray e)) (w.alloc (.cells xs.toArray e)).heap.size (some ⟨w.heap.size, 0, none⟩) xs := Sl.lit rfl e (0, 0) (heap_alloc_new w _)

set_option maxRecDepth 100000 in
set_option maxHeartbeats 2000000 in
theorem Md.rmap_any (v : Value) (T : List Rw.Row) (E : List Int) (d : Int) (w : World) (hTn : T.length ≤ 1000000) (h : Md.Doc w v T E) (h3 : -2147483648 ≤ d) (h4 : d ≤ 2147483647) :
    Calls Tryz.prog 9 #[v, .int .i64 d] w (RetInts .i64 (Md.mp T d) w) := by
  obtain ⟨A, c, XA, xc, rfl, h2, hX⟩ := h
  obtain ⟨n, hn⟩ : ∃ k, T.length = k := ⟨_, rfl⟩
  obtain ⟨xn, hxn⟩ : ∃ k, E.length = k := ⟨_, rfl⟩
  rw [hn] at hTn ⊢
  rw [hxn]
  have hsp := Md.mp_split T d
  obtain ⟨res, hres⟩ : ∃ k, Md.mp T d = k := ⟨_, rfl⟩
  rw [hres] at hsp ⊢
  have hba : Below w.heap.size w (w.alloc (.cells #[.slice A n c, .slice XA xn xc] 25)) := (Below.refl _ _).alloc (Nat.le_refl _) _
  have hat : Rw.At (w.alloc (.cells #[.slice A n c, .slice XA xn xc] 25)) w.heap.size 25 [.slice A n c, .slice XA xn xc] := Rw.At.new w 25 [.slice A n c, .slice XA xn xc]
  have HP := Lib.hid (Hg.parts_any d (w.alloc (.cells #[.slice A n c, .slice XA xn xc] 25)) h3 h4)
  have HBA := Lib.hid hba
  have HSEE := Lib.hid (h2.below hba)
  have HAT := Lib.hid hat
  have HN := Lib.hid hn
  have HSP := Lib.hid hsp
  obtain ⟨sp, hspe⟩ : ∃ l, Hg.splitK d = l := ⟨_, rfl⟩
  rw [hspe] at HP HSP
  clear hba hat hn hxn hres h2 hX hsp hspe
  unfold Md.tv
  go_enter Tryz.func9, Tryz.ntmps9
  go_wp2_with fail
  refine HP.out.mono ?_
  rintro e w1 ⟨A1, c1, rfl, hs1, hb1⟩
  have HS1 := Lib.hid hs1
  have HB1 := Lib.hid (HBA.out.trans (hb1.mono HBA.out.size))
  have HAT1 := Lib.hid (HAT.out.below hb1)
  have HSEE1 := Lib.hid (HSEE.out.below hb1)
  clear hs1 hb1 HP HAT HSEE
  rcases HSP.out with ⟨a, b, hs, hm⟩ | ⟨a, b, t, hs, hm, t0, t1, d0, d1⟩ | ⟨hs, hm⟩
  · subst hs hm
    clear HSP
    go_wp2_with fail
    go_ret
    exact ⟨A1, c1, rfl, HS1.out, HB1.out⟩
  · subst hs hm
    obtain ⟨ab, ao, hA, hab, hac⟩ := HS1.out (by simp)
    have hc : w1.cell? ⟨ab, ao + 2, none⟩ = some (.int .i64 t) := by simpa using hac 2 (by simp)
    have e1 : IntKind.i64.wrap (t - 4519) = t - 4519 := by rw [IntKind.wrap_i64]; omega
    have e2 : IntKind.i64.wrap (d - (t - 4519)) = d - (t - 4519) := by rw [IntKind.wrap_i64]; omega
    have hcd : w1.drew.cell? ⟨ab, ao + 2, none⟩ = some (.int .i64 t) := hc
    subst hA
    clear HSP hac
    go_wp2_with fail
    go_region
    all_goals
      go_wp2_with fail
      go_ret
      have hbz : Below w1.heap.size w1 (w1.alloc (.cells #[.int .i64 (d - (t - 4519)), .int .i64 t] 3)).drew := ((Below.refl _ _).alloc (Nat.le_refl _) _).drew
      exact ⟨_, _, rfl, (Md.sl_of_lit (w := w1) (e := 3) (xs := [.int .i64 (d - (t - 4519)), .int .i64 t])), HB1.out.trans (hbz.mono HB1.out.size)⟩
  · subst hs hm
    clear HSP
    have hat1 := HAT1.out
    have z0 := hat1.cell 0 rfl
    clear hat1
    go_wp2_with fail
    go_loopw [30] (fun i wr => ∃ k : Nat, k ≤ n ∧ i = .int .i64 k ∧ (∀ q ∈ T.take k, q.1 ≠ d) ∧ Below w1.heap.size w1 wr) (fun i _ => n - (intOf i).toNat)
    case atStart => exact ⟨0, Nat.zero_le _, rfl, by simp, Below.refl _ _⟩
    case round =>
      obtain ⟨k, hk, rfl, hno, hbel⟩ := hrel
      have HNO := Lib.hid hno
      have HBEL := Lib.hid hbel
      clear hno
      by_cases hlt : k < n
      · obtain ⟨r, hr⟩ : ∃ r, T[k]? = some r := ⟨_, List.getElem?_eq_getElem (by rw [HN.out]; exact hlt)⟩
        obtain ⟨b, o, a, hA1, hb, c0, c1, c2, hsl⟩ := (HSEE1.out.below hbel).row hr
        have hkI : (k : Int) < n := by omega
        have hatn := Rw.At.new wr 59 [.int .i64 r.1, .int .i64 r.2.1, .slice a.1 r.2.2.length a.2]
        obtain ⟨x0, x1, x2, _, _, _⟩ := hatn.three
        have hbn : Below wr.heap.size wr (wr.alloc (.cells #[.int .i64 r.1, .int .i64 r.2.1, .slice a.1 r.2.2.length a.2] 59)) := (Below.refl _ _).alloc (Nat.le_refl _) _
        have HSL := Lib.hid (hsl.below hbn hbn.size)
        have HB2 := Lib.hid (hbel.alloc hbel.size (.cells #[.int .i64 r.1, .int .i64 r.2.1, .slice a.1 r.2.2.length a.2] 59))
        have HR := Lib.hid hr
        subst hA1
        clear hr hsl hbel hatn hbn
        rcases hxd : (r.1 == d) with _ | _
        · have HNX := Lib.hid (Md.no_succ HR.out HNO.out (by simpa using hxd))
          go_wp2_with fail
          exact ⟨⟨k + 1, by omega, by go_num, HNX.out, HB2.out⟩, by simp [intOf]; omega⟩
        · have hrs : Md.rmp T d = r.2.2 := by
            unfold Md.rmp
            rw [Md.find_take HR.out HNO.out (beq_iff_eq.1 hxd)]
            rfl
          have HRS := Lib.hid hrs
          clear hrs
          go_wp2_with fail
          go_ret
          rw [HRS.out]
          exact ⟨a.1, a.2, rfl, HSL.out, HB1.out.trans (HB2.out.mono HB1.out.size)⟩
      · obtain rfl : n = k := by omega
        have hrs : Md.rmp T d = [] := by
          unfold Md.rmp
          rw [Md.find_no (by rw [HN.out]; exact Nat.le_refl _) HNO.out]
          rfl
        have HRS := Lib.hid hrs
        clear hrs hlt
        go_wp2_with fail
        go_ret
        rw [HRS.out]
        exact ⟨none, 0, rfl, Sl.nil _ _ _, HB1.out.trans (HBEL.out.mono HB1.out.size)⟩
end Go.Proofs.YtkmfegamblmpeaaGreatDoor

/- The document's layer model: step, Full, by walking their texts. -/
namespace Go.Proofs.YtkmfegamblmpeaaGreatDoor
open Go.RowKit
set_option linter.unusedSimpArgs false
set_option linter.unusedVariables false

def Md.RetStep (l : List Int) (b : Bool) (w : World) (e : Ending) (w' : World) : Prop :=
  ∃ A c, e = .returned (.tuple #[.slice A l.length c, .bool b]) ∧ Sl w' w'.heap.size A (l.map (Value.int .i64)) ∧ Below w.heap.size w w'
theorem Md.step_succ {mp : Int → List Int} {L : List Int} {k : Nat} {x : Int} (h : L[k]? = some x) : Md.step mp (L.take (k + 1)) = Md.step mp (L.take k) ++ Md.one mp x := by
  unfold Md.step
  rw [List.take_add_one, h]
  simp
theorem Md.plain_succ {mp : Int → List Int} {L : List Int} {k : Nat} {x : Int} (h : L[k]? = some x) : Md.plain mp (L.take (k + 1)) = (Md.plain mp (L.take k) && (mp x).isEmpty) := by
  unfold Md.plain
  rw [List.take_add_one, h]
  simp
theorem Md.step_len {mp : Int → List Int} (h : ∀ c, (mp c).length ≤ 1000) (L : List Int) : (Md.step mp L).length ≤ 1000 * L.length := by
  induction L with
  | nil => simp [Md.step]
  | cons x l ih =>
    have : (Md.one mp x).length ≤ 1000 := by
      unfold Md.one
      split
      · simp
      · exact h x
    unfold Md.step at ih ⊢
    rw [List.flatMap_cons, List.length_append, List.length_cons]
    omega
theorem Md.step_bd {mp : Int → List Int} (h : ∀ c, ∀ d ∈ mp c, -2147483648 ≤ d ∧ d ≤ 2147483647) {L : List Int} (hL : ∀ c ∈ L, -2147483648 ≤ c ∧ c ≤ 2147483647) : ∀ c ∈ Md.step mp L, -2147483648 ≤ c ∧ c ≤ 2147483647 := by
  intro c hc
  unfold Md.step at hc
  obtain ⟨x, hx, hcx⟩ := List.mem_flatMap.1 hc
  unfold Md.one at hcx
  split at hcx
  · simp at hcx
    subst hcx
    exact hL c hx
  · exact h x c hcx
theorem Md.own_empty (w : World) (e : TypeId) (hs : 0 < 1) : (w.alloc (.cells #[] e)).ownsRow w.heap.size e 1 (.slice (some ⟨w.heap.size, 0, none⟩) 0 0) 0 [] :=
  ⟨rfl, .inr ⟨w.heap.size, 0, #[], rfl, Nat.le_refl _, heap_alloc_new w _, Nat.le_refl _, by decide, rfl, rfl⟩⟩

set_option maxRecDepth 100000 in
set_option maxHeartbeats 2000000 in
theorem Md.rstep_any (v : Value) (T : List Rw.Row) (E : List Int) (A : Option Addr) (n c : Nat) (L : List Int) (w : World) (hTn : T.length ≤ 1000000) (h : Md.Doc w v T E) (hmp : ∀ c, (Md.mp T c).length ≤ 1000) (hn : L.length = n) (hn' : n ≤ 1000) (hL : ∀ c ∈ L, -2147483648 ≤ c ∧ c ≤ 2147483647) (hA : Sl w w.heap.size A (L.map (Value.int .i64))) :
    Calls Tryz.prog 35 #[v, .slice A n c] w (Md.RetStep (Md.step (Md.mp T) L) (!Md.plain (Md.mp T) L) w) := by
  obtain ⟨i0, hi0, iz0, iz1, iz2⟩ := info_parts infoInt
  have HM : Hid (∀ (d : Int) (W : World), Below w.heap.size w W → -2147483648 ≤ d → d ≤ 2147483647 → Calls Tryz.prog 9 #[v, .int .i64 d] W (RetInts .i64 (Md.mp T d) W)) := Lib.hid fun d W hW a b => Md.rmap_any v T E d W hTn (h.below hW) a b
  obtain ⟨AT, cT, XA, xc, rfl, h2, hX⟩ := h
  obtain ⟨tn, htn⟩ : ∃ k, T.length = k := ⟨_, rfl⟩
  obtain ⟨xn, hxn⟩ : ∃ k, E.length = k := ⟨_, rfl⟩
  rw [htn, hxn] at HM ⊢
  have hlen : ∀ k, k ≤ n → (Md.step (Md.mp T) (L.take k)).length ≤ 1000 * k := fun k hk => by
    have := Md.step_len hmp (L.take k)
    rw [List.length_take, hn] at this
    omega
  have HLEN := Lib.hid hlen
  have HMP := Lib.hid hmp
  have HN := Lib.hid hn
  have HL := Lib.hid hL
  obtain ⟨res, hres⟩ : ∃ r, Md.step (Md.mp T) L = r := ⟨_, rfl⟩
  obtain ⟨rb, hrb⟩ : ∃ r, Md.plain (Md.mp T) L = r := ⟨_, rfl⟩
  rw [hres, hrb]
  have HRES := Lib.hid hres
  have HRB := Lib.hid hrb
  obtain ⟨wa, hwa⟩ : ∃ wa, (w.alloc (.cells #[.slice AT tn cT, .slice XA xn xc] 25)).alloc (.cells #[] 3) = wa := ⟨_, rfl⟩
  have hba : Below w.heap.size w wa := by rw [← hwa]; exact ((Below.refl _ _).alloc (Nat.le_refl _) _).alloc (by simp) _
  have hat : Rw.At wa w.heap.size 25 [.slice AT tn cT, .slice XA xn xc] := by
    rw [← hwa]; exact (Rw.At.new w 25 [.slice AT tn cT, .slice XA xn xc]).alloc _
  have hown : wa.ownsRow (w.heap.size + 1) 3 1 (.slice (some ⟨w.heap.size + 1, 0, none⟩) 0 0) 0 [] := by
    have := Md.own_empty (w.alloc (.cells #[.slice AT tn cT, .slice XA xn xc] 25)) 3 (by decide)
    rw [World.size_alloc] at this
    rw [← hwa]; exact this
  have HBA := Lib.hid hba
  have HA := Lib.hid (hA.below hba (Nat.le_refl _))
  have hlt0 : w.heap.size + 1 ≤ wa.heap.size := hat.lt
  have HWA := Lib.hid hwa
  clear hlen hmp hn hL hres hrb htn hxn hwa hba hA h2 hX
  unfold Md.tv at *
  go_enter Tryz.func35, Tryz.ntmps35
  go_upto_region 2 with (fail)
  rw [HWA.out]
  go_wp2_with fail
  go_loopw [6, 7, 14] (fun v6 v7 i wr => ∃ (k : Nat) (v : Value), k ≤ n ∧ i = .int .i64 k ∧ v6 = v ∧ v7 = .bool (!Md.plain (Md.mp T) (L.take k)) ∧ Rw.At wr w.heap.size 25 [.slice AT tn cT, .slice XA xn xc] ∧ wr.ownsRow (w.heap.size + 1) 3 1 v (Md.step (Md.mp T) (L.take k)).length ((Md.step (Md.mp T) (L.take k)).map (Value.int .i64)) ∧ Below (w.heap.size + 1) wa wr) (fun _ _ i _ => n - (intOf i).toNat)
  case atStart => exact ⟨0, _, Nat.zero_le _, rfl, rfl, rfl, hat, hown, Below.refl _ _⟩
  case round =>
    obtain ⟨k, v, hk, rfl, rfl, rfl, hatr, hownr, hbel⟩ := hrel
    have hzr : w.heap.size + 1 ≤ wr.heap.size := hatr.lt
    have hlk := HLEN.out k hk
    by_cases hlt : k < n
    · obtain ⟨x, hx⟩ : ∃ x, L[k]? = some x := ⟨_, List.getElem?_eq_getElem (by rw [HN.out]; exact hlt)⟩
      have hxb := HL.out x (List.mem_of_getElem? hx)
      obtain ⟨ab, ao, hA2, hab, hac⟩ := HA.out (by rw [List.length_map, HN.out]; omega)
      have hc := hac k (by rw [List.length_map, HN.out]; exact hlt)
      rw [List.getElem?_map, hx, Option.map_some, ← (bcell hbel).1 _ _ (by omega)] at hc
      have hM := HM.out x wr (HBA.out.trans (hbel.mono (Nat.le_succ _))) hxb.1 hxb.2
      have hst := Md.step_succ (mp := Md.mp T) hx
      have hpl := Md.plain_succ (mp := Md.mp T) hx
      have hml := HMP.out x
      unfold Md.one at hst
      obtain ⟨S, hS⟩ : ∃ S, Md.step (Md.mp T) (L.take k) = S := ⟨_, rfl⟩
      obtain ⟨p, hp⟩ : ∃ p, Md.plain (Md.mp T) (L.take k) = p := ⟨_, rfl⟩
      obtain ⟨m, hm⟩ : ∃ m, Md.mp T x = m := ⟨_, rfl⟩
      obtain ⟨sl, hsl⟩ : ∃ sl, S.length = sl := ⟨_, rfl⟩
      rw [hS, hm] at hst
      rw [hp, hm] at hpl
      rw [hS] at hownr hlk
      rw [hm] at hM hml
      rw [hsl] at hownr hlk
      rw [hp]
      have kI : (k : Int) < n := by omega
      have k0 : (0 : Int) ≤ k := by omega
      have z0 := hatr.cell 0 rfl
      have z1 := hatr.cell 1 rfl
      have HST := Lib.hid hst
      have HPL := Lib.hid hpl
      have HOWNR := Lib.hid hownr
      have HATR := Lib.hid hatr
      have HBEL := Lib.hid hbel
      have HSL := Lib.hid hsl
      subst hA2
      clear hat hown hx hac hst hpl hS hp hm hsl hownr hatr hbel
      go_wp2_with fail
      refine hM.mono ?_
      rintro e w1 ⟨A1, c1, rfl, hs1, hb1⟩
      have hown1 := own_below HOWNR.out hb1 (Nat.le_refl _)
      have hat1 := HATR.out.below hb1
      have hsz1 := hb1.size
      have HOWN1 := Lib.hid hown1
      have HAT1 := Lib.hid hat1
      have HS1 := Lib.hid hs1
      have HB1 := Lib.hid (HBEL.out.trans (hb1.mono hzr))
      have hz1 : w.heap.size + 1 ≤ w1.heap.size := Nat.le_trans hzr hsz1
      clear hown1 hat1 hs1 hb1 hM z0 z1 hc
      rcases m with _ | ⟨m0, mr⟩
      · go_wp2_with (first | (at_builtin; refine wpList_push1 _ rfl _ _ _ rfl (w.heap.size + 1) 3 i0 _ 8 Tryz.underlying23 hi0 iz0 iz1 iz2 rfl _ sl _ rfl HOWN1.out _ rfl rfl (by simp only [maxLen]; omega) (by omega) hz1 ?_; intro v1 w4 hown4 hb4) | fail)
        refine ⟨⟨k + 1, v1, by omega, by go_num, rfl, by rw [HPL.out]; simp, HAT1.out.below' hb4 (Nat.lt_succ_self _), ?_, HB1.out.trans hb4⟩, by simp [intOf]; omega⟩
        rw [HST.out, if_pos trivial, List.length_append, HSL.out, List.map_append]
        exact hown4
      · have hml2 : ((m0 :: mr).map (Value.int .i64)).length = (m0 :: mr).length * 1 := by simp
        obtain ⟨q, hq⟩ : ∃ q, (m0 :: mr).length = q := ⟨_, rfl⟩
        have hq0 : ¬ q = 0 := by rw [← hq]; simp
        have hqb : ((q : Int) == 0) = false := by simp; omega
        rw [hq] at hml hml2 ⊢
        have HQ := Lib.hid hq
        have h1c : ∀ u ∈ (m0 :: mr).map (Value.int .i64), u.oneCell' = true := oneCells .i64 _
        have H1C := Lib.hid h1c
        have HML2 := Lib.hid hml2
        clear hq hq0 h1c hml2
        go_wp2_with (first | (at_builtin; refine wpList_appendSl _ rfl _ _ _ rfl (w.heap.size + 1) 3 i0 _ 1 8 Tryz.underlying23 hi0 iz0 iz1 iz2 rfl (by omega) _ sl _ rfl HOWN1.out _ A1 q c1 ((m0 :: mr).map (Value.int .i64)) rfl HML2.out HS1.out H1C.out (by simp only [maxLen]; omega) (by omega) hz1 ?_; intro v1 w4 hown4 hb4 hg4) | fail)
        refine ⟨⟨k + 1, v1, by omega, by go_num, rfl, by rw [HPL.out]; simp, HAT1.out.below' hb4 (Nat.lt_succ_self _), ?_, HB1.out.trans hb4⟩, by simp [intOf]; omega⟩
        rw [HST.out, if_neg (by simp), List.length_append, HSL.out, List.map_append, HQ.out]
        exact hown4
    · obtain rfl : n = k := by omega
      rw [List.take_of_length_le (by rw [HN.out]; exact Nat.le_refl _), HRES.out] at hownr
      rw [List.take_of_length_le (by rw [HN.out]; exact Nat.le_refl _), HRB.out]
      obtain ⟨A4, c4, rfl⟩ := own_form hownr
      have HS := Lib.hid (Sl.of_own hownr)
      have HBZ := Lib.hid (HBA.out.trans (hbel.mono (Nat.le_succ _)))
      clear hownr hbel hatr hat hown hlt
      go_wp2_with fail
      go_ret2
      exact ⟨A4, c4, rfl, HS.out, HBZ.out⟩
end Go.Proofs.YtkmfegamblmpeaaGreatDoor
