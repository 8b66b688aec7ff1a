/- A document's table that a call made: what a later store or call leaves of it. -/
import Derived.Test.YtamcpdggpdaioaaMdFew
import Derived.Test.YtamcpdggpdaioaaStepCall2
namespace Go.Proofs.Ytamcpdggpdaioaa
open Go.RowKit
set_option linter.unusedSimpArgs false
set_option linter.unusedVariables false

theorem Md.DocO.set {w : World} {v : Value} {lo : Nat} {T : List Rw.Row} {E : List Int} (h : Md.DocO w v lo T E) {b : Nat} {cs : List Value} (hat : Rw.At w b 44 cs) (hb : b < lo) (i : Nat) (u : Value) : Md.DocO (w.setCell ⟨b, i, none⟩ u) v lo T E := by
  obtain ⟨A, c, XA, xc, ads, rfl, hl, ho, hm, mid, h1, h2, ha, hx⟩ := h
  exact ⟨A, c, XA, xc, ads, rfl, hl, Rw.own_grown ho hb (Rw.grown_set b i u), hm.grown (Rw.grown_set b i u) (by intro q hq; cases hq; exact hat.not (by decide)), mid, h1, by rw [World.size_setCell]; exact h2, ha, Rw.own_grown hx (by omega) (Rw.grown_set b i u)⟩
theorem Md.DocO.below {w w' : World} {v : Value} {lo : Nat} {T : List Rw.Row} {E : List Int} (h : Md.DocO w v lo T E) (hb : Below w.heap.size w w') : Md.DocO w' v lo T E := by
  obtain ⟨A, c, XA, xc, ads, rfl, hl, ho, hm, mid, h1, h2, ha, hx⟩ := h
  exact ⟨A, c, XA, xc, ads, rfl, hl, own_below ho hb (Nat.le_refl _), hm.below hb, mid, h1, Nat.le_trans h2 hb.size, ha, own_below hx hb (Nat.le_refl _)⟩
end Go.Proofs.Ytamcpdggpdaioaa

/- The document's layer model: Map, step, Full, by walking their texts. -/
namespace Go.Proofs.Ytamcpdggpdaioaa
open Go.RowKit
set_option linter.unusedSimpArgs false
set_option linter.unusedVariables false

theorem Md.mp_split (T : List Rw.Row) (c : Int) : (∃ a b, Hg.splitK c = [a, b] ∧ Md.mp T c = [a, b]) ∨ (∃ a b t, Hg.splitK c = [a, b, t] ∧ Md.mp T c = [c - (t - 4519), t] ∧ 0 ≤ t ∧ t ≤ 60000 ∧ 0 ≤ c ∧ c ≤ 60000) ∨ (Hg.splitK c = [] ∧ Md.mp T c = Md.rmp T c) := by
  by_cases h4 : Hg.ofK c = 4
  · have hs := Hg.ofK_syl c (.inl h4)
    refine .inl ⟨4352 + (c - 44032) / 588, 4449 + (c - 44032) % 588 / 28, ?_, ?_⟩
    · unfold Hg.splitK
      grind
    · unfold Md.mp
      rw [Hg.pairK_four c h4]
      simp
  · by_cases h5 : Hg.ofK c = 5
    · have hs := Hg.ofK_syl c (.inr h5)
      refine .inr (.inl ⟨4352 + (c - 44032) / 588, 4449 + (c - 44032) % 588 / 28, 4519 + (c - 44032) % 28, ?_, ?_, by omega, by omega, by omega, by omega⟩)
      · unfold Hg.splitK
        grind
      · unfold Md.mp
        rw [Hg.pairK_five c h5]
        simp
        omega
    · refine .inr (.inr ⟨?_, ?_⟩)
      · unfold Hg.splitK
        grind
      · unfold Md.mp
        rw [Hg.pairK_none c h4 h5]
        simp

theorem Md.sl_of_lit {w : World} {e : TypeId} {xs : List Value} : Sl (w.alloc (.cells xs.toArray e)) (w.alloc (.cells xs.toArray e)).heap.size (some ⟨w.heap.size, 0, none⟩) xs := Sl.lit rfl e (0, 0) (heap_alloc_new w _)

set_option maxRecDepth 100000 in
set_option maxHeartbeats 2000000 in
theorem Md.rmap_any (v : Value) (T : List Rw.Row) (E : List Int) (d : Int) (w : World) (hTn : T.length ≤ 1000000) (h : Md.Doc w v T E) (h3 : -2147483648 ≤ d) (h4 : d ≤ 2147483647) :
    Calls Try.prog 25 #[v, .int .i64 d] w (RetInts .i64 (Md.mp T d) w) := by
  obtain ⟨A, c, XA, xc, rfl, h2, hX⟩ := h
  obtain ⟨n, hn⟩ : ∃ k, T.length = k := ⟨_, rfl⟩
  obtain ⟨xn, hxn⟩ : ∃ k, E.length = k := ⟨_, rfl⟩
  rw [hn] at hTn ⊢
  rw [hxn]
  have hsp := Md.mp_split T d
  obtain ⟨res, hres⟩ : ∃ k, Md.mp T d = k := ⟨_, rfl⟩
  rw [hres] at hsp ⊢
  have hba : Below w.heap.size w (w.alloc (.cells #[.slice A n c, .slice XA xn xc] 44)) := (Below.refl _ _).alloc (Nat.le_refl _) _
  have hat : Rw.At (w.alloc (.cells #[.slice A n c, .slice XA xn xc] 44)) w.heap.size 44 [.slice A n c, .slice XA xn xc] := Rw.At.new w 44 [.slice A n c, .slice XA xn xc]
  have HP := Lib.hid (Hg.parts_any d (w.alloc (.cells #[.slice A n c, .slice XA xn xc] 44)) h3 h4)
  have HBA := Lib.hid hba
  have HSEE := Lib.hid (h2.below hba)
  have HAT := Lib.hid hat
  have HN := Lib.hid hn
  have HSP := Lib.hid hsp
  obtain ⟨sp, hspe⟩ : ∃ l, Hg.splitK d = l := ⟨_, rfl⟩
  rw [hspe] at HP HSP
  clear hba hat hn hxn hres h2 hX hsp hspe
  unfold Md.tv
  go_enter Try.func25, Try.ntmps25
  go_wp2_with fail
  refine HP.out.mono ?_
  rintro e w1 ⟨A1, c1, rfl, hs1, hb1⟩
  have HS1 := Lib.hid hs1
  have HB1 := Lib.hid (HBA.out.trans (hb1.mono HBA.out.size))
  have HAT1 := Lib.hid (HAT.out.below hb1)
  have HSEE1 := Lib.hid (HSEE.out.below hb1)
  clear hs1 hb1 HP HAT HSEE
  rcases HSP.out with ⟨a, b, hs, hm⟩ | ⟨a, b, t, hs, hm, t0, t1, d0, d1⟩ | ⟨hs, hm⟩
  · subst hs hm
    clear HSP
    go_wp2_with fail
    go_ret
    exact ⟨A1, c1, rfl, HS1.out, HB1.out⟩
  · subst hs hm
    obtain ⟨ab, ao, hA, hab, hac⟩ := HS1.out (by simp)
    have hc : w1.cell? ⟨ab, ao + 2, none⟩ = some (.int .i64 t) := by simpa using hac 2 (by simp)
    have e1 : IntKind.i64.wrap (t - 4519) = t - 4519 := by rw [IntKind.wrap_i64]; omega
    have e2 : IntKind.i64.wrap (d - (t - 4519)) = d - (t - 4519) := by rw [IntKind.wrap_i64]; omega
    have hcd : w1.drew.cell? ⟨ab, ao + 2, none⟩ = some (.int .i64 t) := hc
    subst hA
    clear HSP hac
    go_wp2_with fail
    go_region
    all_goals
      go_wp2_with fail
      go_ret
      have hbz : Below w1.heap.size w1 (w1.alloc (.cells #[.int .i64 (d - (t - 4519)), .int .i64 t] 3)).drew := ((Below.refl _ _).alloc (Nat.le_refl _) _).drew
      exact ⟨_, _, rfl, (Md.sl_of_lit (w := w1) (e := 3) (xs := [.int .i64 (d - (t - 4519)), .int .i64 t])), HB1.out.trans (hbz.mono HB1.out.size)⟩
  · subst hs hm
    clear HSP
    have hat1 := HAT1.out
    have z0 := hat1.cell 0 rfl
    clear hat1
    go_wp2_with fail
    go_loopw [30] (fun i wr => ∃ k : Nat, k ≤ n ∧ i = .int .i64 k ∧ (∀ q ∈ T.take k, q.1 ≠ d) ∧ Below w1.heap.size w1 wr) (fun i _ => n - (intOf i).toNat)
    case atStart => exact ⟨0, Nat.zero_le _, rfl, by simp, Below.refl _ _⟩
    case round =>
      obtain ⟨k, hk, rfl, hno, hbel⟩ := hrel
      have HNO := Lib.hid hno
      have HBEL := Lib.hid hbel
      clear hno
      by_cases hlt : k < n
      · obtain ⟨r, hr⟩ : ∃ r, T[k]? = some r := ⟨_, List.getElem?_eq_getElem (by rw [HN.out]; exact hlt)⟩
        obtain ⟨b, o, a, hA1, hb, c0, c1, c2, hsl⟩ := (HSEE1.out.below hbel).row hr
        have hkI : (k : Int) < n := by omega
        have hatn := Rw.At.new wr 58 [.int .i64 r.1, .int .i64 r.2.1, .slice a.1 r.2.2.length a.2]
        obtain ⟨x0, x1, x2, _, _, _⟩ := hatn.three
        have hbn : Below wr.heap.size wr (wr.alloc (.cells #[.int .i64 r.1, .int .i64 r.2.1, .slice a.1 r.2.2.length a.2] 58)) := (Below.refl _ _).alloc (Nat.le_refl _) _
        have HSL := Lib.hid (hsl.below hbn hbn.size)
        have HB2 := Lib.hid (hbel.alloc hbel.size (.cells #[.int .i64 r.1, .int .i64 r.2.1, .slice a.1 r.2.2.length a.2] 58))
        have HR := Lib.hid hr
        subst hA1
        clear hr hsl hbel hatn hbn
        rcases hxd : (r.1 == d) with _ | _
        · have HNX := Lib.hid (Md.no_succ HR.out HNO.out (by simpa using hxd))
          go_wp2_with fail
          exact ⟨⟨k + 1, by omega, by go_num, HNX.out, HB2.out⟩, by simp [intOf]; omega⟩
        · have hrs : Md.rmp T d = r.2.2 := by
            unfold Md.rmp
            rw [Md.find_take HR.out HNO.out (beq_iff_eq.1 hxd)]
            rfl
          have HRS := Lib.hid hrs
          clear hrs
          go_wp2_with fail
          go_ret
          rw [HRS.out]
          exact ⟨a.1, a.2, rfl, HSL.out, HB1.out.trans (HB2.out.mono HB1.out.size)⟩
      · obtain rfl : n = k := by omega
        have hrs : Md.rmp T d = [] := by
          unfold Md.rmp
          rw [Md.find_no (by rw [HN.out]; exact Nat.le_refl _) HNO.out]
          rfl
        have HRS := Lib.hid hrs
        clear hrs hlt
        go_wp2_with fail
        go_ret
        rw [HRS.out]
        exact ⟨none, 0, rfl, Sl.nil _ _ _, HB1.out.trans (HBEL.out.mono HB1.out.size)⟩
end Go.Proofs.Ytamcpdggpdaioaa
