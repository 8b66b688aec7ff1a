/- The law PagesGets, by walking its text. -/
import Derived.Test.YtamcpdggpdaioaaPgAwake
import Derived.Test.YtamcpdggpdaioaaPgBits
import Derived.Test.YtamcpdggpdaioaaPairs
namespace Go.Proofs.Ytamcpdggpdaioaa
open Go.RowKit
set_option linter.unusedSimpArgs false
set_option linter.unusedVariables false

theorem Pg.infoInt : (Try.prog.info? 3).map (fun i => (i.zero, i.size, i.bytes)) = some (some (.int .i64 0), 1, 8) := by kernel_rfl
theorem Pg.get_bd {L : List (Int × Int)} (h : Pg.cellsOk L) (c : Int) : 0 ≤ Pg.get (Pg.last L) c ∧ Pg.get (Pg.last L) c ≤ 65535 := by
  unfold Pg.get
  split
  · exact Pg.last_u16 (fun x hx => (h x hx).2.2) c
  · decide

set_option maxRecDepth 100000 in
set_option maxHeartbeats 4000000 in
theorem Pg.gets_row (A : Option Addr) (n c : Nat) (L : List (Int × Int)) (d : Int) (w : World) (hn : L.length = n) (hnb : n ≤ maxLen) (h64 : Pg.in64 L) (h : Sl w w.heap.size A (C.fl .i64 L)) (hd0 : -2147483648 ≤ d) (hd1 : d ≤ 2147483647) :
    Calls Try.prog 3 #[.slice A n c, .int .i32 d] w fun e w' => e = .returned (.bool true) ∧ Below w.heap.size w w' := by
  obtain ⟨i0, hi0, hz0, hz1, hz2⟩ := info_parts Pg.infoInt
  have HFEW : Hid (∀ W, Below w.heap.size w W → Calls Try.prog 8 #[.slice A n c] W (Pg.RetFew (Pg.fewL L) W)) := Lib.hid fun W hW => Pg.few_any A n c L W hn hnb h64 (h.below hW hW.size)
  have hok := Pg.fewL_ok L
  have hl30 := Pg.fewL_len L
  obtain ⟨X, hX⟩ : ∃ X, Pg.fewL L = X := ⟨_, rfl⟩
  rw [hX] at HFEW hok hl30
  obtain ⟨m, hm⟩ : ∃ m, X.length = m := ⟨_, rfl⟩
  rw [hm] at hl30
  have HM := Lib.hid hm
  have HOK := Lib.hid hok
  have hgb := Pg.get_bd hok
  obtain ⟨f, hf⟩ : ∃ f, Pg.last X = f := ⟨_, rfl⟩
  rw [hf] at hgb
  have HGB := Lib.hid hgb
  have HF := Lib.hid hf
  clear hn h64 h hok hX hm hgb hf
  go_enter Try.func3, Try.ntmps3
  go_wp2_with fail
  refine (Pg.awake_any w).mono ?_
  rintro e w1 ⟨rfl, hb1⟩
  have HB1 := Lib.hid hb1
  clear hb1
  go_wp2_with fail
  refine (HFEW.out w1 HB1.out).mono ?_
  rintro e w2 ⟨A1, c1, A2, c2, rfl, hown1, hown2, hb2⟩
  rw [HM.out] at hown1 hown2 ⊢
  have hb12 := HB1.out.trans (hb2.mono HB1.out.size)
  have HB2 := Lib.hid hb12
  have HS1 := Lib.hid (Sl.of_own hown1)
  have hnew := Pg.new_any A2 m c2 X w2 HM.out HOK.out (Sl.of_own hown2) (by simp only [maxLen]; omega)
  have HNEW := Lib.hid hnew
  clear hown1 hown2 hb2 hb12 hnew
  go_wp2_with fail
  refine HNEW.out.mono ?_
  rintro e w3 ⟨v, rfl, hof, hb3⟩
  rw [HF.out] at hof
  have hv := hof
  obtain ⟨g, Ap, cp, rfl, _, _⟩ := hv
  have HOF := Lib.hid hof
  have HS3 := Lib.hid (HS1.out.below hb3 hb3.size)
  have HB3 := Lib.hid (HB2.out.trans (hb3.mono HB2.out.size))
  have hown : (w3.alloc (.cells #[.int .i64 d, .int .i64 (-1), .int .i64 0, .int .i64 1114111, .int .i64 1114112] 3)).ownsRow w3.heap.size 3 1 (.slice (some ⟨w3.heap.size, 0, none⟩) 5 5) 5 ([d, -1, 0, 1114111, 1114112].map (Value.int .i64)) :=
    ⟨rfl, .inr ⟨_, 5, _, rfl, Nat.le_refl _, heap_alloc_new w3 _, by decide, by decide, rfl, rfl⟩⟩
  have hba : Below w3.heap.size w3 (w3.alloc (.cells #[.int .i64 d, .int .i64 (-1), .int .i64 0, .int .i64 1114111, .int .i64 1114112] 3)) := (Below.refl _ _).alloc (Nat.le_refl _) _
  have hZ0 : ∀ z ∈ [d, -1, 0, 1114111, 1114112], -2147483648 ≤ z ∧ z ≤ 2147483647 := by
    intro z hz
    simp only [List.mem_cons, List.not_mem_nil, or_false] at hz
    rcases hz with rfl | rfl | rfl | rfl | rfl <;> omega
  have HOWN0 := Lib.hid hown
  have HBA := Lib.hid hba
  have HZ0 := Lib.hid hZ0
  have e64 : IntKind.i64.wrap d = d := by rw [IntKind.wrap_i64]; omega
  clear hb3 hof hown hba hZ0
  go_wp2_with fail
  clear e64
  go_loopw [8, 29] (fun v8 i wr => ∃ (k : Nat) (Z : List Int), k ≤ m ∧ i = .int .i64 k ∧ Z.length = 5 + 3 * k ∧ (∀ z ∈ Z, -2147483648 ≤ z ∧ z ≤ 2147483647) ∧ wr.ownsRow w3.heap.size 3 1 v8 (5 + 3 * k) (Z.map (Value.int .i64)) ∧ Below w3.heap.size w3 wr) (fun _ i _ => m - (intOf i).toNat)
  case atStart => exact ⟨0, _, Nat.zero_le _, rfl, rfl, HZ0.out, HOWN0.out, HBA.out⟩
  case round =>
    obtain ⟨k, Z, hk, rfl, hZl, hZb, hown, hbel⟩ := hrel
    have HZL := Lib.hid hZl
    have HZB := Lib.hid hZb
    have HOWN := Lib.hid hown
    have HBEL := Lib.hid hbel
    by_cases hlt : k < m
    · obtain ⟨x, hx⟩ : ∃ x, X[k]? = some x := ⟨_, List.getElem?_eq_getElem (by rw [HM.out]; exact hlt)⟩
      obtain ⟨b, o, rfl, hb, c0', c1'⟩ := (HS3.out.below hbel hbel.size).pair hx
      have hxb := HOK.out x (List.mem_of_getElem? hx)
      obtain ⟨x1, x2⟩ := x
      dsimp only at c0' c1' hxb
      have ho1 := Pg.or_255 x1 hxb.1 hxb.2.1
      have ho2 := Pg.andNot_255 x1 hxb.1 hxb.2.1
      obtain ⟨y1, hy1⟩ : ∃ y, bits .andNot .i64 x1 255 = y := ⟨_, rfl⟩
      obtain ⟨y2, hy2⟩ : ∃ y, bits .or .i64 x1 255 = y := ⟨_, rfl⟩
      rw [hy2] at ho1
      rw [hy1] at ho2
      have hZ2 : Hid (∀ z ∈ Z ++ [x1, y1, y2], -2147483648 ≤ z ∧ z ≤ 2147483647) := Lib.hid (by
        intro z hz
        rcases List.mem_append.1 hz with hz | hz
        · exact hZb z hz
        · simp only [List.mem_cons, List.not_mem_nil, or_false] at hz
          rcases hz with rfl | rfl | rfl
          · exact ⟨hxb.1, hxb.2.1⟩
          · exact ho2
          · exact ho1)
      have hkI : (k : Int) < m := by omega
      have hk0 : (0 : Int) ≤ k := by omega
      have hbn : Below wr.heap.size wr (wr.alloc (.cells #[.int .i64 x1, .int .i64 x2] 31)) := (Below.refl _ _).alloc (Nat.le_refl _) _
      have hatn := Rw.At.new wr 31 [.int .i64 x1, .int .i64 x2]
      obtain ⟨wa, hwa⟩ : ∃ wa, wr.alloc (.cells #[.int .i64 x1, .int .i64 x2] 31) = wa := ⟨_, rfl⟩
      have hatn : Rw.At wa wr.heap.size 31 [.int .i64 x1, .int .i64 x2] := by rw [← hwa]; exact hatn
      rw [hwa] at hbn
      have HOWNA := Lib.hid (own_below hown hbn (Nat.le_refl _))
      have HBELA := Lib.hid (hbel.trans (hbn.mono hbel.size))
      have HWA := Lib.hid hwa
      have q0 := hatn.cell 0 rfl
      have q1 := hatn.cell 1 rfl
      have hql := hatn.lt
      have hnew2 := Lib.hid (Sl.lit (w := wa.alloc (.cells #[.int .i64 x1, .int .i64 y1, .int .i64 y2] 3)) (A := some ⟨wa.heap.size, 0, none⟩) (xs := [.int .i64 x1, .int .i64 y1, .int .i64 y2]) rfl 3 (0, 0) (heap_alloc_new wa _))
      have HOWNB := Lib.hid (HOWNA.out.alloc (.cells #[.int .i64 x1, .int .i64 y1, .int .i64 y2] 3))
      have hbz := HBELA.out.alloc HBELA.out.size (.cells #[.int .i64 x1, .int .i64 y1, .int .i64 y2] 3)
      have hszz := hbz.size
      have HBZ := Lib.hid hbz
      clear hx hxb ho1 ho2 hbn hatn hwa hbz hown hbel hZl hZb
      go_upto_region 11 with (fail)
      rw [HWA.out]
      clear c0' c1'
      go_wp2_with (first | (at_builtin; refine wpList_appendSl _ rfl _ _ _ rfl w3.heap.size 3 i0 _ 1 8 Try.underlying29 hi0 hz0 hz1 hz2 rfl (by omega) u8 (5 + 3 * k) _ rfl HOWNB.out _ (some ⟨wa.heap.size, 0, none⟩) 3 3 [.int .i64 x1, .int .i64 y1, .int .i64 y2] rfl rfl hnew2.out (by simp [Value.oneCell']) (by simp only [maxLen]; omega) (by omega) hszz ?_; intro v8 w8 hown8 hb8 hgrow8) | fail)
      exact ⟨⟨k + 1, Z ++ [x1, y1, y2], by omega, by go_num, by rw [List.length_append, HZL.out]; simp; omega, hZ2.out, by rw [show 5 + 3 * (k + 1) = 5 + 3 * k + 3 by omega, List.map_append]; exact hown8, HBZ.out.trans hb8⟩, by simp [intOf]; omega⟩
    · obtain rfl : m = k := by omega
      obtain ⟨w4, rfl⟩ : ∃ w4 : World, w4 = wr := ⟨_, rfl⟩
      obtain ⟨A8, c8, rfl⟩ := own_form hown
      obtain ⟨zn, hzn⟩ : ∃ zn, 5 + 3 * m = zn := ⟨_, rfl⟩
      rw [hzn] at HZL HOWN ⊢
      have HSZ := Lib.hid (Sl.of_own HOWN.out)
      have HS4 := Lib.hid (HS3.out.below hbel hbel.size)
      have HOF4 := Lib.hid (Pg.Is.below HOF.out hbel)
      have HB4 := Lib.hid (HB3.out.trans (hbel.mono HB3.out.size))
      have hznb : zn ≤ 95 := by omega
      clear hown hbel hZl hZb hlt hzn
      go_wp2_with fail
      go_loopw [47] (fun i wr => ∃ k : Nat, k ≤ zn ∧ i = .int .i64 k ∧ Below w4.heap.size w4 wr) (fun i _ => zn - (intOf i).toNat)
      case atStart => exact ⟨0, Nat.zero_le _, rfl, Below.refl _ _⟩
      case round =>
        obtain ⟨k, hk, rfl, hbel⟩ := hrel
        have HBEL := Lib.hid hbel
        by_cases hlt : k < zn
        · obtain ⟨z, hz⟩ : ∃ z, Z[k]? = some z := ⟨_, List.getElem?_eq_getElem (by rw [HZL.out]; exact hlt)⟩
          obtain ⟨b, o, rfl, hb, hcc⟩ := (HSZ.out.below hbel hbel.size) (by rw [List.length_map, HZL.out]; omega)
          have c0 := hcc k (by rw [List.length_map, HZL.out]; exact hlt)
          rw [List.getElem?_map, hz, Option.map_some] at c0
          have hzb := HZB.out z (List.mem_of_getElem? hz)
          have e32 : IntKind.i32.wrap z = z := by rw [IntKind.wrap_i32]; omega
          have hkI : (k : Int) < zn := by omega
          have hk0 : (0 : Int) ≤ k := by omega
          have hgb := HGB.out z
          have HG := Lib.hid (Pg.get_any _ f z wr (Pg.Is.below HOF4.out hbel))
          have HRG : Hid (∀ W, Below wr.heap.size wr W → Calls Try.prog 11 #[.slice A1 m c1, .int .i64 z] W fun e w' => e = .returned (.int .i64 (Pg.get f z)) ∧ Below W.heap.size W w') := Lib.hid fun W hW => by
            rw [← HF.out]
            exact Pg.rget_any A1 m c1 W.heap.size X z W HM.out (by omega) (Nat.le_refl _) ((HS4.out.below HBEL.out HBEL.out.size).below hW hW.size)
          obtain ⟨y, hy⟩ : ∃ y, Pg.get f z = y := ⟨_, rfl⟩
          rw [hy] at HG HRG hgb
          have ey : IntKind.i64.wrap y = y := by rw [IntKind.wrap_i64]; omega
          clear hz hcc hzb hbel hy hgb
          go_wp2_with fail
          refine HG.out.mono ?_
          rintro e w5 ⟨rfl, hb5⟩
          have HB5 := Lib.hid hb5
          clear hb5 c0
          go_wp2_with fail
          refine (HRG.out w5 HB5.out).mono ?_
          rintro e w6 ⟨rfl, hb6⟩
          have HB6 := Lib.hid (HBEL.out.trans ((HB5.out.trans (hb6.mono HB5.out.size)).mono HBEL.out.size))
          clear hb6
          go_wp2_with fail
          exact ⟨⟨k + 1, by omega, by go_num, HB6.out⟩, by simp [intOf]; omega⟩
        · obtain rfl : zn = k := by omega
          clear hbel
          go_wp2_with fail
          go_ret
          exact ⟨rfl, HB4.out.trans (HBEL.out.mono HB4.out.size)⟩
theorem Pg.gets_any (w : World) (a : Option Addr) (len cap : Nat) (rs : List (Int × Int)) (h : IsPairs w a len cap rs) (d : Int) (hd0 : -2147483648 ≤ d) (hd1 : d ≤ 2147483647) :
    Calls Try.prog 3 #[.slice a len cap, .int .i32 d] w fun e w' => e = .returned (.bool true) ∧ Below w.heap.size w w' := by
  obtain ⟨h1, h2, h3, h4, h5⟩ := h
  refine Pg.gets_row a len cap rs d w h1 (by omega) (fun x hx => ?_) h4 hd0 hd1
  obtain ⟨g1, g2⟩ := h5 x hx
  simp only [Lit.wf, Bool.and_eq_true, decide_eq_true_eq] at g1 g2
  exact ⟨⟨Int.le_trans (by decide) g1.1, Int.le_trans g1.2 (by decide)⟩, Int.le_trans (by decide) g2.1, Int.le_trans g2.2 (by decide)⟩
end Go.Proofs.Ytamcpdggpdaioaa
