/- Pages: the document's Blocks, by walking its text. -/
import Derived.Test.YtamcpdggpdaioaaPgBlock
namespace Go.Proofs.Ytamcpdggpdaioaa
open Go.RowKit
set_option linter.unusedSimpArgs false
set_option linter.unusedVariables false

/-- Blocks, each in a slice of its own. -/
def Pg.sv : List (List Int) → List (Option Addr × Nat) → List Value
  | b :: l, a :: ads => .slice a.1 (Pg.nz b).length a.2 :: Pg.sv l ads
  | _, _ => []
theorem Pg.sv_len : ∀ (l : List (List Int)) (ads : List (Option Addr × Nat)), ads.length = l.length → (Pg.sv l ads).length = l.length
  | [], [], _ => rfl
  | b :: l, a :: ads, h => by simp [Pg.sv, Pg.sv_len l ads (by simpa using h)]
theorem Pg.sv_app : ∀ (l : List (List Int)) (ads : List (Option Addr × Nat)) (b : List Int) (a : Option Addr × Nat), ads.length = l.length → Pg.sv (l ++ [b]) (ads ++ [a]) = Pg.sv l ads ++ [.slice a.1 (Pg.nz b).length a.2]
  | [], [], b, a, _ => rfl
  | x :: l, y :: ads, b, a, h => by simp [Pg.sv, Pg.sv_app l ads b a (by simpa using h)]
theorem Pg.sv_get : ∀ (l : List (List Int)) (ads : List (Option Addr × Nat)) (i : Nat) (b : List Int) (a : Option Addr × Nat), l[i]? = some b → ads[i]? = some a → (Pg.sv l ads)[i]? = some (.slice a.1 (Pg.nz b).length a.2)
  | [], _, i, b, a, h, _ => by simp at h
  | x :: l, [], i, b, a, _, h => by simp at h
  | x :: l, y :: ads, 0, b, a, h, h' => by simp at h h'; subst h h'; rfl
  | x :: l, y :: ads, i + 1, b, a, h, h' => by
    have := Pg.sv_get l ads i b a (by simpa using h) (by simpa using h')
    simpa [Pg.sv] using this
def Pg.Svs (w : World) (l : List (List Int)) (ads : List (Option Addr × Nat)) : Prop := ∀ (i : Nat) b a, l[i]? = some b → ads[i]? = some a → Slt w 31 a.1 (C.fl .i64 (Pg.nz b))
theorem Pg.Svs.below {w w' : World} {l : List (List Int)} {ads : List (Option Addr × Nat)} (h : Pg.Svs w l ads) (hb : Below w.heap.size w w') : Pg.Svs w' l ads := fun i b a h1 h2 => (h i b a h1 h2).below hb
theorem Pg.Svs.app {w : World} {l : List (List Int)} {ads : List (Option Addr × Nat)} {b : List Int} {a : Option Addr × Nat} (h : Pg.Svs w l ads) (hl : ads.length = l.length) (hb : Slt w 31 a.1 (C.fl .i64 (Pg.nz b))) : Pg.Svs w (l ++ [b]) (ads ++ [a]) := by
  intro i b' a' h1 h2
  by_cases hi : i < l.length
  · rw [List.getElem?_append_left hi] at h1
    rw [List.getElem?_append_left (by omega)] at h2
    exact h i b' a' h1 h2
  · have hlt := (List.getElem?_eq_some_iff.1 h1).1
    rw [List.length_append, List.length_singleton] at hlt
    obtain rfl : i = l.length := by omega
    rw [List.getElem?_append_right (Nat.le_refl _), Nat.sub_self] at h1
    rw [List.getElem?_append_right (by omega), show l.length - ads.length = 0 by omega] at h2
    simp at h1 h2
    subst h1 h2
    exact hb
theorem Pg.infoSl : (Try.prog.info? 22).map (fun i => (i.zero, i.size, i.bytes)) = some (some (.slice none 0 0), 1, 24) := by kernel_rfl

set_option maxRecDepth 100000 in
set_option maxHeartbeats 4000000 in
theorem Pg.rblocks_any (A : Option Addr) (n c : Nat) (L : List (Int × Int)) (w : World) (hn : L.length = n) (hnb : n ≤ 1000) (h : Sl w w.heap.size A (C.fl .i64 L)) :
    Calls Try.prog 14 #[.slice A n c] w fun e w' => e = .returned (.int .i64 (Pg.bls (Pg.last L) 4352).length) ∧ Below w.heap.size w w' := by
  obtain ⟨i0, hi0, hz0, hz1, hz2⟩ := info_parts Pg.infoSl
  rw [Pg.cnt_len]
  obtain ⟨f, hf⟩ : ∃ f, Pg.last L = f := ⟨_, rfl⟩
  rw [hf]
  have HF := Lib.hid hf
  have HS := Lib.hid h
  have HN := Lib.hid hn
  have hown0 : ((w.alloc (.cells #[] 31)).alloc (.cells #[.slice (some ⟨w.heap.size, 0, none⟩) 0 0] 22)).ownsRow w.heap.size 22 1 (.slice (some ⟨w.heap.size + 1, 0, none⟩) 1 1) 1 (Pg.sv [Pg.zeros] [(some ⟨w.heap.size, 0, none⟩, 0)]) := by
    refine ⟨rfl, .inr ⟨_, 1, #[.slice (some ⟨w.heap.size, 0, none⟩) 0 0], rfl, by omega, ?_, Nat.le_refl _, by decide, rfl, ?_⟩⟩
    · have := heap_alloc_new (w.alloc (.cells #[] 31)) (.cells #[.slice (some ⟨w.heap.size, 0, none⟩) 0 0] 22)
      simpa using this
    · simp [Pg.sv, Pg.nz_zeros]
  have hb0 : Below w.heap.size w ((w.alloc (.cells #[] 31)).alloc (.cells #[.slice (some ⟨w.heap.size, 0, none⟩) 0 0] 22)) := ((Below.refl _ _).alloc (Nat.le_refl _) _).alloc (by simp) _
  have hsv0 : Pg.Svs ((w.alloc (.cells #[] 31)).alloc (.cells #[.slice (some ⟨w.heap.size, 0, none⟩) 0 0] 22)) [Pg.zeros] [(some ⟨w.heap.size, 0, none⟩, 0)] := by
    intro i b a h1 h2
    have hi := (List.getElem?_eq_some_iff.1 h1).1
    obtain rfl : i = 0 := by simpa using hi
    simp at h1
    subst h1
    rw [Pg.nz_zeros]
    exact Slt.nil _ _ _
  have HOWN0 := Lib.hid hown0
  have HB0 := Lib.hid hb0
  have HSV0 := Lib.hid hsv0
  clear hf h hn hown0 hb0 hsv0
  go_enter Try.func14, Try.ntmps14
  go_wp2_with fail
  go_loopw [3, 14] (fun v3 i wr => ∃ (k : Nat) (ads : List (Option Addr × Nat)), k ≤ n ∧ i = .int .i64 k ∧ ads.length = (Pg.cnt f (L.take k) [Pg.zeros]).length ∧ wr.ownsRow w.heap.size 22 1 v3 (Pg.cnt f (L.take k) [Pg.zeros]).length (Pg.sv (Pg.cnt f (L.take k) [Pg.zeros]) ads) ∧ Pg.Svs wr (Pg.cnt f (L.take k) [Pg.zeros]) ads ∧ Below w.heap.size w wr) (fun _ i _ => n - (intOf i).toNat)
  case atStart => exact ⟨0, [(some ⟨w.heap.size, 0, none⟩, 0)], Nat.zero_le _, rfl, rfl, HOWN0.out, HSV0.out, HB0.out⟩
  case round =>
    obtain ⟨k, ads, hk, rfl, hads, hown, hsv, hbel⟩ := hrel
    have h256 := Pg.cnt_256 f (L.take k)
    have hcl := Pg.cnt_len_le f (L.take k) [Pg.zeros]
    have htl : (L.take k).length ≤ k := by rw [List.length_take]; omega
    have hsn : ∀ x, Pg.cnt f (L.take k ++ [x]) [Pg.zeros] = if Pg.ok x.1 = true then Pg.add (Pg.cnt f (L.take k) [Pg.zeros]) (Pg.blk f (x.1 / 256).toNat) else Pg.cnt f (L.take k) [Pg.zeros] := fun x => Pg.cnt_snoc f (L.take k) x _
    obtain ⟨all, hall⟩ : ∃ all, Pg.cnt f (L.take k) [Pg.zeros] = all := ⟨_, rfl⟩
    rw [hall] at hads hown hsv h256 hcl
    simp only [hall] at hsn
    obtain ⟨an, han⟩ : ∃ an, all.length = an := ⟨_, rfl⟩
    rw [han] at hads hown hcl
    have hanb : an ≤ 1001 := by simp at hcl; omega
    have HADS := Lib.hid hads
    have HOWN := Lib.hid hown
    have HSV := Lib.hid hsv
    have HBEL := Lib.hid hbel
    have H256 := Lib.hid h256
    have HAN := Lib.hid han
    by_cases hlt : k < n
    · obtain ⟨x, hx⟩ : ∃ x, L[k]? = some x := ⟨_, List.getElem?_eq_getElem (by rw [HN.out]; exact hlt)⟩
      obtain ⟨b, o, rfl, hb, c0, c1⟩ := (HS.out.below hbel hbel.size).pair hx
      have hstep : Pg.cnt f (L.take (k + 1)) [Pg.zeros] = if Pg.ok x.1 = true then Pg.add all (Pg.blk f (x.1 / 256).toNat) else all := by rw [List.take_add_one, hx]; exact hsn x
      have HSTEP := Lib.hid hstep
      have hkI : (k : Int) < n := by omega
      have hk0 : (0 : Int) ≤ k := by omega
      have hbn : Below wr.heap.size wr (wr.alloc (.cells #[.int .i64 x.1, .int .i64 x.2] 31)) := (Below.refl _ _).alloc (Nat.le_refl _) _
      obtain ⟨x1, x2⟩ := x
      dsimp only at c0 c1 HSTEP hbn
      have hatn := Rw.At.new wr 31 [.int .i64 x1, .int .i64 x2]
      obtain ⟨wa, hwa⟩ : ∃ wa, wr.alloc (.cells #[.int .i64 x1, .int .i64 x2] 31) = wa := ⟨_, rfl⟩
      have hatn : Rw.At wa wr.heap.size 31 [.int .i64 x1, .int .i64 x2] := by rw [← hwa]; exact hatn
      rw [hwa] at hbn
      have HWA := Lib.hid hwa
      have HOWNA := Lib.hid (own_below hown hbn (Nat.le_refl _))
      have HSVA := Lib.hid (hsv.below hbn)
      have HBELA := Lib.hid (hbel.trans (hbn.mono hbel.size))
      have q0 := hatn.cell 0 rfl
      have hql := hatn.lt
      clear hx hstep hbn hatn hwa hads hown hsv hbel h256 hsn hall han
      go_upto_region 5 with (fail)
      rw [HWA.out]
      clear c0 c1
      by_cases h0 : x1 < 0
      · have hnok : Pg.ok x1 = false := by unfold Pg.ok; rw [decide_eq_false_iff_not]; omega
        have hst := HSTEP.out
        rw [hnok, if_neg (by decide)] at hst
        have HST := Lib.hid hst
        clear hnok hst
        go_wp2_with fail
        exact ⟨⟨k + 1, ads, by omega, by go_num, by rw [HST.out, HAN.out]; exact HADS.out, by rw [HST.out, HAN.out]; exact HOWNA.out, by rw [HST.out]; exact HSVA.out, HBELA.out⟩, by simp [intOf]; omega⟩
      · by_cases h1 : 1114111 < x1
        · have hnok : Pg.ok x1 = false := by unfold Pg.ok; rw [decide_eq_false_iff_not]; omega
          have hst := HSTEP.out
          rw [hnok, if_neg (by decide)] at hst
          have HST := Lib.hid hst
          clear hnok hst
          go_wp2_with fail
          exact ⟨⟨k + 1, ads, by omega, by go_num, by rw [HST.out, HAN.out]; exact HADS.out, by rw [HST.out, HAN.out]; exact HOWNA.out, by rw [HST.out]; exact HSVA.out, HBELA.out⟩, by simp [intOf]; omega⟩
        · have hok : Pg.ok x1 = true := by unfold Pg.ok; rw [decide_eq_true_eq]; omega
          obtain ⟨N, hN⟩ : ∃ N : Nat, x1 / 256 = N := ⟨(x1 / 256).toNat, by omega⟩
          have hNl : N < 4352 := by omega
          have htd : x1.tdiv 256 = N := by rw [Int.tdiv_eq_ediv_of_nonneg (by omega)]; exact hN
          have ew : IntKind.i64.wrap (N : Int) = N := by rw [IntKind.wrap_i64]; omega
          have hst := HSTEP.out
          rw [hok, if_pos rfl, hN, Int.toNat_natCast] at hst
          have HST := Lib.hid hst
          have HBLK : Hid (Calls Try.prog 31 #[.slice (some ⟨b, o, none⟩) n c, .int .i64 N] wa fun e w' => ∃ A1 c1, e = .returned (.slice A1 (Pg.nz (Pg.blk f N)).length c1) ∧ w'.ownsRow wa.heap.size 31 2 (.slice A1 (Pg.nz (Pg.blk f N)).length c1) (Pg.nz (Pg.blk f N)).length (C.fl .i64 (Pg.nz (Pg.blk f N))) ∧ Below wa.heap.size wa w') := Lib.hid (by
            rw [← HF.out]
            exact Pg.rblock_any _ n c L N wa HN.out (by omega) (HS.out.below HBELA.out HBELA.out.size) hNl)
          have hb256 := Pg.blk_len f N
          have hnl := Pg.cellsN_len (fun i => (Pg.blk f N).getD i.toNat 0) 256
          obtain ⟨bb, hbb⟩ : ∃ bb, Pg.blk f N = bb := ⟨_, rfl⟩
          rw [hbb] at HBLK HST hb256 hnl
          have hnl2 : (Pg.nz bb).length ≤ 256 := hnl
          obtain ⟨nl, hnle⟩ : ∃ nl, (Pg.nz bb).length = nl := ⟨_, rfl⟩
          rw [hnle] at HBLK hnl2
          have HNL := Lib.hid hnle
          have HB256 := Lib.hid hb256
          clear hok hN hst hbb hnl hnle hb256
          go_wp2_with fail
          refine HBLK.out.mono ?_
          rintro e w5 ⟨A6, c6, rfl, hown6, hb6⟩
          obtain ⟨A3, c3, rfl⟩ := own_form HOWNA.out
          have HOWN5 := Lib.hid (own_below HOWNA.out hb6 (Nat.le_refl _))
          have HSV5 := Lib.hid (HSVA.out.below hb6)
          have HSL6 := Lib.hid (Slt.of_own hown6)
          have HB5 := Lib.hid (HBELA.out.trans (hb6.mono HBELA.out.size))
          clear hown6 hb6 q0 hql htd ew
          go_wp2_with fail
          go_loopw [7, 33] (fun v7 i wq => ∃ q : Nat, q ≤ an ∧ i = .int .i64 q ∧ v7 = .bool (((all.take q).map Pg.nz).any fun y => decide (y = Pg.nz bb)) ∧ Below w5.heap.size w5 wq) (fun _ i _ => an - (intOf i).toNat)
          case atStart => exact ⟨0, Nat.zero_le _, rfl, rfl, Below.refl _ _⟩
          case round =>
            obtain ⟨q, hq, rfl, rfl, hbelq⟩ := hrel
            obtain ⟨wq, rfl⟩ : ∃ wq : World, wq = wr := ⟨_, rfl⟩
            have HBELQ := Lib.hid hbelq
            by_cases hltq : q < an
            · obtain ⟨y, hy⟩ : ∃ y, all[q]? = some y := ⟨_, List.getElem?_eq_getElem (by rw [HAN.out]; exact hltq)⟩
              obtain ⟨ay, hay⟩ : ∃ ay, ads[q]? = some ay := ⟨_, List.getElem?_eq_getElem (by rw [HADS.out]; exact hltq)⟩
              have hvl : (Pg.sv all ads).length = an := by rw [Pg.sv_len _ _ (by rw [HADS.out, HAN.out]), HAN.out]
              obtain ⟨b8, o8, rfl, hb8, hc8⟩ := ((Sl.of_own HOWN5.out).below hbelq hbelq.size) (by rw [hvl]; omega)
              have c8 := hc8 q (by rw [hvl]; exact hltq)
              rw [Pg.sv_get all ads q y ay hy hay] at c8
              have hsy := (HSV5.out.below hbelq) q y ay hy hay
              have hyl : (Pg.nz y).length ≤ 256 := Pg.cellsN_len (fun i => y.getD i.toNat 0) 256
              have hany : ((all.take (q + 1)).map Pg.nz).any (fun z => decide (z = Pg.nz bb)) = (((all.take q).map Pg.nz).any (fun z => decide (z = Pg.nz bb)) || decide (Pg.nz y = Pg.nz bb)) := by rw [List.take_add_one, hy]; simp
              have HANY := Lib.hid hany
              obtain ⟨yl, hyle⟩ : ∃ yl, (Pg.nz y).length = yl := ⟨_, rfl⟩
              rw [hyle] at c8 hyl
              have HAL : Hid (Calls Try.prog 32 #[.slice ay.1 yl ay.2, .slice A6 nl c6] wq fun e w' => e = .returned (.bool (decide (Pg.nz y = Pg.nz bb))) ∧ Below wq.heap.size wq w') := Lib.hid (Pg.alike_any ay.1 A6 yl ay.2 nl c6 _ _ wq hyle HNL.out (by omega) (by omega) hsy.sl (HSL6.out.below hbelq).sl)
              obtain ⟨tb, htb⟩ : ∃ tb, ((all.take q).map Pg.nz).any (fun z => decide (z = Pg.nz bb)) = tb := ⟨_, rfl⟩
              obtain ⟨db, hdb⟩ : ∃ db, decide (Pg.nz y = Pg.nz bb) = db := ⟨_, rfl⟩
              rw [htb, hdb] at HANY
              rw [hdb] at HAL
              rw [htb]
              have hqI : (q : Int) < an := by omega
              have hq0 : (0 : Int) ≤ q := by omega
              clear hy hay hvl hc8 hsy hany hyle htb hdb hbelq
              cases tb
              · have hany2 : ((all.take (q + 1)).map Pg.nz).any (fun z => decide (z = Pg.nz bb)) = db := by rw [HANY.out, Bool.false_or]
                have HANY2 := Lib.hid hany2
                clear hany2
                go_wp2_with fail
                refine HAL.out.mono ?_
                rintro e w6 ⟨rfl, hb6⟩
                have HB6 := Lib.hid (HBELQ.out.trans (hb6.mono HBELQ.out.size))
                clear hb6 c8
                go_wp2_with fail
                exact ⟨⟨q + 1, by omega, by go_num, by rw [HANY2.out], HB6.out⟩, by simp [intOf]; omega⟩
              · have hany2 : ((all.take (q + 1)).map Pg.nz).any (fun z => decide (z = Pg.nz bb)) = true := by rw [HANY.out, Bool.true_or]
                have HANY2 := Lib.hid hany2
                clear hany2
                go_wp2_with fail
                exact ⟨⟨q + 1, by omega, by go_num, by rw [HANY2.out], HBELQ.out⟩, by simp [intOf]; omega⟩
            · obtain rfl : an = q := by omega
              rw [List.take_of_length_le (Nat.le_of_eq HAN.out), Pg.any_nz H256.out HB256.out]
              have HOWNQ := Lib.hid (own_below HOWN5.out hbelq (Nat.le_refl _))
              have HSVQ := Lib.hid (HSV5.out.below hbelq)
              have HSLQ := Lib.hid (HSL6.out.below hbelq)
              have HBQ := Lib.hid (HB5.out.trans (hbelq.mono HB5.out.size))
              clear hbelq hltq
              by_cases hmem : bb ∈ all
              · rw [decide_eq_true hmem]
                have hst := HST.out
                rw [Pg.add_there hmem] at hst
                have HST2 := Lib.hid hst
                clear hst hmem
                go_wp2_with fail
                exact ⟨⟨k + 1, ads, by omega, by go_num, by rw [HST2.out, HAN.out]; exact HADS.out, by rw [HST2.out, HAN.out]; exact HOWNQ.out, by rw [HST2.out]; exact HSVQ.out, HBQ.out⟩, by simp [intOf]; omega⟩
              · rw [decide_eq_false hmem]
                have hst := HST.out
                rw [Pg.add_new hmem] at hst
                have HST2 := Lib.hid hst
                have hnew := Lib.hid (Sl.lit (w := wq.alloc (.cells #[.slice A6 nl c6] 22)) (A := some ⟨wq.heap.size, 0, none⟩) (xs := [.slice A6 nl c6]) rfl 22 (0, 0) (heap_alloc_new wq _))
                have HOWNB := Lib.hid (HOWNQ.out.alloc (.cells #[.slice A6 nl c6] 22))
                have hbn : Below wq.heap.size wq (wq.alloc (.cells #[.slice A6 nl c6] 22)) := (Below.refl _ _).alloc (Nat.le_refl _) _
                have HSVB := Lib.hid (HSVQ.out.below hbn)
                have HSLB := Lib.hid (HSLQ.out.below hbn)
                have hbz := HBQ.out.trans (hbn.mono HBQ.out.size)
                have hsz := hbz.size
                have HBZ := Lib.hid hbz
                clear hst hmem hbn hbz
                go_wp2_with (first | (at_builtin; refine wpList_appendSl _ rfl _ _ _ rfl w.heap.size 22 i0 _ 1 24 Try.underlying80 hi0 hz0 hz1 hz2 rfl (by omega) (.slice A3 an c3) an _ rfl HOWNB.out _ (some ⟨wq.heap.size, 0, none⟩) 1 1 [.slice A6 nl c6] rfl rfl hnew.out (by simp [Value.oneCell']) (by simp only [maxLen]; omega) (by omega) hsz ?_; intro v8 w8 hown8 hb8 hgrow8) | fail)
                refine ⟨⟨k + 1, ads ++ [(A6, c6)], by omega, by go_num, by rw [HST2.out, List.length_append, List.length_append, HADS.out, HAN.out]; rfl, ?_, ?_, HBZ.out.trans hb8⟩, by simp [intOf]; omega⟩
                · rw [HST2.out, List.length_append, HAN.out, Pg.sv_app _ _ _ _ (by rw [HADS.out, HAN.out]), HNL.out]
                  exact hown8
                · rw [HST2.out]
                  have hgr : ∀ q, (Value.slice A3 an c3).ownBlock = some q → ∀ cs z, (wq.alloc (.cells #[.slice A6 nl c6] 22)).heap[q]? ≠ some (.cells cs 31 z) := Rw.own_not HOWNB.out (by decide)
                  exact Pg.Svs.app (fun i b a h1 h2 => (HSVB.out i b a h1 h2).grown hgrow8 hgr) (by rw [HADS.out, HAN.out]) (HSLB.out.grown hgrow8 hgr)
    · obtain rfl : n = k := by omega
      have hres : Pg.cnt f L [Pg.zeros] = all := by
        have h := hall
        rw [List.take_of_length_le (Nat.le_of_eq HN.out)] at h
        exact h
      obtain ⟨A3, c3, rfl⟩ := own_form hown
      have HRES := Lib.hid hres
      clear hads hown hsv hbel h256 hsn hall han hlt hres
      go_wp2_with fail
      go_ret
      exact ⟨ret_int (by rw [HRES.out, HAN.out]), HBEL.out⟩
end Go.Proofs.Ytamcpdggpdaioaa
