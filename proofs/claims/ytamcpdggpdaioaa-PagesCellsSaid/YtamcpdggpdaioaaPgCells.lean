/- Pages: Cells, by walking its text. -/
import Derived.Test.YtamcpdggpdaioaaPgLoad
namespace Go.Proofs.Ytamcpdggpdaioaa
open Go.RowKit
set_option linter.unusedSimpArgs false
set_option linter.unusedVariables false

set_option maxRecDepth 100000 in
set_option maxHeartbeats 4000000 in
theorem Pg.cells_any (v : Value) (f : Int → Int) (w : World) (h : Pg.Of w v f) :
    Calls Try.prog 12 #[v] w fun e w' => ∃ A c, e = .returned (.slice A (Pg.cellsN f 1114112).length c) ∧ w'.ownsRow w.heap.size 38 2 (.slice A (Pg.cellsN f 1114112).length c) (Pg.cellsN f 1114112).length (Pg.fl (Pg.cellsN f 1114112)) ∧ Below w.heap.size w w' := by
  obtain ⟨g, A, cp, rfl, hat, hs⟩ := h
  obtain ⟨LL, hLL⟩ : ∃ LL, Pg.cellsN f 1114112 = LL := ⟨_, rfl⟩
  rw [hLL]
  have HLL := Lib.hid hLL
  clear hLL
  obtain ⟨i0, hi0, hz0, hz1, hz2⟩ := info_parts infoCell
  obtain ⟨arr, harr⟩ : ∃ arr, (Pg.idx f 4352).map (Value.int .u16) = arr := ⟨_, rfl⟩
  have hal : arr.length = 4352 := by rw [← harr, List.length_map, Pg.idx_len]
  rw [harr] at hat
  have hld : (Instr.loadAt 75 (.pointer (some ⟨g, 0, none⟩))).run Try.prog w = .ok (.agg arr.toArray) w :=
    Pg.run_load w _ _ g 0 4352 arr hal (fun j u hu => by rw [Nat.zero_add]; exact Pg.cell_at hat hu) Try.underlying75 rfl Pg.infoIdx
  have hbl := Pg.bls_len f 4352
  have hfl := Pg.flat_len _ (Pg.bls_len256 f 4352)
  obtain ⟨bn, hbn⟩ : ∃ bn, (Pg.bls f 4352).length = bn := ⟨_, rfl⟩
  rw [hbn] at hat hbl hfl
  have HLD := Lib.hid hld
  have HAL := Lib.hid hal
  have HARR := Lib.hid harr
  have HAT := Lib.hid hat
  have HS := Lib.hid hs
  have HFLN := Lib.hid hfl
  have HBN := Lib.hid hbn
  clear hld hal harr hat hs hfl hbn
  go_enter Try.func12, Try.ntmps12
  go_wp2_with (first | (refine Pg.wpList_load rfl 75 _ rfl _ _ rfl HLD.out ?_) | fail)
  go_loopw [3, 12] (fun v3 i wr => ∃ (k : Nat) (u : Value), k ≤ 4352 ∧ i = .int .i64 k ∧ v3 = u ∧ wr.ownsRow w.heap.size 38 2 u (Pg.cellsN f (256 * k)).length (Pg.fl (Pg.cellsN f (256 * k))) ∧ Below w.heap.size w wr) (fun _ i _ => 4352 - (intOf i).toNat)
  case atStart => exact ⟨0, _, Nat.zero_le _, rfl, rfl, World.ownsRow_nil _ _ _ _, Below.refl _ _⟩
  case round =>
    obtain ⟨k, u, hk, rfl, rfl, hown, hbel⟩ := hrel
    by_cases hlt : k < 4352
    · have hmem := (Pg.bls_mem f 4352 (Pg.blk f k)).2 (.inr ⟨k, hlt, rfl⟩)
      have hix := Pg.idx_get f 4352 hlt
      have hp1 := Pg.at_lt hmem
      have hp2 := Pg.at_get hmem
      obtain ⟨p, hp⟩ : ∃ p, Pg.at (Pg.bls f 4352) (Pg.blk f k) = p := ⟨_, rfl⟩
      rw [hp] at hix hp1 hp2
      rw [HBN.out] at hp1
      have hak : arr[k]? = some (.int .u16 p) := by rw [← HARR.out, List.getElem?_map, hix]; rfl
      have hat := HAT.out.below hbel
      have kI : (k : Int) < 4352 := by omega
      have k0 : (0 : Int) ≤ k := by omega
      have HOWN := Lib.hid hown
      have HBEL := Lib.hid hbel
      have HMEM := Lib.hid hmem
      have HP := Lib.hid hp
      have HP2 := Lib.hid hp2
      have hgl := hat.lt
      have z1 := Pg.cell_last hat (n := 4352) HAL.out
      clear hown hbel hmem hp hp2 hix hat
      have hri : (Instr.index 75 (.agg arr.toArray) (.int .i64 k)).run Try.prog wr = .ok (.int .u16 p) wr :=
        Pg.run_index wr _ 32 .u16 4352 k arr _ Try.underlying75 Try.underlying32 (Try.sizeOf32 wr) hlt hak
      rcases hd : ((p : Int) == 0) with _ | _
      · obtain ⟨barr, hbarr⟩ : ∃ barr, (Pg.blk f k).map (Value.int .u16) = barr := ⟨_, rfl⟩
        have hbl256 : barr.length = 256 := by rw [← hbarr, List.length_map, Pg.blk_len]
        obtain ⟨b, o, rfl, hb, hcc⟩ := HS.out (by rw [List.length_map, HFLN.out]; omega)
        have hld2 : (Instr.loadAt 73 (.pointer (some ⟨b, o + p * 256, none⟩))).run Try.prog wr = .ok (.agg barr.toArray) wr := by
          refine Pg.run_load wr _ _ b (o + p * 256) 256 barr hbl256 (fun j u hu => ?_) Try.underlying73 rfl Pg.infoBlk
          have hj : j < 256 := by rw [← hbl256]; exact (List.getElem?_eq_some_iff.1 hu).1
          have hcj := hcc (p * 256 + j) (by rw [List.length_map, HFLN.out]; omega)
          rw [List.getElem?_map, Pg.flat_get _ p j _ (Pg.bls_len256 f 4352) HP2.out hj, ← List.getElem?_map, hbarr, hu] at hcj
          rw [Nat.add_assoc, (bcell HBEL.out).1 _ _ hb]
          exact hcj
        have HLD2 := Lib.hid hld2
        have HBARR := Lib.hid hbarr
        have pI : (p : Int) < bn := by omega
        have p0 : (0 : Int) ≤ p := by omega
        clear hld2 hbarr hcc
        go_wp2_with (first | (refine Pg.wpList_load rfl 73 _ rfl _ _ rfl HLD2.out ?_) | fail)
        clear hri z1 pI p0 hd
        go_loopw [3, 25] (fun v3 i wq => ∃ (j : Nat) (u : Value), j ≤ 256 ∧ i = .int .i64 j ∧ v3 = u ∧ wq.ownsRow w.heap.size 38 2 u (Pg.cellsN f (256 * k + j)).length (Pg.fl (Pg.cellsN f (256 * k + j))) ∧ Below w.heap.size w wq) (fun _ i _ => 256 - (intOf i).toNat)
        case atStart => exact ⟨0, _, Nat.zero_le _, rfl, rfl, HOWN.out, HBEL.out⟩
        case round =>
          obtain ⟨j, u, hj, rfl, rfl, hownq, hbelq⟩ := hrel
          obtain ⟨wq, rfl⟩ : ∃ wq : World, wq = wr := ⟨_, rfl⟩
          have HOWNQ := Lib.hid hownq
          have HBELQ := Lib.hid hbelq
          clear hownq hbelq
          by_cases hlt2 : j < 256
          · have hbj : barr[j]? = some (.int .u16 (f (256 * (k : Int) + (j : Int)))) := by rw [← HBARR.out, List.getElem?_map, Pg.blk_get f k hlt2]; rfl
            obtain ⟨x, hx⟩ : ∃ x, f (256 * (k : Int) + (j : Int)) = x := ⟨_, rfl⟩
            rw [hx] at hbj
            have hri : (Instr.index 73 (.agg barr.toArray) (.int .i64 j)).run Try.prog wq = .ok (.int .u16 x) wq :=
              Pg.run_index wq _ 32 .u16 256 j barr _ Try.underlying73 Try.underlying32 (Try.sizeOf32 wq) hlt2 hbj
            have jI : (j : Int) < 256 := by omega
            have j0 : (0 : Int) ≤ j := by omega
            have hcast : ((256 * k + j : Nat) : Int) = 256 * (k : Int) + (j : Int) := by omega
            have hnx : Pg.cellsN f (256 * k + (j + 1)) = Pg.cellsN f (256 * k + j) ++ (if x = 0 then [] else [(256 * (k : Int) + (j : Int), x)]) := by
              rw [← Nat.add_assoc, Pg.cellsN_succ, hcast, hx]
            have hln := Pg.cellsN_len f (256 * k + j)
            have HNX := Lib.hid hnx
            clear hbj hcast hnx hx
            rcases hd : (x != 0) with _ | _
            · have hx0 : x = 0 := by simpa using hd
              have hnx2 := HNX.out
              rw [if_pos hx0, List.append_nil] at hnx2
              have HNX2 := Lib.hid hnx2
              clear hnx2 hx0
              go_wp2_with fail
              exact ⟨⟨j + 1, _, by omega, by go_num, rfl, by rw [HNX2.out]; exact HOWNQ.out, HBELQ.out⟩, by simp [intOf]; omega⟩
            · have hx0 : x ≠ 0 := by simpa using hd
              have hnx2 := HNX.out
              rw [if_neg hx0] at hnx2
              have HNX2 := Lib.hid hnx2
              obtain ⟨ln, hlne⟩ : ∃ ln, (Pg.cellsN f (256 * k + j)).length = ln := ⟨_, rfl⟩
              have HLN := Lib.hid hlne
              rw [hlne] at HOWNQ hln
              have hnew := Lib.hid (Sl.lit (w := wq.alloc (.cells #[.int .i32 (256 * (k : Int) + (j : Int)), .int .u16 x] 38)) (A := some ⟨wq.heap.size, 0, none⟩) (xs := [.int .i32 (256 * (k : Int) + (j : Int)), .int .u16 x]) rfl 38 (0, 0) (heap_alloc_new wq _))
              have hbz : Below wq.heap.size wq (wq.alloc (.cells #[.int .i32 (256 * (k : Int) + (j : Int)), .int .u16 x] 38)) := (Below.refl _ _).alloc (Nat.le_refl _) _
              have HOWNA := Lib.hid (HOWNQ.out.alloc (.cells #[.int .i32 (256 * (k : Int) + (j : Int)), .int .u16 x] 38))
              have hsz : w.heap.size ≤ (wq.alloc (.cells #[.int .i32 (256 * (k : Int) + (j : Int)), .int .u16 x] 38)).heap.size := Nat.le_trans HBELQ.out.size hbz.size
              have HBZ := Lib.hid (HBELQ.out.trans (hbz.mono HBELQ.out.size))
              have e0 : IntKind.i64.wrap ((k : Int) * 256) = (k : Int) * 256 := by rw [IntKind.wrap_i64]; omega
              have e1 := Pg.or_8 k j hlt hlt2
              have e2 : IntKind.i32.wrap (256 * (k : Int) + (j : Int)) = 256 * (k : Int) + (j : Int) := by rw [IntKind.wrap_i32]; omega
              clear hnx2 hlne hbz hx0
              go_wp2_with (first | (at_builtin; refine wpList_appendSl _ rfl _ _ _ rfl w.heap.size 38 i0 _ 2 8 Try.underlying24 hi0 hz0 hz1 hz2 rfl (by omega) u3 ln _ rfl HOWNA.out _ (some ⟨wq.heap.size, 0, none⟩) 1 1 [.int .i32 (256 * (k : Int) + (j : Int)), .int .u16 x] rfl rfl hnew.out (by simp [Value.oneCell']) (by simp only [maxLen]; omega) (by omega) hsz ?_; intro v1 w6 hown6 hb6 hgrow) | fail)
              exact ⟨⟨j + 1, _, by omega, by go_num, rfl, by rw [HNX2.out, List.length_append, HLN.out, Pg.fl_app]; exact hown6, HBZ.out.trans hb6⟩, by simp [intOf]; omega⟩
          · obtain rfl : j = 256 := by omega
            clear hlt2
            go_wp2_with fail
            exact ⟨⟨k + 1, _, by omega, by go_num, rfl, by rw [show 256 * (k + 1) = 256 * k + 256 by omega]; exact HOWNQ.out, HBELQ.out⟩, by simp [intOf]; omega⟩
      · have hp0 : p = 0 := by have := beq_iff_eq.1 hd; omega
        subst hp0
        have hbz := Pg.at_zero HMEM.out HP.out
        have hnx : Pg.cellsN f (256 * (k + 1)) = Pg.cellsN f (256 * k) := by
          rw [show 256 * (k + 1) = 256 * k + 256 by omega]
          refine Pg.cellsN_skip f (256 * k) 256 fun i hi => ?_
          have := Pg.blk_zero hbz hi
          rw [← this]
          congr 1
        have HNX := Lib.hid hnx
        clear hbz hnx
        go_wp2_with fail
        exact ⟨⟨k + 1, _, by omega, by go_num, rfl, by rw [HNX.out]; exact HOWN.out, HBEL.out⟩, by simp [intOf]; omega⟩
    · obtain rfl : k = 4352 := by omega
      rw [show 256 * 4352 = 1114112 from rfl, HLL.out] at hown
      obtain ⟨A2, c2, rfl⟩ := own_form hown
      have HOWN := Lib.hid hown
      have HBEL := Lib.hid hbel
      clear hown hbel
      go_wp2_with fail
      go_ret
      exact ⟨A2, c2, rfl, HOWN.out, HBEL.out⟩
end Go.Proofs.Ytamcpdggpdaioaa
