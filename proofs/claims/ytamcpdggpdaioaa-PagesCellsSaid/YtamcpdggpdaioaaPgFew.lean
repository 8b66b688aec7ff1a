/- Pages: the law's few cells, by walking its text. -/
import Derived.Test.YtamcpdggpdaioaaPgRef
namespace Go.Proofs.Ytamcpdggpdaioaa
open Go.RowKit
set_option linter.unusedSimpArgs false
set_option linter.unusedVariables false

theorem Pg.and_16 (n : Int) : bits .and .i64 n 65535 = n % 65536 := by
  have hm : (BitVec.ofInt 64 65535).toNat = 2 ^ 16 - 1 := by decide
  have key : (BitVec.ofInt 64 n &&& BitVec.ofInt 64 65535).toNat = (n % ((2 ^ 64 : Nat) : Int)).toNat % 2 ^ 16 := by
    rw [BitVec.toNat_and, BitVec.toNat_ofInt, hm, Nat.and_two_pow_sub_one_eq_mod]
  show IntKind.i64.wrap ((BitVec.ofInt 64 n &&& BitVec.ofInt 64 65535).toNat : Nat) = n % 65536
  rw [key, IntKind.wrap_i64]
  omega
def Pg.fewX (x : Int × Int) : Int × Int := (IntKind.i32.wrap x.1, x.2 % 65536)
def Pg.fewL (L : List (Int × Int)) : List (Int × Int) := (L.take 30).map Pg.fewX
theorem Pg.fewL_len (L : List (Int × Int)) : (Pg.fewL L).length ≤ 30 := by unfold Pg.fewL; simp; omega
theorem Pg.fewL_ok (L : List (Int × Int)) : Pg.cellsOk (Pg.fewL L) := by
  intro x hx
  unfold Pg.fewL at hx
  obtain ⟨y, _, rfl⟩ := List.mem_map.1 hx
  unfold Pg.fewX
  refine ⟨?_, ?_, ?_, ?_⟩
  · show -2147483648 ≤ IntKind.i32.wrap y.1; rw [IntKind.wrap_i32]; omega
  · show IntKind.i32.wrap y.1 ≤ 2147483647; rw [IntKind.wrap_i32]; omega
  · show 0 ≤ y.2 % 65536; omega
  · show y.2 % 65536 ≤ 65535; omega
theorem Pg.own_two {w : World} {base base' : Nat} {e e' : TypeId} {size size' n n' : Nat} {v v' : Value} {xs xs' : List Value} (h : w.ownsRow base e size v n xs) (h' : w.ownsRow base' e' size' v' n' xs') (hne : e ≠ e') : v'.ownBlock = none ∨ v'.ownBlock ≠ v.ownBlock := by
  rcases h'.2 with ⟨rfl, _⟩ | ⟨g, cap, cur, rfl, _, hg, _⟩
  · exact .inl rfl
  · exact .inr fun e => Rw.own_not h hne _ e.symm _ _ hg
theorem Pg.infoRef : (Try.prog.info? 31).map (fun i => (i.zero, i.size, i.bytes)) = some (some (.agg #[.int .i64 0, .int .i64 0]), 2, 16) := by kernel_rfl
def Pg.RetFew (Lx : List (Int × Int)) (w : World) (e : Ending) (w' : World) : Prop :=
  ∃ A1 c1 A2 c2, e = .returned (.tuple #[.slice A1 Lx.length c1, .slice A2 Lx.length c2]) ∧ w'.ownsRow w.heap.size 31 2 (.slice A1 Lx.length c1) Lx.length (C.fl .i64 Lx) ∧ w'.ownsRow w.heap.size 38 2 (.slice A2 Lx.length c2) Lx.length (Pg.fl Lx) ∧ Below w.heap.size w w'

set_option maxRecDepth 100000 in
set_option maxHeartbeats 4000000 in
theorem Pg.few_any (A : Option Addr) (n c : Nat) (L : List (Int × Int)) (w : World) (hn : L.length = n) (hnb : n ≤ maxLen) (h64 : Pg.in64 L) (h : Sl w w.heap.size A (C.fl .i64 L)) :
    Calls Try.prog 8 #[.slice A n c] w (Pg.RetFew (Pg.fewL L) w) := by
  obtain ⟨i0, hi0, hz0, hz1, hz2⟩ := info_parts Pg.infoRef
  obtain ⟨j0, hj0, hy0, hy1, hy2⟩ := info_parts infoCell
  have HS := Lib.hid h
  have HN := Lib.hid hn
  have H64 := Lib.hid h64
  have HLX : Hid (∀ k, k < n → k < 30 → (Pg.fewL L)[k]? = (L[k]?).map Pg.fewX) := Lib.hid (fun k _ h30 => by unfold Pg.fewL; rw [List.getElem?_map, List.getElem?_take, if_pos h30])
  have hm0 : (Pg.fewL L).length = min 30 n := by unfold Pg.fewL; rw [List.length_map, List.length_take, hn]
  obtain ⟨Lx, hLx⟩ : ∃ Lx, Pg.fewL L = Lx := ⟨_, rfl⟩
  obtain ⟨m, hm⟩ : ∃ m, min 30 n = m := ⟨_, rfl⟩
  rw [hLx] at HLX hm0 ⊢
  rw [hm] at hm0
  have HM0 := Lib.hid hm0
  have HM := Lib.hid hm
  simp only [maxLen] at hnb
  clear h hn h64 hLx hm0 hm
  go_enter Try.func8, Try.ntmps8
  go_wp2_with fail
  go_loopw [4, 5, 6] (fun v4 v5 i wr => ∃ k : Nat, k ≤ m ∧ i = .int .i64 k ∧ wr.ownsRow w.heap.size 31 2 v4 k (C.fl .i64 (Lx.take k)) ∧ wr.ownsRow w.heap.size 38 2 v5 k (Pg.fl (Lx.take k)) ∧ Below w.heap.size w wr) (fun _ _ i _ => m - (intOf i).toNat)
  case atStart => exact ⟨0, Nat.zero_le _, rfl, World.ownsRow_nil _ _ _ _, World.ownsRow_nil _ _ _ _, Below.refl _ _⟩
  case round =>
    obtain ⟨k, hk, rfl, hown4, hown5, hbel⟩ := hrel
    have HOWN4 := Lib.hid hown4
    have HOWN5 := Lib.hid hown5
    have HBEL := Lib.hid hbel
    clear hown4 hown5 hbel
    by_cases hlt : k < n
    · by_cases h30 : k < 30
      · have hkm : k < m := by rw [← HM.out]; omega
        obtain ⟨x, hx⟩ : ∃ x, L[k]? = some x := ⟨_, List.getElem?_eq_getElem (by rw [HN.out]; exact hlt)⟩
        obtain ⟨b, o, rfl, hb, c0', c1'⟩ := HS.out.pair hx
        have c0 := ((bcell HBEL.out).1 b (o + k * 2) hb).trans c0'
        have c1 := ((bcell HBEL.out).1 b (o + k * 2 + 1) hb).trans c1'
        have hbr : b < wr.heap.size := Nat.lt_of_lt_of_le hb HBEL.out.size
        have h64 := H64.out x (List.mem_of_getElem? hx)
        have hxk := HLX.out k hlt h30
        rw [hx] at hxk
        have htk : Lx.take (k + 1) = Lx.take k ++ [Pg.fewX x] := by rw [List.take_add_one, hxk]; rfl
        have HTK := Lib.hid htk
        have hkI : (k : Int) < n := by omega
        have hk0 : (0 : Int) ≤ k := by omega
        have hk30 : (k : Int) < 30 := by omega
        have he2 := Pg.and_16 x.2
        obtain ⟨x1, x2⟩ := x
        unfold Pg.fewX at HTK
        dsimp only at *
        obtain ⟨y1, hy1'⟩ : ∃ y, IntKind.i32.wrap x1 = y := ⟨_, rfl⟩
        obtain ⟨y2, hy2'⟩ : ∃ y, x2 % 65536 = y := ⟨_, rfl⟩
        have hyb : -2147483648 ≤ y1 ∧ y1 ≤ 2147483647 := by rw [← hy1', IntKind.wrap_i32]; omega
        have hyc : 0 ≤ y2 ∧ y2 ≤ 65535 := by omega
        have e64 : IntKind.i64.wrap y1 = y1 := by rw [IntKind.wrap_i64]; omega
        have e32 : IntKind.i32.wrap y1 = y1 := by rw [IntKind.wrap_i32]; omega
        have e16 : IntKind.u16.wrap y2 = y2 := by rw [IntKind.wrap_u16]; omega
        rw [hy2'] at he2
        rw [hy1', hy2'] at HTK
        clear hx hxk htk c0' c1' hy2' h64
        go_upto_region 6 with (fail)
        go_region
        obtain ⟨wd, hwd⟩ : ∃ wd, (wr.alloc (.cells #[.int .i64 y1, .int .i64 y2] 31)).drew = wd := ⟨_, rfl⟩
        have hbd : Below wr.heap.size wr wd := by rw [← hwd]; exact ((Below.refl _ _).alloc (Nat.le_refl _) _).drew
        have hatd : Rw.At wd wr.heap.size 31 [.int .i64 y1, .int .i64 y2] := by rw [← hwd]; exact Rw.At.new wr 31 [.int .i64 y1, .int .i64 y2]
        have hown4 := own_below HOWN4.out hbd (Nat.le_refl _)
        have hown5 := own_below HOWN5.out hbd (Nat.le_refl _)
        have hbwd := HBEL.out.trans (hbd.mono HBEL.out.size)
        rw [hwd]
        have hlt4 := fun q hq => (HOWN4.out.lt q hq).2
        have HLT4 := Lib.hid hlt4
        have z0 := hatd.cell 0 rfl
        have z1 := hatd.cell 1 rfl
        have hzl := hatd.lt
        have hszd := hbwd.size
        have hnew := Lib.hid (Sl.lit (w := wd.alloc (.cells #[.int .i64 y1, .int .i64 y2] 31)) (A := some ⟨wd.heap.size, 0, none⟩) (xs := [.int .i64 y1, .int .i64 y2]) rfl 31 (0, 0) (heap_alloc_new wd _))
        have HATA := Lib.hid (hatd.alloc (.cells #[.int .i64 y1, .int .i64 y2] 31))
        have HOWN4A := Lib.hid (hown4.alloc (.cells #[.int .i64 y1, .int .i64 y2] 31))
        have HOWN5A := Lib.hid (hown5.alloc (.cells #[.int .i64 y1, .int .i64 y2] 31))
        have hbz : Below w.heap.size w (wd.alloc (.cells #[.int .i64 y1, .int .i64 y2] 31)) := hbwd.alloc hszd _
        have HBZ := Lib.hid hbz
        have hsz := hbz.size
        have hkb : (k + 1) * 16 ≤ 140737488355328 := by omega
        clear c0 c1 hwd hbd hatd hown4 hown5 hbwd hlt4 hbz he2
        go_upto_region 8 with (first | (at_builtin; refine wpList_appendSl _ rfl _ _ _ rfl w.heap.size 31 i0 _ 2 16 Try.underlying22 hi0 hz0 hz1 hz2 rfl (by omega) u4 k _ rfl HOWN4A.out _ (some ⟨wd.heap.size, 0, none⟩) 1 1 [.int .i64 y1, .int .i64 y2] rfl rfl hnew.out (by simp [Value.oneCell']) (by simp only [maxLen]; omega) (by omega) hsz ?_; intro v6 w6 hown6 hb6 hgrow) | fail)
        have hat6 := HATA.out.grown hgrow (fun e => Nat.lt_irrefl _ (HLT4.out _ e))
        have hown56 := HOWN5A.out.kept hgrow (Pg.own_two HOWN4A.out HOWN5A.out (by decide))
        have y0 := hat6.cell 0 rfl
        have y1' := hat6.cell 1 rfl
        have hl6 := hat6.lt
        have hb6' := HBZ.out.trans hb6
        have hsz6 := hb6'.size
        have hnew6 := Lib.hid (Sl.lit (w := w6.alloc (.cells #[.int .i32 y1, .int .u16 y2] 38)) (A := some ⟨w6.heap.size, 0, none⟩) (xs := [.int .i32 y1, .int .u16 y2]) rfl 38 (0, 0) (heap_alloc_new w6 _))
        have HOWN5B := Lib.hid (hown56.alloc (.cells #[.int .i32 y1, .int .u16 y2] 38))
        have HOWN4B := Lib.hid (hown6.alloc (.cells #[.int .i32 y1, .int .u16 y2] 38))
        have hbz6 := hb6'.alloc hsz6 (.cells #[.int .i32 y1, .int .u16 y2] 38)
        have hszz := hbz6.size
        have HB6 := Lib.hid hbz6
        clear hat6 hown56 hown6 hb6 hgrow hb6' hbz6 z0 z1
        go_wp2_with (first | (at_builtin; refine wpList_appendSl _ rfl _ _ _ rfl w.heap.size 38 j0 _ 2 8 Try.underlying24 hj0 hy0 hy1 hy2 rfl (by omega) u5 k _ rfl HOWN5B.out _ (some ⟨w6.heap.size, 0, none⟩) 1 1 [.int .i32 y1, .int .u16 y2] rfl rfl hnew6.out (by simp [Value.oneCell']) (by simp only [maxLen]; omega) (by omega) hszz ?_; intro v8 w8 hown8 hb8 hgrow8) | fail)
        refine ⟨⟨k + 1, by omega, by go_num, ?_, ?_, HB6.out.trans hb8⟩, by simp [intOf]; omega⟩
        · rw [HTK.out, C.fl_app]
          exact HOWN4B.out.kept hgrow8 (Pg.own_two HOWN5B.out HOWN4B.out (by decide))
        · rw [HTK.out, Pg.fl_app]
          exact hown8
      · have hk30 : k = 30 := by have := HM.out; omega
        have hmk : m = k := by have := HM.out; omega
        obtain ⟨A4, c4, rfl⟩ := own_form HOWN4.out
        obtain ⟨A5, c5, rfl⟩ := own_form HOWN5.out
        have hkI : (k : Int) < n := by omega
        have hk0 : (0 : Int) ≤ k := by omega
        have hk31 : ¬ (k : Int) < 30 := by omega
        have HMK := Lib.hid hmk
        clear hk30 hmk h30
        go_wp2_with fail
        go_ret2
        have hmk := HMK.out
        subst hmk
        have hl := HM0.out
        have h4 := HOWN4.out
        have h5 := HOWN5.out
        rw [List.take_of_length_le (Nat.le_of_eq hl)] at h4 h5
        unfold Pg.RetFew
        rw [hl]
        exact ⟨A4, c4, A5, c5, rfl, h4, h5, HBEL.out⟩
    · have hmk : m = k := by have := HM.out; omega
      obtain ⟨A4, c4, rfl⟩ := own_form HOWN4.out
      obtain ⟨A5, c5, rfl⟩ := own_form HOWN5.out
      have hkI : ¬ (k : Int) < n := by omega
      have HMK := Lib.hid hmk
      clear hmk hlt
      go_wp2_with fail
      go_ret2
      have hmk := HMK.out
      subst hmk
      have hl := HM0.out
      have h4 := HOWN4.out
      have h5 := HOWN5.out
      rw [List.take_of_length_le (Nat.le_of_eq hl)] at h4 h5
      unfold Pg.RetFew
      rw [hl]
      exact ⟨A4, c4, A5, c5, rfl, h4, h5, HBEL.out⟩
end Go.Proofs.Ytamcpdggpdaioaa
