/- The layer rows: Line, by walking its text. -/
import Derived.Test.YtppmcnpjglackaaGreatDoorRwLine
import Derived.Test.YtppmcnpjglackaaGreatDoorJoin
import Derived.Test.YtppmcnpjglackaaGreatDoorRpPlain
import Derived.Test.YtppmcnpjglackaaGreatDoorRwRLine
import Derived.Deep.DeepCutAuto
import Derived.Deep.RegionWith
namespace Go.Proofs.YtppmcnpjglackaaGreatDoor
open Go.RowKit
set_option linter.unusedSimpArgs false
set_option linter.unusedVariables false

theorem Rw.ba_size' (l : List UInt8) : (⟨l.toArray⟩ : ByteArray).size = l.length := by show l.toArray.size = _; simp
theorem Rw.itoa_pos (k : Int) (h : 0 ≤ k) : Lib.itoa k = Lib.decDigits k.toNat := by
  unfold Lib.itoa
  rw [if_neg (by omega)]
theorem Rw.hex_call (c : Int) (h0 : 0 ≤ c) (h1 : c < 16777216) (w : World) (hL : Rw.Laid w) :
    Calls Tryz.prog 21 #[.int .i32 c] w fun e w' => e = .returned (.string ⟨(Fi.text c.toNat).toArray⟩) ∧ Below w.heap.size w w' := by
  obtain ⟨n, rfl⟩ : ∃ n : Nat, c = n := ⟨c.toNat, by omega⟩
  rw [Int.toNat_natCast]
  exact Fi.text_any n (by omega) w hL.1
theorem Rw.itoa_call (k : Int) (h0 : 0 ≤ k) (h1 : k ≤ 1000000000) (w : World) (hL : Rw.Laid w) :
    Calls Tryz.prog 22 #[.int .i64 k] w fun e w' => e = .returned (.string ⟨(Lib.decDigits k.toNat).toArray⟩) ∧ Below w.heap.size w w' := by
  rw [← Rw.itoa_pos k h0]
  exact Fi.itoa_any k (by omega) (by omega) w hL.2
def Rw.e : Value := .string ⟨#[]⟩
def Rw.cellsF (x0 x3 x5 : ByteArray) : List Value := [.string x0, .string ⟨#[88]⟩, .string ⟨#[]⟩, .string x3, .string ⟨#[]⟩, .string x5, .string ⟨#[]⟩, .string ⟨#[]⟩, .string ⟨#[]⟩, .string ⟨#[]⟩, .string ⟨#[]⟩, .string ⟨#[]⟩, .string ⟨#[]⟩, .string ⟨#[]⟩, .string ⟨#[]⟩]

def Rw.strF (x0 x3 x5 : ByteArray) : List ByteArray := [x0, ⟨#[88]⟩, ⟨#[]⟩, x3, ⟨#[]⟩, x5, ⟨#[]⟩, ⟨#[]⟩, ⟨#[]⟩, ⟨#[]⟩, ⟨#[]⟩, ⟨#[]⟩, ⟨#[]⟩, ⟨#[]⟩, ⟨#[]⟩]
theorem Rw.strF_size (x0 x3 x5 : ByteArray) (h0 : x0.size ≤ 10000) (h3 : x3.size ≤ 10000) (h5 : x5.size ≤ 10000) : ∀ x ∈ Rw.strF x0 x3 x5, x.size ≤ 10000 := by
  intro x hx
  have he : (⟨#[]⟩ : ByteArray).size = 0 := rfl
  have h88 : (⟨#[88]⟩ : ByteArray).size = 1 := rfl
  unfold Rw.strF at hx
  simp only [List.mem_cons, List.not_mem_nil, or_false] at hx
  rcases hx with rfl | rfl | rfl | rfl | rfl | rfl | rfl | rfl | rfl | rfl | rfl | rfl | rfl | rfl | rfl <;> omega
theorem Rw.join_glue (c : UInt8) : ∀ l : List (List UInt8), Lib.join l [c] = Fi.glue c l
  | [] => by rw [Lib.join_nil]; rfl
  | x :: r => by
    rw [Lib.join_cons]
    rfl
theorem Rw.join_line (c k : Int) (m : List Int) : Lib.join ((Rw.strF ⟨(Fi.text c.toNat).toArray⟩ ⟨(Lib.decDigits k.toNat).toArray⟩ ⟨(Rw.mtext m).toArray⟩).map (·.data.toList)) [59] = Rw.line (c, k, m) := by
  rw [Rw.join_glue]
  unfold Rw.strF Rw.line Rw.mtext
  simp [Fi.glue]
theorem Rw.mtext_le (m : List Int) (hm : m.length ≤ 2) (hc : ∀ x ∈ m, 0 ≤ x ∧ x ≤ 1114111) : (Rw.mtext m).length ≤ 10000 := by
  unfold Rw.mtext
  rcases m with _ | ⟨a, _ | ⟨b, _ | ⟨d, t⟩⟩⟩
  · simp [Fi.glue]
  · have := Fi.text_le a.toNat (by have := (hc a (by simp)).2; omega)
    simp [Fi.glue]; omega
  · have h1 := Fi.text_le a.toNat (by have := (hc a (by simp)).2; omega)
    have h2 := Fi.text_le b.toNat (by have := (hc b (by simp)).2; omega)
    simp [Fi.glue]; omega
  · simp at hm
def Rw.cells0 : List Value := [.string ByteArray.empty, .string ByteArray.empty, .string ByteArray.empty, .string ByteArray.empty, .string ByteArray.empty, .string ByteArray.empty, .string ByteArray.empty, .string ByteArray.empty, .string ByteArray.empty, .string ByteArray.empty, .string ByteArray.empty, .string ByteArray.empty, .string ByteArray.empty, .string ByteArray.empty, .string ByteArray.empty]
theorem Rw.make15 (w : World) : (Instr.makeSlice 53 (.int .i64 15) (.int .i64 15)).run Tryz.prog w = .ok (.slice (some ⟨w.heap.size, 0, none⟩) 15 15) (w.alloc (.cells Rw.cells0.toArray 9)) := by kernel_rfl

set_option maxRecDepth 100000 in
set_option maxHeartbeats 4000000 in
theorem Rw.pline_any (c k : Int) (A : Option Addr) (m : List Int) (n cp B : Nat) (w : World) (c0 : 0 ≤ c) (c1 : c ≤ 1114111) (k0 : 0 ≤ k) (k1 : k ≤ 254) (hn : m.length = n) (hm : n ≤ 2) (hmb : ∀ x ∈ m, 0 ≤ x ∧ x ≤ 1114111)
    (hB : B ≤ w.heap.size) (hA : Sl w B A (m.map (Value.int .i32))) (hL : Rw.Laid w) :
    Calls Tryz.prog 7 #[.agg #[.int .i32 c, .int .i64 k, .slice A n cp]] w fun e w' => e = .returned (.string ⟨(Rw.line (c, k, m)).toArray⟩) ∧ Below w.heap.size w w' := by
  have hX := Rw.hex_call c c0 (by omega)
  have hK := Rw.itoa_call k k0 (by omega)
  obtain ⟨x0, hx0⟩ : ∃ x : ByteArray, ⟨(Fi.text c.toNat).toArray⟩ = x := ⟨_, rfl⟩
  obtain ⟨x3, hx3⟩ : ∃ x : ByteArray, ⟨(Lib.decDigits k.toNat).toArray⟩ = x := ⟨_, rfl⟩
  simp only [hx0] at hX
  simp only [hx3] at hK
  have HX0 := Lib.hid hx0
  have HX3 := Lib.hid hx3
  have HN := Lib.hid hn
  have HMB := Lib.hid hmb
  clear hx0 hx3 hn hmb
  have hmk := Rw.make15
  go_enter Tryz.func7, Tryz.ntmps7
  go_upto_region 2 with (fail)
  obtain ⟨wa, hwa⟩ : ∃ wa, (w.alloc (.cells #[.int .i32 c, .int .i64 k, .slice A n cp] 31)).alloc (.cells Rw.cells0.toArray 9) = wa := ⟨_, rfl⟩
  have hz : w.heap.size + 1 < wa.heap.size := by rw [← hwa]; simp
  have hbelA : Below w.heap.size w wa := by rw [← hwa]; exact ((Below.refl _ _).alloc (Nat.le_refl _) _).alloc (by simp) _
  have hatR : Rw.At wa w.heap.size 31 [.int .i32 c, .int .i64 k, .slice A n cp] := by rw [← hwa]; exact (Rw.At.new w 31 [.int .i32 c, .int .i64 k, .slice A n cp]).alloc _
  have hatF : Rw.At wa (w.heap.size + 1) 9 Rw.cells0 := by
    have h := Rw.At.new (w.alloc (.cells #[.int .i32 c, .int .i64 k, .slice A n cp] 31)) 9 Rw.cells0
    rw [World.size_alloc] at h
    rw [← hwa]
    exact h
  have hLa := hL.next hbelA
  first
    | rw [hwa]
    | (show Code.wp _ _ _ _ ((w.alloc (.cells #[.int .i32 c, .int .i64 k, .slice A n cp] 31)).alloc (.cells Rw.cells0.toArray 9)); rw [hwa])
  clear hwa
  obtain ⟨d1, d2, d3, _, _, _⟩ := hatR.three
  go_cut [] (fun wx => Rw.At wx (w.heap.size + 1) 9 (Rw.cellsF x0 x3 ⟨#[]⟩) ∧ Below (w.heap.size + 1) wa wx)
  case first =>
    have hLd : Rw.Laid wa.drew := hLa.next (Below.refl _ _).drew
    have hz0 : w.heap.size < wa.heap.size := by omega
    go_region_with (first
      | (go_at_call 21; refine (hX _ hLd).mono ?_; rintro e wq ⟨rfl, hbq⟩; have hbX : Below wa.heap.size wa wq := ((Below.refl _ _).drew).trans hbq; have hd2 : wq.cell? ⟨w.heap.size, 1, none⟩ = some (.int .i64 k) := ((bcell hbX).1 _ _ hz0).trans d2; have hLq := hLa.next hbX)
      | (go_at_call 22; refine (hK _ hLq).mono ?_; rintro e wz ⟨rfl, hbz⟩; have hbZ : Below wa.heap.size wa wz := hbX.trans (hbz.mono hbX.size); have hatZ := hatF.below' hbZ hz; have y0 := hatZ.cell 0 rfl; have y1 := hatZ.cell 1 rfl; have y3 := hatZ.cell 3 rfl; have g0 := hatZ.frozen 0; have g1 := hatZ.frozen 1; have g3 := hatZ.frozen 3)
      | fail)
    all_goals
      go_wp2_with fail
      go_meet
      exact ⟨((hatZ.set 0 (.string x0)).set 1 (.string ⟨#[88]⟩)).set 3 (.string x3), (((hbZ.mono (Nat.le_of_lt hz)).setCell (p := ⟨w.heap.size + 1, 0, none⟩) (Nat.le_refl _) _).setCell (p := ⟨w.heap.size + 1, 1, none⟩) (Nat.le_refl _) _).setCell (p := ⟨w.heap.size + 1, 3, none⟩) (Nat.le_refl _) _⟩
  case rest =>
    obtain ⟨hatX, hbX⟩ := hcut
    obtain ⟨wx, rfl⟩ : ∃ wx : World, wx = wc := ⟨_, rfl⟩
    have hatRX := hatR.below' hbX (Nat.lt_succ_self _)
    obtain ⟨f1, f2, f3, _, _, _⟩ := hatRX.three
    have hAX : Sl wx B A (m.map (Value.int .i32)) := (hA.below (hbelA.mono hB) (Nat.le_refl _)).below (hbX.mono (show B ≤ w.heap.size + 1 by omega)) (Nat.le_refl _)
    have hLx : Rw.Laid wx := hL.next (hbelA.trans (hbX.mono (Nat.le_succ _)))
    have hzx : w.heap.size + 1 < wx.heap.size := hatX.lt
    have HBX := Lib.hid (hbelA.trans (hbX.mono (Nat.le_succ _)))
    clear d1 d2 d3 hatR hatF hbelA hLa hX hK hatRX hbX f1 f2
    obtain ⟨i0, hi, hi0, hi1, hi2⟩ := info_parts Rw.infoStr
    have HAX := Lib.hid hAX
    have HL0 := Lib.hid hL
    have HLx := Lib.hid hLx
    have HFX := Lib.hid hatX
    clear hAX hLx hA hL hatX
    go_wp2_with fail
    go_loopw [4, 6, 23] (fun v _ i wr => ∃ j : Nat, j ≤ n ∧ i = .int .i64 j ∧ wr.ownsRow (w.heap.size + 2) 9 1 v j ((m.take j).map fun x => Value.string ⟨(Fi.text x.toNat).toArray⟩) ∧ Below (w.heap.size + 2) wx wr) (fun _ _ i _ => n - (intOf i).toNat)
    case atStart => exact ⟨0, Nat.zero_le _, rfl, World.ownsRow_nil _ _ _ _, Below.refl _ _⟩
    case round =>
      obtain ⟨j, hj, rfl, hown, hbel⟩ := hrel
      have hzr : w.heap.size + 2 ≤ wr.heap.size := Nat.le_trans hzx hbel.size
      have hLr : Rw.Laid wr := HL0.out.next (HBX.out.trans (hbel.mono (by omega)))
      by_cases hlt : j < n
      · obtain ⟨x, hx⟩ : ∃ x, m[j]? = some x := ⟨_, List.getElem?_eq_getElem (by rw [HN.out]; exact hlt)⟩
        have hxb := HMB.out x (List.mem_of_getElem? hx)
        obtain ⟨ab, ao, rfl, hab, hac⟩ := HAX.out (by rw [List.length_map, HN.out]; omega)
        have hc := hac j (by rw [List.length_map, HN.out]; exact hlt)
        rw [List.getElem?_map, hx, Option.map_some, ← (bcell hbel).1 _ _ (by omega)] at hc
        have hT := Rw.hex_call x hxb.1 (by omega) wr hLr
        have hnext : (m.take (j + 1)).map (fun x => Value.string ⟨(Fi.text x.toNat).toArray⟩) = (m.take j).map (fun x => Value.string ⟨(Fi.text x.toNat).toArray⟩) ++ [Value.string ⟨(Fi.text x.toNat).toArray⟩] := by
          rw [List.take_add_one, hx]; simp
        obtain ⟨tx, htx⟩ : ∃ y : ByteArray, ⟨(Fi.text x.toNat).toArray⟩ = y := ⟨_, rfl⟩
        rw [htx] at hnext
        simp only [htx] at hT
        have jI : (j : Int) < n := by omega
        have HNX := Lib.hid hnext
        have HBEL := Lib.hid hbel
        have HOWN := Lib.hid hown
        clear hnext hbel hown hx hac htx
        go_wp2_with fail
        refine hT.mono ?_
        rintro e w3 ⟨rfl, hb3⟩
        have hown3 := own_below HOWN.out hb3 (Nat.le_refl _)
        have HB3 := Lib.hid (HBEL.out.trans (hb3.mono hzr))
        have hz3 : w.heap.size + 2 ≤ w3.heap.size := Nat.le_trans hzr hb3.size
        clear hb3 hT
        go_wp2_with (first | (at_builtin; refine wpList_push1 _ rfl _ _ _ rfl (w.heap.size + 2) 9 i0 _ 16 Tryz.underlying53 hi hi0 hi1 hi2 rfl _ j _ rfl hown3 _ rfl rfl (by simp only [maxLen]; omega) (by omega) hz3 ?_; intro v1 w4 hown4 hb4) | fail)
        exact ⟨⟨j + 1, by omega, by go_num, by rw [HNX.out]; exact hown4, HB3.out.trans hb4⟩, by simp [intOf]; omega⟩
      · obtain rfl : j = n := by omega
        have jI : ¬ (j : Int) < j := by omega
        rw [List.take_of_length_le (by rw [HN.out]; exact Nat.le_refl _)] at hown
        obtain ⟨A4, c4, rfl⟩ := own_form hown
        have hS4 := Sl.of_own hown
        have hcap : j ≤ c4 := by
          rcases hown.2 with ⟨hv, h0⟩ | ⟨g, cap, cur, hv, _, _, hnc, _⟩
          · omega
          · simp only [Value.slice.injEq] at hv
            omega
        have hJ : ∀ W : World, W = wr → Calls Tryz.prog 23 #[.slice A4 j c4, .string ⟨#[32]⟩] W fun e w' => e = .returned (.string ⟨(Rw.mtext m).toArray⟩) ∧ Below W.heap.size W w' := by
          rintro W rfl
          rcases Nat.eq_zero_or_pos j with hj0 | hj0
          · have hm0 : m = [] := List.length_eq_zero_iff.1 (by rw [HN.out]; exact hj0)
            subst hj0
            refine (Tryz.strings_Join_none A4 c4 ⟨#[32]⟩ W).mono ?_
            rintro e w' ⟨rfl, rfl⟩
            exact ⟨by rw [hm0]; rfl, Below.refl _ _⟩
          · have h := Jn.any A4 c4 W.heap.size j (m.map fun x => ⟨(Fi.text x.toNat).toArray⟩) ⟨#[32]⟩ W (by rw [List.length_map, HN.out]) hj0 (Nat.le_refl _) (by rw [List.map_map]; exact hS4) hcap (by omega) (fun y hy => by
              obtain ⟨x, hx, rfl⟩ := List.mem_map.1 hy
              rw [Rw.ba_size']
              have := Fi.text_le x.toNat (by have := HMB.out x hx; omega)
              omega) (by decide)
            refine h.mono ?_
            rintro e w' ⟨rfl, hb⟩
            refine ⟨?_, hb⟩
            rw [List.map_map, show (⟨#[32]⟩ : ByteArray).data.toList = [32] from rfl, Rw.join_glue]
            rfl
        have hatW := HFX.out.below' hbel (Nat.lt_succ_self _)
        have HBW := Lib.hid (HBX.out.trans (hbel.mono (show w.heap.size ≤ w.heap.size + 2 by omega)))
        obtain ⟨mt, hmt⟩ : ∃ y : ByteArray, ⟨(Rw.mtext m).toArray⟩ = y := ⟨_, rfl⟩
        simp only [hmt] at hJ
        have HMT := Lib.hid hmt
        clear hown hS4 hcap hbel hmt
        go_wp2_with fail
        refine (hJ _ rfl).mono ?_
        rintro e w5 ⟨rfl, hb5⟩
        have hat5 := hatW.below hb5
        have y5 := hat5.cell 5 rfl
        have g5 := hat5.frozen 5
        have hat6 := hat5.set 5 (.string mt)
        have hz5 : wr.heap.size ≤ w5.heap.size := hb5.size
        have hz5' : w.heap.size + 1 < w5.heap.size := by omega
        have HB5 := Lib.hid (((HBW.out.trans (hb5.mono (by omega))).setCell (p := ⟨w.heap.size + 1, 5, none⟩) (show w.heap.size ≤ w.heap.size + 1 by omega) (.string mt)))
        have hS6 : Sl (w5.setCell ⟨w.heap.size + 1, 5, none⟩ (.string mt)) (w5.setCell ⟨w.heap.size + 1, 5, none⟩ (.string mt)).heap.size (some ⟨w.heap.size + 1, 0, none⟩) ((Rw.strF x0 x3 mt).map Value.string) :=
          Sl.lit rfl _ _ hat6
        have hJ2 := Jn.any (some ⟨w.heap.size + 1, 0, none⟩) 15 _ 15 (Rw.strF x0 x3 mt) ⟨#[59]⟩ (w5.setCell ⟨w.heap.size + 1, 5, none⟩ (.string mt)) rfl (by decide) (Nat.le_refl _) hS6 (Nat.le_refl _) (by decide) (Rw.strF_size x0 x3 mt (by rw [← HX0.out, Rw.ba_size']; have := Fi.text_le c.toNat (by omega); omega) (by
          rw [← HX3.out, Rw.ba_size']
          have := Fi.dec_len 9 k.toNat (by rw [show (10 : Nat) ^ (9 + 1) = 10000000000 from by decide]; omega)
          omega) (by
          rw [← HMT.out, Rw.ba_size']
          exact Rw.mtext_le m (by rw [HN.out]; exact hm) HMB.out)) (by decide)
        have hfin : (⟨(Lib.join ((Rw.strF x0 x3 mt).map (·.data.toList)) (⟨#[59]⟩ : ByteArray).data.toList).toArray⟩ : ByteArray) = ⟨(Rw.line (c, k, m)).toArray⟩ := by
          rw [← HX0.out, ← HX3.out, ← HMT.out]
          exact congrArg (fun l : List UInt8 => (⟨l.toArray⟩ : ByteArray)) (Rw.join_line c k m)
        rw [hfin] at hJ2
        clear hat5 hat6 hS6 hb5 hJ hatW hfin
        go_wp2_with fail
        refine hJ2.mono ?_
        rintro e w7 ⟨rfl, hb7⟩
        have HB7 := Lib.hid (HB5.out.trans (hb7.mono HB5.out.size))
        clear hb7 hJ2
        go_wp2_with fail
        go_ret
        exact ⟨rfl, HB7.out⟩
end Go.Proofs.YtppmcnpjglackaaGreatDoor
