/- The law CpsetChars, by walking its text. -/
import Derived.Test.YtgfkcbckddpbaaaCpIsOf
import Derived.Test.YtgfkcbckddpbaaaCpChars
import Derived.Test.YtgfkcbckddpbaaaCpChPlain3
import Derived.Test.YtgfkcbckddpbaaaCpSame
import Derived.Test.YtgfkcbckddpbaaaCpArgs
import Derived.Deep.RegionHeld3
import Derived.Deep.DeepCutAuto
namespace Go.Proofs.Ytgfkcbckddpbaaa
open Go.RowKit
set_option linter.unusedSimpArgs false
set_option linter.unusedVariables false

/-- The function value of CpsetChars: is a number a character of the ranges? -/
theorem C.chars1_any (g : Nat) (A : Option Addr) (c m B : Nat) (l : List (Int × Int)) (d : Int) (w : World) (hl : l.length = m) (hm : m ≤ 1000000) (hg : w.cell? ⟨g, 0, none⟩ = some (.slice A m c)) (hB : B ≤ w.heap.size) (hA : Sl w B A (C.fl .i64 l)) :
    Calls Try.prog 8 #[.int .i64 d, .pointer (some ⟨g, 0, none⟩)] w fun e w' => e = .returned (.bool (C.inR l d && C.isC d)) ∧ Below w.heap.size w w' := by
  have HA := Lib.hid hA
  clear hA
  have HL := Lib.hid hl
  clear hl
  obtain ⟨q, hq⟩ : ∃ q, (C.inR l d && C.isC d) = q := ⟨_, rfl⟩
  rw [hq]
  have HQ := Lib.hid hq
  clear hq
  go_enter Try.func8, Try.ntmps8
  go_wp2_with fail
  refine (C.rhas_any A c m B l d _ HL.out hm hB HA.out).mono ?_
  rw [HQ.out]
  rintro e w1 ⟨rfl, hb⟩
  go_wp2
  go_ret
  exact ⟨rfl, hb⟩

theorem C.keepL {W w' : World} {B b1 b2 : Nat} {v1 v2 : Value} (d1 : W.cell? ⟨b1, 0, none⟩ = some v1) (d2 : W.cell? ⟨b2, 0, none⟩ = some v2) (h1 : b1 < B) (h2 : b2 < B) (h : Below B W w') :
    w'.cell? ⟨b1, 0, none⟩ = some v1 ∧ w'.cell? ⟨b2, 0, none⟩ = some v2 ∧ Below B W w' :=
  ⟨((bcell h).1 _ _ h1).trans d1, ((bcell h).1 _ _ h2).trans d2, h⟩
theorem C.thirdL {P Q : Prop} {W w' : World} {B : Nat} (h : P ∧ Q ∧ Below B W w') : Below B W w' := h.2.2
theorem C.keepM {W w' : World} {B b1 : Nat} {v1 : Value} (d1 : W.cell? ⟨b1, 0, none⟩ = some v1) (h1 : b1 < B) (h : Below B W w') :
    w'.cell? ⟨b1, 0, none⟩ = some v1 ∧ Below B W w' := ⟨((bcell h).1 _ _ h1).trans d1, h⟩
theorem C.secondM {P : Prop} {W w' : World} {B : Nat} (h : P ∧ Below B W w') : Below B W w' := h.2

set_option maxRecDepth 100000 in
set_option maxHeartbeats 4000000 in
theorem C.chars_law (A : Option Addr) (len cap B : Nat) (l : List Int) (w : World) (hl : l.length = len) (hc : len ≤ cap) (hcap : cap ≤ maxLen) (hbd : ∀ x ∈ l, -2147483648 ≤ x ∧ x ≤ 2147483647) (hB : B ≤ w.heap.size) (hA : Sl w B A (l.map (Value.int .i32))) :
    Calls Try.prog 3 #[.slice A len cap] w fun e w' => e = .returned (.bool true) ∧ Below w.heap.size w w' := by
  have HL := Lib.hid hl
  have HBD := Lib.hid hbd
  have HA := Lib.hid hA
  obtain ⟨L, hL⟩ : ∃ L, l.take 40 = L := ⟨_, rfl⟩
  obtain ⟨K, hK⟩ : ∃ K, L.length = K := ⟨_, rfl⟩
  have hK40 : K ≤ 40 := by rw [← hK, ← hL, List.length_take]; omega
  have hKm : K = min 40 len := by rw [← hK, ← hL, List.length_take, hl]
  have HKL := Lib.hid hK
  have HLT := Lib.hid hL
  simp only [maxLen] at hcap
  clear hl hbd hA hL hK
  go_enter Try.func3, Try.ntmps3
  go_wp2_with fail
  refine (C.awake_any _).mono ?_
  rintro e w1 ⟨rfl, hb1⟩
  have hs1 := hb1.size
  have HA1 := Lib.hid (HA.out.belowN hb1 hB (Nat.le_refl _))
  go_upto_if 16 with (fail)
  go_cut [0] (fun s0 wx => s0 = .slice A K cap ∧ wx = w1)
  case first =>
    by_cases hlt : (40 : Int) < len
    · obtain rfl : K = 40 := by omega
      have h40 : (40 : Int) ≤ cap := by omega
      clear hKm
      go_wp2_with fail
      go_meet
      exact ⟨rfl, rfl⟩
    · obtain rfl : K = len := by omega
      clear hKm
      go_wp2_with fail
      go_meet
      exact ⟨rfl, rfl⟩
  case rest =>
    obtain ⟨rfl, hwc⟩ := hcut
    subst hwc
    clear hKm
    have HA2 := Lib.hid (HA1.out.take 40)
    have eL : (l.map (Value.int .i32)).take 40 = L.map (Value.int .i32) := by rw [← List.map_take, HLT.out]
    rw [eL] at HA2
    clear eL
    have q1 : K ≤ 400000 := by omega
    have q2 : B ≤ wc.heap.size := by omega
    have HCA := Lib.hid (C.chars_any A K cap B L wc HKL.out q1 q2 HA2.out)
    go_wp2_with fail
    refine HCA.out.mono ?_
    obtain ⟨hok, _⟩ := C.chars_spec L
    have hsl := C.chars_len L
    have hcn := C.chars_count L
    have hmem := C.pts_mem L
    obtain ⟨S, hS⟩ : ∃ S, C.chars L = S := ⟨_, rfl⟩
    rw [hS] at hok hsl hcn hmem ⊢
    rw [HKL.out] at hsl hcn
    obtain ⟨n, hn⟩ : ∃ n, S.length = n := ⟨_, rfl⟩
    rw [hn] at hsl
    have HOK := Lib.hid hok
    have HMEM := Lib.hid hmem
    have HN := Lib.hid hn
    have HCN := Lib.hid hcn
    clear hok hmem hS hn hcn
    rintro e w2 ⟨A2, c2, rfl, hown2, hb2⟩
    rw [HN.out] at hown2 ⊢
    have hS2 := Lib.hid (Sl.of_own hown2)
    have hs2 := hb2.size
    clear hown2
    have hbw2 := hb1.trans (hb2.mono hs1)
    have hba : Below w2.heap.size w2 (w2.alloc (.cells #[.slice A2 n c2] 25)) := (Below.refl _ _).alloc (Nat.le_refl _) _
    have v2 := heap_alloc_new w2 (.cells #[.slice A2 n c2] 25)
    have hza : (w2.alloc (.cells #[.slice A2 n c2] 25)).heap.size = w2.heap.size + 1 := by simp
    obtain ⟨Wa, hWa⟩ : ∃ Wa, w2.alloc (.cells #[.slice A2 n c2] 25) = Wa := ⟨_, rfl⟩
    rw [hWa] at hba v2 hza
    have hbb : Below Wa.heap.size Wa (Wa.alloc (.cells #[.slice none 0 0] 27)) := (Below.refl _ _).alloc (Nat.le_refl _) _
    have u2 := heap_alloc_new Wa (.cells #[.slice none 0 0] 27)
    have hzb : (Wa.alloc (.cells #[.slice none 0 0] 27)).heap.size = Wa.heap.size + 1 := by simp
    obtain ⟨W, hW⟩ : ∃ W, Wa.alloc (.cells #[.slice none 0 0] 27) = W := ⟨_, rfl⟩
    rw [hW] at hbb u2 hzb
    rw [hza] at hzb hbb u2
    have v3 := (hbb.block w2.heap.size (by omega)).trans v2
    have HBW := Lib.hid (hbw2.trans ((hba.trans (hbb.mono (by omega))).mono (by omega)))
    have HSW := Lib.hid ((hS2.out.belowN hba (Nat.le_refl _) (Nat.le_refl _)).belowN hbb (by omega) (Nat.le_refl _))
    have HLW := Lib.hid (((HA2.out.belowN hb2 (by omega) (Nat.le_refl _)).belowN hba (by omega) (Nat.le_refl _)).belowN hbb (by omega) (Nat.le_refl _))
    have HWA := Lib.hid hWa
    have HW := Lib.hid hW
    have HV := Lib.hid v3
    have HU := Lib.hid u2
    obtain ⟨j0, hj0, hy0, hy1, hy2⟩ := info_parts infoPair
    clear hba hbb hWa hW v2 v3 u2 hb1 hb2 hbw2
    go_upto_region 7 with (fail)
    rw [HWA.out, HW.out]
    go_wp2
    go_loopw [23] (fun vi wr => ∃ (i q : Nat) (A3 : Option Addr) (c3 : Nat), i ≤ K ∧ vi = .int .i64 i ∧ q = (C.pts (L.take i)).length ∧ wr.heap[w2.heap.size + 1]? = some (.cells #[.slice A3 q c3] 27 (0, 0)) ∧ wr.ownsRow (w2.heap.size + 2) 29 2 (.slice A3 q c3) q (C.fl .i64 (C.pts (L.take i))) ∧ Below (w2.heap.size + 1) W wr ∧ w2.heap.size + 2 ≤ wr.heap.size) (fun vi _ => K - (intOf vi).toNat)
    case atStart => exact ⟨0, 0, none, 0, by omega, rfl, rfl, HU.out, World.ownsRow_nil _ _ _ _, Below.refl _ _, by omega⟩
    case round =>
      obtain ⟨i, q, A3, c3, hi, rfl, hq, hblk, hown, hbr, hzr⟩ := hrel
      obtain ⟨w3, rfl⟩ : ∃ w3 : World, w3 = wr := ⟨_, rfl⟩
      obtain ⟨cR, fR⟩ := blk_cell hblk 0
      simp only [List.getElem?_toArray, List.getElem?_cons_zero] at cR
      have HQ := Lib.hid hq
      have hq40 : q ≤ 40 := by
        have h1 := C.pts_len (L.take i)
        rw [List.length_take, HKL.out] at h1
        omega
      have HBK := Lib.hid hblk
      clear hq hblk
      by_cases hlt : (i : Int) < K
      · obtain ⟨c, hc⟩ : ∃ c, L[i]? = some c := ⟨_, List.getElem?_eq_getElem (by rw [HKL.out]; omega)⟩
        have hcb : -2147483648 ≤ c ∧ c ≤ 2147483647 := HBD.out c (by
          have := List.mem_of_getElem? hc
          rw [← HLT.out] at this
          exact List.mem_of_mem_take this)
        obtain ⟨cb1, cb2⟩ := hcb
        obtain ⟨b, o, rfl, hlb, hc0, _⟩ := HLW.out.ints hc
        rw [← (bcell hbr).1 _ _ (by omega)] at hc0
        have hpt := Lib.hid (C.pts_take hc)
        have n0 : (0 : Int) ≤ (i : Int) := by omega
        clear hc
        by_cases h1 : c ≥ 0
        · by_cases h2 : c ≤ 1114111
          · have HP := Lib.hid (hpt.out.trans (if_pos ⟨h1, h2⟩))
            have hba : Below w3.heap.size w3 (w3.alloc (.cells #[.int .i64 c, .int .i64 c] 29)) := (Below.refl _ _).alloc (Nat.le_refl _) _
            have hown' := Lib.hid (own_below hown hba (Nat.le_refl _))
            have hnew := Lib.hid (Sl.lit (w := w3.alloc (.cells #[.int .i64 c, .int .i64 c] 29)) (A := some ⟨w3.heap.size, 0, none⟩) (xs := [.int .i64 c, .int .i64 c]) rfl 29 (0, 0) (heap_alloc_new w3 _))
            have hs3 := Nat.le_trans hzr hba.size
            have HBA := Lib.hid hba
            clear hown hba
            go_wp2_with (at_builtin; refine wpList_appendSl _ rfl _ _ _ rfl (w2.heap.size + 2) 29 j0 _ 2 16 Try.underlying27 hj0 hy0 hy1 hy2 rfl (by omega) _ q _ rfl hown'.out _ (some ⟨w3.heap.size, 0, none⟩) 1 1 [.int .i64 c, .int .i64 c] rfl rfl hnew.out (by simp [Value.oneCell']) (by simp only [maxLen]; omega) (by omega) hs3 ?_; intro v1 w5 hown5 hb5 hgrow; obtain ⟨A5, c5, rfl⟩ := own_form hown5; have hblk5 := ((hb5.block (w2.heap.size + 1) (by omega)).trans (HBA.out.block (w2.heap.size + 1) (by omega))).trans HBK.out; obtain ⟨cR5, fR5⟩ := blk_cell hblk5 0; simp only [List.getElem?_toArray, List.getElem?_cons_zero] at cR5; have HB5 := Lib.hid hblk5; clear hblk5; have HO5 := Lib.hid hown5; clear hown5)
            refine ⟨⟨i + 1, q + 1, A5, c5, by omega, by go_num, ?_, set_cell HB5.out, ?_, ?_, ?_⟩, by simp [intOf]; omega⟩
            · rw [HP.out, List.length_append, ← HQ.out]; rfl
            · rw [HP.out, C.fl_app]
              exact ownsRow_setCell_below HO5.out (by show w2.heap.size + 1 < _; omega) _
            · exact ((hbr.trans (HBA.out.mono (by omega))).trans (hb5.mono (by omega))).setCell (Nat.le_refl _) _
            · have := hb5.size
              have := HBA.out.size
              simp only [World.setCell, Array.size_modify]
              omega
          · have HP := Lib.hid (hpt.out.trans (if_neg (fun h => h2 h.2)))
            go_wp2
            refine ⟨⟨i + 1, q, A3, c3, by omega, by go_num, by rw [HP.out]; exact HQ.out, HBK.out, by rw [HP.out]; exact hown, hbr, hzr⟩, by simp [intOf]; omega⟩
        · have HP := Lib.hid (hpt.out.trans (if_neg (fun h => h1 h.1)))
          go_wp2
          refine ⟨⟨i + 1, q, A3, c3, by omega, by go_num, by rw [HP.out]; exact HQ.out, HBK.out, by rw [HP.out]; exact hown, hbr, hzr⟩, by simp [intOf]; omega⟩
      · obtain rfl : i = K := by omega
        have eT : L.take i = L := List.take_of_length_le (by rw [HKL.out]; exact Nat.le_refl _)
        have hq' := HQ.out
        rw [eT] at hown hq'
        have hmem := HMEM.out
        have hg := C.pts_good L
        obtain ⟨rs, hrs⟩ : ∃ rs, C.pts L = rs := ⟨_, rfl⟩
        rw [hrs] at hown hq' hmem hg
        have HRL := Lib.hid hq'.symm
        have hmb := C.marks_bd hg
        obtain ⟨hms, hmall, hmends⟩ := C.marks_spec rs
        have hmlen := C.marks_len rs
        have hblind : C.blind (C.marks rs) (fun d => C.inR rs d && C.isC d) := C.blind_op (fun a b => a && b) (C.blind_inR rs hmends) (C.blind_isC hmall)
        obtain ⟨M, hMk⟩ : ∃ M, C.marks rs = M := ⟨_, rfl⟩
        rw [hMk] at hmb hms hmall hmlen hblind
        obtain ⟨mm, hmm⟩ : ∃ mm, M.length = mm := ⟨_, rfl⟩
        rw [hmm, HRL.out] at hmlen
        have hn' : n ≤ 1000000 := by omega
        have hmm' : mm ≤ 1000000 := by omega
        have hq1 : q ≤ 100000 := by omega
        have hq2 : q ≤ 1000000 := by omega
        have HMM := Lib.hid hmm
        have HMEM2 := Lib.hid hmem
        have HMB := Lib.hid hmb
        have HMS := Lib.hid hms
        have HMALL := Lib.hid hmall
        have HBL := Lib.hid hblind
        have HMK := Lib.hid hMk
        have HC : Hid (∀ c, (fun d => C.inR rs d && C.isC d) c = true → C.isC c = true) := Lib.hid (fun c hc => by simp at hc; exact hc.2)
        have HBD2 : Hid (∀ r ∈ rs, -9223372036854775808 ≤ r.2 ∧ r.2 < 9223372036854775807) := Lib.hid (fun r hr => by
          have h := hg
          unfold C.good at h
          rw [List.all_eq_true] at h
          have := h r hr
          simp at this
          omega)
        have hblkS := (hbr.block w2.heap.size (by omega)).trans HV.out
        obtain ⟨cS, _⟩ := blk_cell hblkS 0
        simp only [List.getElem?_toArray, List.getElem?_cons_zero] at cS
        have HS3 : Hid (Sl w3 w3.heap.size A2 (S.map (Value.int .i32))) := Lib.hid (HSW.out.belowN hbr (by omega) (by omega))
        have HR3 := Lib.hid (Sl.of_own hown)
        have hl1 : w2.heap.size < w3.heap.size := by omega
        have hl2 : w2.heap.size + 1 < w3.heap.size := by omega
        have hxx : Below w3.heap.size w3 w3 := Below.refl _ _
        have HB3 : Hid (Below w.heap.size w w3) := Lib.hid (HBW.out.trans (hbr.mono (by omega)))
        have HF : Hid (∀ (w' : World), w'.cell? ⟨w2.heap.size + 1, 0, none⟩ = some (.slice A3 q c3) → Below w3.heap.size w3 w' → ∀ (d : Int) (w'' : World), Below w'.heap.size w' w'' → Calls Try.prog 8 (#[.int .i64 d] ++ #[.pointer (some ⟨w2.heap.size + 1, 0, none⟩)]) w'' fun e w3' => e = .returned (.bool ((fun d => C.inR rs d && C.isC d) d)) ∧ Below w''.heap.size w'' w3') :=
          Lib.hid (fun w' hc' hb' d w'' hb'' => C.chars1_any (w2.heap.size + 1) A3 c3 q w3.heap.size rs d w'' HRL.out hq2 (((bcell hb'').1 (w2.heap.size + 1) 0 (Nat.lt_of_lt_of_le hl2 hb'.size)).trans hc') (Nat.le_trans hb'.size hb''.size) ((HR3.out.belowN hb' (Nat.le_refl _) (Nat.le_refl _)).belowN hb'' hb'.size (Nat.le_refl _)))
        have HEN : Hid (∀ (args : Array Value) (w : World), (callFunc 8 args).run Try.prog w = .ok (.enter 8 args) w) := Lib.hid (fun args w => C.enter' Try.func8 (by kernel_rfl) (by kernel_rfl) args w)
        clear hmb hms hmall hmends hmlen hblind hMk hmm hmem hg hrs hq' eT hblkS hown hbr fR HLW HSW HBW HA HA1 HA2 hj0 hy0 hy1 hy2 j0
        go_upto_region 13 with (fail)
        go_cut [47] (fun s47 wx => s47 = .bool false ∧ wx.cell? ⟨w2.heap.size, 0, none⟩ = some (.slice A2 n c2) ∧ Below w3.heap.size w3 wx)
        case first =>
          go_region_held3 (fun w' => w'.cell? ⟨w2.heap.size + 1, 0, none⟩ = some (.slice A3 q c3) ∧ w'.cell? ⟨w2.heap.size, 0, none⟩ = some (.slice A2 n c2) ∧ Below w3.heap.size w3 w')
            (first
              | exact C.keepL cR cS hl2 hl1 hxx
              | exact C.keepL cR cS hl2 hl1 hxx.drew
              | exact C.keepL cR cS hl2 hl1 hbz9
              | fail)
            (first
              | (go_at_call 7; refine (C.marks_any A3 c3 q w3.heap.size rs _ HRL.out hq1 HBD2.out (C.thirdL (W := w3) (by assumption)).size (HR3.out.belowN (C.thirdL (W := w3) (by assumption)) (Nat.le_refl _) (Nat.le_refl _))).mono ?_; rw [HMK.out]; rintro e w7 ⟨A7, c7, rfl, hM7, hbc⟩; rw [HMM.out]; have HM7 := Lib.hid hM7; clear hM7; have hbz9 := (C.thirdL (W := w3) (by assumption)).trans (hbc.mono (C.thirdL (W := w3) (by assumption)).size))
              | (go_at_call 6; refine (C.is_of 8 #[.pointer (some ⟨w2.heap.size + 1, 0, none⟩)] (fun d => C.inR rs d && C.isC d) A2 A7 c2 n c7 mm w7.heap.size S M _ HEN.out (HF.out _ (And.left (by assumption)) (C.thirdL (by assumption))) HN.out hn' HOK.out HMM.out hmm' HMS.out HMALL.out HMB.out HBL.out HC.out HMEM2.out (Nat.le_refl _) (HS3.out.belowN hbz9 (Nat.le_refl _) hbz9.size) HM7.out).mono ?_; rintro e w8 ⟨rfl, hbc⟩; have hbz9 := (C.thirdL (W := w3) (by assumption)).trans (hbc.mono (C.thirdL (W := w3) (by assumption)).size))
              | fail)
          all_goals
            go_wp2_with fail
            go_meet
            exact ⟨rfl, ((bcell hbz9).1 _ _ hl1).trans cS, hbz9⟩
        case rest =>
          obtain ⟨rfl, cS6, hb6⟩ := hcut
          obtain ⟨w6, rfl⟩ : ∃ w6 : World, w6 = wc := ⟨_, rfl⟩
          have hs6 := hb6.size
          have HS6 := Lib.hid (HS3.out.belowN hb6 (Nat.le_refl _) (Nat.le_refl _))
          have hl6 : w2.heap.size < w6.heap.size := by omega
          have HB6 : Hid (Below w.heap.size w w6) := Lib.hid (HB3.out.trans (hb6.mono (by omega)))
          have hisC : ∀ d, C.mem S d = true → C.isC d = true := fun d hd => HC.out d ((HMEM2.out d).symm.trans hd)
          have hcount := C.all1_count HOK.out
          have HAT := Lib.hid (fun (k : Nat) (x : Int) => C.all1_at HOK.out (i := k) (d := x))
          have hagain := C.chars_again HOK.out hisC
          obtain ⟨al, hal⟩ : ∃ al, C.all1 (C.rngs S) = al := ⟨_, rfl⟩
          have HCS := Lib.hid (C.setchars_any A2 c2 n w3.heap.size S w6 HN.out hn' HOK.out hs6 HS6.out)
          rw [hal] at hcount HAT hagain HCS
          obtain ⟨N, hN⟩ : ∃ N, al.length = N := ⟨_, rfl⟩
          rw [hN] at hcount
          have hN40 : N ≤ 40 := by have := HCN.out; omega
          have HAG := Lib.hid hagain
          have HCNT := Lib.hid hcount
          have HNL := Lib.hid hN
          clear hisC hcount hagain hal hN cR hb6 hxx HF HEN HC HBD2 HMB HMS HMALL HBL HMK HMM HMEM2 HRL HR3 HBK HQ
          go_wp2_with fail
          refine HCS.out.mono ?_
          rintro e w7 ⟨A7, c7, rfl, hown7, hb7⟩
          rw [HNL.out] at hown7 ⊢
          have HA7 := Lib.hid (Sl.of_own hown7)
          have cS7 := ((bcell hb7).1 _ _ hl6).trans cS6
          have HS7 := Lib.hid (HS6.out.belowN hb7 hs6 hs6)
          have hs7 := hb7.size
          have HB7 : Hid (Below w.heap.size w w7) := Lib.hid (HB6.out.trans (hb7.mono (by omega)))
          have hl7 : w2.heap.size < w7.heap.size := by omega
          clear hown7 cS6 hb7 HS6 HB6 HB3 HS3 HCS cS
          go_wp2
          go_loopw [52] (fun vi wr => ∃ k : Nat, k ≤ N ∧ vi = .int .i64 k ∧ Below w7.heap.size w7 wr) (fun vi _ => N - (intOf vi).toNat)
          case atStart => exact ⟨0, by omega, rfl, Below.refl _ _⟩
          case round =>
            obtain ⟨k, hk, rfl, hbr⟩ := hrel
            obtain ⟨w8, rfl⟩ : ∃ w8 : World, w8 = wr := ⟨_, rfl⟩
            have hs8 := hbr.size
            have cS8 := ((bcell hbr).1 _ _ hl7).trans cS7
            have HS8 := Lib.hid (HS7.out.belowN hbr hs7 hs7)
            have HA8 := Lib.hid (HA7.out.belowN hbr (Nat.le_refl _) (Nat.le_refl _))
            by_cases hlt : (k : Int) < N
            · obtain ⟨x, hx⟩ : ∃ x, al[k]? = some x := ⟨_, List.getElem?_eq_getElem (by rw [HNL.out]; omega)⟩
              have hat := HAT.out k x hx
              obtain ⟨b, o, rfl, hlb, hc0, _⟩ := HA8.out.ints hx
              have E1 : Hid ((C.at S (k : Int)).1 = x) := Lib.hid (by rw [hat])
              have E2 : Hid ((C.at S (k : Int)).2 = true) := Lib.hid (by rw [hat])
              have n0 : (0 : Int) ≤ (k : Int) := by omega
              have HBR := Lib.hid hbr
              clear hat hx hbr
              go_wp2_with (go_at_call 11; refine (C.at_any A2 c2 n w7.heap.size S (k : Int) w8 HN.out hn' HOK.out (by omega) (by omega) hs8 HS8.out).mono ?_; rw [E1.out, E2.out]; rintro e w9 ⟨rfl, hb9⟩)
              exact ⟨⟨k + 1, by omega, by go_num, HBR.out.trans (hb9.mono hs8)⟩, by simp [intOf]; omega⟩
            · obtain rfl : k = N := by omega
              have HS9 : Hid (Sl w8 w8.heap.size A2 (S.map (Value.int .i32))) := Lib.hid (HS8.out.more hs8)
              have HA9 : Hid (Sl w8 w8.heap.size A7 (al.map (Value.int .i32))) := Lib.hid (HA8.out.more hs8)
              have hl8 : w2.heap.size < w8.heap.size := by omega
              have hxx : Below w8.heap.size w8 w8 := Below.refl _ _
              have HB8 : Hid (Below w.heap.size w w8) := Lib.hid (HB7.out.trans (hbr.mono (by omega)))
              have hws : w.heap.size ≤ w8.heap.size := by omega
              have he2 : ((k : Int) == (k : Int)) = true := by simp
              have hk4 : k ≤ 400000 := by omega
              clear hbr cS7
              go_upto_region 23 with (fail)
              go_region_held3 (fun w' => w'.cell? ⟨w2.heap.size, 0, none⟩ = some (.slice A2 n c2) ∧ Below w8.heap.size w8 w')
                (first
                  | exact C.keepM cS8 hl8 hxx
                  | exact C.keepM cS8 hl8 hxx.drew
                  | exact C.keepM cS8 hl8 hbz9
                  | fail)
                (first
                  | (go_at_call 12; refine (C.count_any A2 c2 n w8.heap.size S _ HN.out hn' HOK.out (C.secondM (W := w8) (by assumption)).size (HS9.out.belowN (C.secondM (by assumption)) (Nat.le_refl _) (Nat.le_refl _))).mono ?_; rw [← HCNT.out]; rintro e wf ⟨rfl, hbc⟩; have hbz9 := (C.secondM (W := w8) (by assumption)).trans (hbc.mono (C.secondM (W := w8) (by assumption)).size))
                  | (go_at_call 5; refine (C.chars_any A7 k c7 w8.heap.size al _ HNL.out hk4 (C.secondM (W := w8) (by assumption)).size (HA9.out.belowN (C.secondM (by assumption)) (Nat.le_refl _) (Nat.le_refl _))).mono ?_; rw [HAG.out]; rintro e wd ⟨Ad, cd, rfl, hownd, hbc⟩; rw [HN.out] at hownd ⊢; have hSd := Lib.hid (Sl.of_own hownd); clear hownd; have hbz9 := (C.secondM (W := w8) (by assumption)).trans (hbc.mono (C.secondM (W := w8) (by assumption)).size))
                  | (go_at_call 13; refine (C.same_any Ad A2 cd c2 n n wd.heap.size S S _ HN.out HN.out hn' hn' (Nat.le_refl _) hSd.out ((HS9.out.belowN hbz9 (Nat.le_refl _) (Nat.le_refl _)).more hbz9.size)).mono ?_; rw [decide_eq_true (show S = S from rfl)]; rintro e we ⟨rfl, hbc⟩; have hbz9 := (C.secondM (W := w8) (by assumption)).trans (hbc.mono (C.secondM (W := w8) (by assumption)).size))
                  | fail)
              all_goals
                go_wp2_with fail
                go_ret
                exact ⟨rfl, HB8.out.trans (hbz9.mono hws)⟩

theorem C.chars_row (w : World) (a : Option Addr) (len cap : Nat) (zs : List Int) (h : IsRow .i32 w a len cap zs) (hbd : ∀ c ∈ zs, -2147483648 ≤ c ∧ c ≤ 2147483647) :
    Calls Try.prog 3 #[.slice a len cap] w fun e w' => e = .returned (.bool true) ∧ Below w.heap.size w w' := by
  obtain ⟨h1, h2, h3⟩ := h.len_le
  exact C.chars_law a len cap w.heap.size (zs.take len) w (by rw [List.length_take]; omega) h1 h2 (fun x hx => hbd x (List.mem_of_mem_take hx)) (Nat.le_refl _) (h.sl len (Nat.le_refl _))
end Go.Proofs.Ytgfkcbckddpbaaa
