/- The word: excl is awake. -/
import Derived.Test.YtppmcnpjglackaaGreatDoorExWalk
import Derived.Test.YtppmcnpjglackaaGreatDoorCpSrt
import Derived.Test.YtppmcnpjglackaaGreatDoorCpSame
import Derived.Test.YtppmcnpjglackaaGreatDoorCpFind
import Derived.Test.YtppmcnpjglackaaGreatDoorCpCount
import Derived.Test.YtppmcnpjglackaaGreatDoorChar
import Derived.Test.YtppmcnpjglackaaGreatDoorRwRLine
import Derived.Laws.RangeAny
import Derived.Laws.Runes
import Derived.Test.YtppmcnpjglackaaGreatDoorExText
namespace Go.Proofs.YtppmcnpjglackaaGreatDoor
open Go.RowKit
set_option linter.unusedSimpArgs false
set_option linter.unusedVariables false

def Ex.lit : List UInt8 := [48, 57, 53, 56, 32, 35, 32, 81, 65, 10, 10, 48, 57, 53, 57]
theorem Ex.lit_parse : Ex.parse Ex.lit = some [2392, 2393] := by decide +kernel
theorem Ex.lit_set : C.chars [2392, 2393] = [2392, 2394] := by
  obtain ⟨h1, h2⟩ := C.chars_spec [2392, 2393]
  refine C.canon _ _ h1.1 (by unfold C.srt; simp) fun d => ?_
  rw [h2 d]
  simp only [C.mem, C.isC, List.mem_cons, List.not_mem_nil, or_false]
  by_cases a1 : d = 2392
  · subst a1; rfl
  · by_cases a2 : d = 2393
    · subst a2; rfl
    · rw [decide_eq_false (by omega), Bool.false_and]
      by_cases a3 : 2392 ≤ d
      · rw [decide_eq_true a3, decide_eq_true (show (2394 : Int) ≤ d by omega)]; rfl
      · rw [decide_eq_false a3]; rfl
theorem Ex.lit_ok : C.ok [2392, 2394] := by
  refine ⟨by unfold C.srt; simp, ?_, rfl⟩
  intro x hx
  simp at hx
  omega

set_option maxRecDepth 100000 in
set_option maxHeartbeats 4000000 in
theorem Ex.awake_any (w : World) (hL : Fi.LaidM w) : Calls Tryz.prog 12 #[] w fun e w' => e = .returned (.bool true) ∧ Below w.heap.size w w' := by
  have hP := Ex.parse_any ⟨#[48, 57, 53, 56, 32, 35, 32, 81, 65, 10, 10, 48, 57, 53, 57]⟩ (by decide) _ Ex.lit_parse w hL
  unfold Ex.RetParse at hP
  rw [Ex.lit_set] at hP
  go_enter Tryz.func12, Tryz.ntmps12
  go_wp2_with fail
  refine hP.mono ?_
  rintro e w1 ⟨A, c, rfl, hS, hb⟩
  have hba : Below w1.heap.size w1 (w1.alloc (.cells #[.slice A 2 c] 42)) := (Below.refl _ _).alloc (Nat.le_refl _) _
  have hat : Rw.At (w1.alloc (.cells #[.slice A 2 c] 42)) w1.heap.size 42 [.slice A 2 c] := Rw.At.new w1 42 [.slice A 2 c]
  have hSa := hS.below hba
  have hC := C.count_any A c 2 _ [2392, 2394] _ rfl (by decide) Ex.lit_ok (Nat.le_refl _) hSa.sl
  rw [show C.count [2392, 2394] = 2 from by decide] at hC
  have HB := Lib.hid (hb.trans (hba.mono hb.size))
  have HSA := Lib.hid hSa
  have z0 := hat.cell 0 rfl
  clear hS hb hSa hba hP
  go_wp2_with fail
  refine hC.mono ?_
  rintro e w2 ⟨rfl, hb2⟩
  have hH1 := C.has_any A c 2 _ [2392, 2394] 2392 w2 rfl (by decide) Ex.lit_ok.1 (Nat.le_refl _) (HSA.out.below hb2).sl
  rw [show C.mem [2392, 2394] 2392 = true from by decide] at hH1
  have HB2 := Lib.hid (HB.out.trans (hb2.mono HB.out.size))
  have HS2 := Lib.hid (HSA.out.below hb2)
  have hat2 := hat.below hb2
  have z2 := hat2.cell 0 rfl
  clear hb2 hC z0 hat
  go_wp2_with fail
  refine hH1.mono ?_
  rintro e w3 ⟨rfl, hb3⟩
  have hH2 := C.has_any A c 2 _ [2392, 2394] 2393 w3 rfl (by decide) Ex.lit_ok.1 (Nat.le_refl _) (HS2.out.below hb3).sl
  rw [show C.mem [2392, 2394] 2393 = true from by decide] at hH2
  have HB3 := Lib.hid (HB2.out.trans (hb3.mono HB2.out.size))
  have hat3 := hat2.below hb3
  have z3 := hat3.cell 0 rfl
  clear hb3 hH1 z2 hat2
  go_wp2_with fail
  refine hH2.mono ?_
  rintro e w4 ⟨rfl, hb4⟩
  have HB4 := Lib.hid (HB3.out.trans (hb4.mono HB3.out.size))
  clear hb4 hH2
  go_wp2_with fail
  go_ret
  exact ⟨rfl, HB4.out⟩
end Go.Proofs.YtppmcnpjglackaaGreatDoor

/- The law ExclBack, by walking its text. -/
namespace Go.Proofs.YtppmcnpjglackaaGreatDoor
open Go.RowKit
set_option linter.unusedSimpArgs false
set_option linter.unusedVariables false

set_option maxRecDepth 100000 in
set_option maxHeartbeats 4000000 in
theorem Ex.back_row (W : World) (A0 : Option Addr) (len cap : Nat) (zs : List Int) (hR : IsRow .i64 W A0 len cap zs) (hzb : ∀ x ∈ zs, -9223372036854775808 ≤ x ∧ x ≤ 9223372036854775807) (hL : Fi.Laid W) :
    Calls Tryz.prog 4 #[.slice A0 len cap] W fun e w' => e = .returned (.bool true) ∧ Below W.heap.size W w' := by
  have hM : Fi.LaidM W := hL.1
  clear hzb
  obtain ⟨r1, r2, r3⟩ := hR.len_le
  have hS0 := hR.sl (min len 40) (Nat.min_le_left _ _)
  have hl0 : (zs.take (min len 40)).length = min len 40 := by rw [List.length_take, r3]; omega
  obtain ⟨l, hle⟩ : ∃ l, zs.take (min len 40) = l := ⟨_, rfl⟩
  rw [hle] at hS0 hl0
  have hl30 : l.length ≤ 40 := by omega
  have HL0 := Lib.hid hl0
  have hlm : len ≤ maxLen := Nat.le_trans r1 r2
  clear hle hl0 hR
  go_enter Tryz.func4, Tryz.ntmps4
  go_wp2_with fail
  refine (Ex.awake_any _ hM).mono ?_
  rintro e w1 ⟨rfl, hb1⟩
  have hCS := Ch.chars_any A0 len cap W.heap.size l 40 w1 hb1.size HL0.out (by decide) (hS0.below hb1 (Nat.le_refl _)) hlm
  have HB1 := Lib.hid hb1
  have HL1 := Lib.hid (hL.below hb1)
  have HM1 := Lib.hid (hM.below hb1)
  clear hb1 hL hM hS0 hlm
  go_wp2_with fail
  refine hCS.mono ?_
  rintro e w2 ⟨A2, c2, rfl, hown2, hb2⟩
  obtain ⟨cs, hcs⟩ : ∃ cs, l.map Ch.K = cs := ⟨_, rfl⟩
  rw [hcs] at hown2 ⊢
  have hcsn : cs.length ≤ 40 := by rw [← hcs, List.length_map]; exact hl30
  have hCC := C.chars_any A2 cs.length c2 w2.heap.size cs w2 rfl (by omega) (Nat.le_refl _) (Sl.of_own hown2)
  obtain ⟨hSok, hSmem⟩ := C.chars_spec cs
  have hScnt := C.chars_count cs
  have hSlen := C.chars_len cs
  obtain ⟨S, hSe⟩ : ∃ S, C.chars cs = S := ⟨_, rfl⟩
  rw [hSe] at hCC hSok hSmem hScnt hSlen
  obtain ⟨nS, hnS⟩ : ∃ q, S.length = q := ⟨_, rfl⟩
  have HNS := Lib.hid hnS
  have HSOK := Lib.hid hSok
  have hSC : ∀ d, C.mem S d = true → C.isC d = true := fun d hd => by
    rw [hSmem d, Bool.and_eq_true] at hd
    exact hd.2
  have hag := C.chars_again hSok hSC
  have hnd := CS.nodup hSok
  have hXC : ∀ c ∈ C.all1 (C.rngs S), C.isC c = true := fun c hc => hSC c (CS.all1_is hSok hc)
  have hXn : (C.all1 (C.rngs S)).length ≤ 40 := by
    have h1 := C.all1_count hSok
    omega
  have HB2 := Lib.hid (HB1.out.trans (hb2.mono HB1.out.size))
  have HL2 := Lib.hid (HL1.out.below hb2)
  have HM2 := Lib.hid (HM1.out.below hb2)
  unfold RetSet at hCC
  rw [hnS] at hCC
  have hnS60 : nS ≤ 80 := by omega
  have HAG := Lib.hid hag
  have HND := Lib.hid hnd
  have HXC := Lib.hid hXC
  have HXN := Lib.hid hXn
  clear hcs hown2 hb2 hCS hSok hSmem hScnt hSlen hSe hnS hSC hag hnd hXC hXn
  go_wp2_with fail
  refine hCC.mono ?_
  rintro e w3 ⟨A3, c3, rfl, hown3, hb3⟩
  have HS3 := Lib.hid (Slt.of_own hown3)
  have HB3 := Lib.hid (HB2.out.trans (hb3.mono HB2.out.size))
  have HL3 := Lib.hid (HL2.out.below hb3)
  have HM3 := Lib.hid (HM2.out.below hb3)
  clear hown3 hb3 hCC
  obtain ⟨w4, hw4⟩ : ∃ w4, w3.alloc (.cells #[.slice A3 nS c3] 42) = w4 := ⟨_, rfl⟩
  have hb4 : Below w3.heap.size w3 w4 := by rw [← hw4]; exact (Below.refl _ _).alloc (Nat.le_refl _) _
  have hat4 : Rw.At w4 w3.heap.size 42 [.slice A3 nS c3] := by rw [← hw4]; exact Rw.At.new w3 42 [.slice A3 nS c3]
  have HS4 := Lib.hid (HS3.out.below hb4)
  have HB4 := Lib.hid (HB3.out.trans (hb4.mono HB3.out.size))
  have HL4 := Lib.hid (HL3.out.below hb4)
  have HM4 := Lib.hid (HM3.out.below hb4)
  have z4 := hat4.cell 0 rfl
  have hX := C.setchars_any A3 c3 nS w4.heap.size S w4 HNS.out (by omega) HSOK.out (Nat.le_refl _) HS4.out.sl
  obtain ⟨X, hXe⟩ : ∃ X, C.all1 (C.rngs S) = X := ⟨_, rfl⟩
  have HAG' := HAG.out
  have HND' := HND.out
  have HXC' := HXC.out
  have HXN' := HXN.out
  rw [hXe] at hX HAG' HND' HXC' HXN'
  have HXE := Lib.hid hXe
  have HPAR := Lib.hid (Ex.parse_btxt X HXC' HND' (by omega))
  have HAG2 := Lib.hid HAG'
  have HXC2 := Lib.hid HXC'
  have hXN2 : X.length ≤ 40 := HXN'
  have hbl := Ex.btxt_len X fun c hc => by
    have := HXC' c hc
    unfold C.isC at this
    have := of_decide_eq_true this
    omega
  have hbl2 : (Ex.btxt X).length ≤ 280 := by omega
  have HW4 := Lib.hid hw4
  clear hw4 hb4 hXe HAG' HND' HXC' HXN' hbl
  go_wp2_with fail
  rw [HW4.out]
  go_wp2_with fail
  refine hX.mono ?_
  rintro e w6 ⟨A5, c5, rfl, hown6, hb6⟩
  obtain ⟨n, hn⟩ : ∃ n, X.length = n := ⟨_, rfl⟩
  rw [hn] at hown6 hXN2 ⊢
  have hS6 := Sl.of_own hown6
  have HS6 := Lib.hid hS6
  have HN := Lib.hid hn
  have HSS := Lib.hid (HS4.out.below hb6)
  have HB6 := Lib.hid (HB4.out.trans (hb6.mono HB4.out.size))
  have HL6 := Lib.hid (HL4.out.below hb6)
  have HM6 := Lib.hid (HM4.out.below hb6)
  have hat6 := hat4.below hb6
  clear hown6 hS6 hn hb6 hX z4 hat4
  go_wp2_with fail
  go_loopw [4, 6, 17] (fun v4 _ i wr => ∃ (k : Nat) (T : ByteArray), k ≤ n ∧ i = .int .i64 k ∧ v4 = .string T ∧ T = ⟨(Ex.btxt (X.take k)).toArray⟩ ∧ T.size ≤ 7 * k ∧ Below w6.heap.size w6 wr) (fun _ _ i _ => n - (intOf i).toNat)
  case atStart => exact ⟨0, ⟨#[]⟩, Nat.zero_le _, rfl, rfl, rfl, Nat.le_refl _, Below.refl _ _⟩
  case round =>
    obtain ⟨k, T, hk, rfl, rfl, hT, hTs, hbel⟩ := hrel
    have HT := Lib.hid hT
    clear hT
    by_cases hlt : k < n
    · obtain ⟨x, hx⟩ : ∃ x, X[k]? = some x := ⟨_, List.getElem?_eq_getElem (by rw [HN.out]; exact hlt)⟩
      have hxc := (Ch.isC_iff _).1 (HXC2.out x (List.mem_of_getElem? hx))
      obtain ⟨ab, ao, rfl, hab, hac⟩ := HS6.out (by rw [List.length_map, HN.out]; omega)
      have hc := hac k (by rw [List.length_map, HN.out]; exact hlt)
      rw [List.getElem?_map, hx, Option.map_some, ← (bcell hbel).1 _ _ hab] at hc
      have hRT := Rw.rtext_int x hxc.1 (by omega)
      obtain ⟨tx, htx⟩ : ∃ y : ByteArray, ⟨(Fi.text x.toNat).toArray⟩ = y := ⟨_, rfl⟩
      simp only [htx] at hRT
      have htxs : tx.size ≤ 6 := by
        rw [← htx, Rw.ba_size]
        exact Fi.text_le x.toNat (by omega)
      have hsn := Ex.btxt_snoc (X.take k) x
      have htk : X.take (k + 1) = X.take k ++ [x] := by rw [List.take_add_one, hx]; rfl
      rw [← htk] at hsn
      have hfin : (⟨(Ex.btxt (X.take (k + 1))).toArray⟩ : ByteArray) = T ++ (tx ++ ⟨#[10]⟩) := by
        rw [hsn, HT.out, ← htx, show (⟨#[10]⟩ : ByteArray) = ⟨[10].toArray⟩ from rfl]
        simp only [Fi.ba_app]
      have kI : (k : Int) < n := by omega
      have ex : IntKind.i64.wrap x = x := by rw [IntKind.wrap_i64]; omega
      have s1 : (⟨#[10]⟩ : ByteArray).size = 1 := rfl
      have c1 : ¬ 9223372036854775807 < tx.size + (⟨#[10]⟩ : ByteArray).size := by omega
      have c2 : ¬ 9223372036854775807 < T.size + (tx ++ ⟨#[10]⟩).size := by rw [ByteArray.size_append]; omega
      have d5 : (T ++ (tx ++ ⟨#[10]⟩)).size ≤ 7 * (k + 1) := by simp only [ByteArray.size_append]; omega
      have habr : ab < wr.heap.size := Nat.lt_of_lt_of_le hab hbel.size
      have HFIN := Lib.hid hfin
      have HBEL := Lib.hid hbel
      have D5 := Lib.hid d5
      have hz := hbel.size
      clear hx hac htx hsn htk hfin hbel s1 d5 hTs hxc
      go_wp2_with fail
      refine (hRT _).mono ?_
      rintro e w7 ⟨rfl, hb7⟩
      have HB7 := Lib.hid (HBEL.out.trans (hb7.mono hz))
      clear hb7
      go_wp2_with fail
      exact ⟨⟨k + 1, _, by omega, by go_num, rfl, HFIN.out.symm, D5.out, HB7.out⟩, by simp [intOf]; omega⟩
    · obtain rfl : k = n := by omega
      have kI : ¬ (k : Int) < k := by omega
      rw [List.take_of_length_le (by rw [HN.out]; exact Nat.le_refl _)] at HT
      have hTE : T = ⟨(Ex.btxt X).toArray⟩ := HT.out
      have hatr := hat6.below hbel
      have HSR := Lib.hid (HSS.out.below hbel)
      have HBR := Lib.hid (HB6.out.trans (hbel.mono HB6.out.size))
      have HLR := Lib.hid (HL6.out.below hbel)
      have HMR := Lib.hid (HM6.out.below hbel)
      have hTX : ∀ w, Slt w 21 A3 (S.map (Value.int .i32)) → Fi.Laid w → Calls Tryz.prog 18 #[.agg #[.slice A3 nS c3]] w fun e w' => e = .returned (.string T) ∧ Below w.heap.size w w' := fun w h1 h2 => by
        rw [hTE]
        exact Ex.text_any A3 c3 nS S X w HNS.out (by omega) HSOK.out HXE.out (fun c hc => HXC2.out c hc) (by rw [HN.out]; omega) h1 h2
      have hTP : T.size ≤ 300000 := by omega
      have hPR := Ex.parse_any T hTP X (by rw [hTE]; exact HPAR.out)
      unfold Ex.RetParse at hPR
      rw [HAG2.out, HNS.out] at hPR
      have HTX := Lib.hid hTX
      have HPR := Lib.hid hPR
      have zr := hatr.cell 0 rfl
      have h1 := hTX wr HSR.out HLR.out
      clear hbel hat6 hTE hTX hPR hTs
      go_wp2_with fail
      refine h1.mono ?_
      rintro e w8 ⟨rfl, hb8⟩
      have HS8 := Lib.hid (HSR.out.below hb8)
      have HB8 := Lib.hid (HBR.out.trans (hb8.mono HBR.out.size))
      have HL8 := Lib.hid (HLR.out.below hb8)
      have h2 := HPR.out w8 (HMR.out.below hb8)
      have hat8 := hatr.below hb8
      clear hb8 h1 zr hatr
      go_wp2_with fail
      refine h2.mono ?_
      rintro e w9 ⟨A8, c8, rfl, hS9, hb9⟩
      obtain ⟨wa, hwa⟩ : ∃ wa, w9.alloc (.cells #[.slice A8 nS c8] 42) = wa := ⟨_, rfl⟩
      have hba : Below w9.heap.size w9 wa := by rw [← hwa]; exact (Below.refl _ _).alloc (Nat.le_refl _) _
      have hata : Rw.At wa w9.heap.size 42 [.slice A8 nS c8] := by rw [← hwa]; exact Rw.At.new w9 42 [.slice A8 nS c8]
      have hat9 := hat8.below hb9
      have hlt3 : w3.heap.size < w9.heap.size := hat9.lt
      have hata3 := hat9.below hba
      have za := hata3.cell 0 rfl
      have HSA := Lib.hid ((HS8.out.below hb9).below hba)
      have HSA8 := Lib.hid (hS9.below hba)
      have HBA := Lib.hid (HB8.out.trans ((hb9.trans (hba.mono hb9.size)).mono HB8.out.size))
      have h3 := HTX.out wa HSA.out ((HL8.out.below hb9).below hba)
      subst hwa
      clear hb9 hba h2 hat8 hat9 hS9
      go_wp2_with fail
      refine h3.mono ?_
      rintro e wb ⟨rfl, hbb⟩
      have hatb := hata.below hbb
      have hatb3 := hata3.below hbb
      have zb := hatb.cell 0 rfl
      have zb3 := hatb3.cell 0 rfl
      have hSM := C.same_any A8 A3 c8 c3 nS nS _ S S wb HNS.out HNS.out (by omega) (by omega) (Nat.le_refl _) (HSA8.out.below hbb).sl (HSA.out.below hbb).sl
      rw [decide_eq_true rfl] at hSM
      have HBB := Lib.hid (HBA.out.trans (hbb.mono HBA.out.size))
      clear hbb h3 hata hata3 hatb hatb3 za
      go_wp2_with fail
      refine hSM.mono ?_
      rintro e wc ⟨rfl, hbc⟩
      have HBC := Lib.hid (HBB.out.trans (hbc.mono HBB.out.size))
      clear hbc hSM
      go_wp2_with fail
      go_ret
      exact ⟨rfl, HBC.out⟩
end Go.Proofs.YtppmcnpjglackaaGreatDoor
