/- The law ExclNotes, by walking its text. -/
import Derived.Test.YtppmcnpjglackaaDoorExWalk
import Derived.Test.YtppmcnpjglackaaDoorCpSrt
import Derived.Test.YtppmcnpjglackaaDoorCpSame
import Derived.Test.YtppmcnpjglackaaDoorCpFind
import Derived.Test.YtppmcnpjglackaaDoorCpCount
import Derived.Test.YtppmcnpjglackaaDoorChar
import Derived.Test.YtppmcnpjglackaaDoorRwRLine
import Derived.Test.YtppmcnpjglackaaDoorFiLaw
import Derived.Laws.RangeAny
import Derived.Laws.Runes
namespace Go.Proofs.YtppmcnpjglackaaDoor
open Go.RowKit
set_option linter.unusedSimpArgs false
set_option linter.unusedVariables false

def Ex.lit : List UInt8 := [48, 57, 53, 56, 32, 35, 32, 81, 65, 10, 10, 48, 57, 53, 57]
theorem Ex.lit_parse : Ex.parse Ex.lit = some [2392, 2393] := by decide +kernel
theorem Ex.lit_set : C.chars [2392, 2393] = [2392, 2394] := by
  obtain ⟨h1, h2⟩ := C.chars_spec [2392, 2393]
  refine C.canon _ _ h1.1 (by unfold C.srt; simp) fun d => ?_
  rw [h2 d]
  simp only [C.mem, C.isC, List.mem_cons, List.not_mem_nil, or_false]
  by_cases a1 : d = 2392
  · subst a1; rfl
  · by_cases a2 : d = 2393
    · subst a2; rfl
    · rw [decide_eq_false (by omega), Bool.false_and]
      by_cases a3 : 2392 ≤ d
      · rw [decide_eq_true a3, decide_eq_true (show (2394 : Int) ≤ d by omega)]; rfl
      · rw [decide_eq_false a3]; rfl
theorem Ex.lit_ok : C.ok [2392, 2394] := by
  refine ⟨by unfold C.srt; simp, ?_, rfl⟩
  intro x hx
  simp at hx
  omega

set_option maxRecDepth 100000 in
set_option maxHeartbeats 4000000 in
theorem Ex.awake_any (w : World) (hL : Fi.LaidM w) : Calls Tryd.prog 9 #[] w fun e w' => e = .returned (.bool true) ∧ Below w.heap.size w w' := by
  have hP := Ex.parse_any ⟨#[48, 57, 53, 56, 32, 35, 32, 81, 65, 10, 10, 48, 57, 53, 57]⟩ (by decide) _ Ex.lit_parse w hL
  unfold Ex.RetParse at hP
  rw [Ex.lit_set] at hP
  go_enter Tryd.func9, Tryd.ntmps9
  go_wp2_with fail
  refine hP.mono ?_
  rintro e w1 ⟨A, c, rfl, hS, hb⟩
  have hba : Below w1.heap.size w1 (w1.alloc (.cells #[.slice A 2 c] 39)) := (Below.refl _ _).alloc (Nat.le_refl _) _
  have hat : Rw.At (w1.alloc (.cells #[.slice A 2 c] 39)) w1.heap.size 39 [.slice A 2 c] := Rw.At.new w1 39 [.slice A 2 c]
  have hSa := hS.below hba
  have hC := C.count_any A c 2 _ [2392, 2394] _ rfl (by decide) Ex.lit_ok (Nat.le_refl _) hSa.sl
  rw [show C.count [2392, 2394] = 2 from by decide] at hC
  have HB := Lib.hid (hb.trans (hba.mono hb.size))
  have HSA := Lib.hid hSa
  have z0 := hat.cell 0 rfl
  clear hS hb hSa hba hP
  go_wp2_with fail
  refine hC.mono ?_
  rintro e w2 ⟨rfl, hb2⟩
  have hH1 := C.has_any A c 2 _ [2392, 2394] 2392 w2 rfl (by decide) Ex.lit_ok.1 (Nat.le_refl _) (HSA.out.below hb2).sl
  rw [show C.mem [2392, 2394] 2392 = true from by decide] at hH1
  have HB2 := Lib.hid (HB.out.trans (hb2.mono HB.out.size))
  have HS2 := Lib.hid (HSA.out.below hb2)
  have hat2 := hat.below hb2
  have z2 := hat2.cell 0 rfl
  clear hb2 hC z0 hat
  go_wp2_with fail
  refine hH1.mono ?_
  rintro e w3 ⟨rfl, hb3⟩
  have hH2 := C.has_any A c 2 _ [2392, 2394] 2393 w3 rfl (by decide) Ex.lit_ok.1 (Nat.le_refl _) (HS2.out.below hb3).sl
  rw [show C.mem [2392, 2394] 2393 = true from by decide] at hH2
  have HB3 := Lib.hid (HB2.out.trans (hb3.mono HB2.out.size))
  have hat3 := hat2.below hb3
  have z3 := hat3.cell 0 rfl
  clear hb3 hH1 z2 hat2
  go_wp2_with fail
  refine hH2.mono ?_
  rintro e w4 ⟨rfl, hb4⟩
  have HB4 := Lib.hid (HB3.out.trans (hb4.mono HB3.out.size))
  clear hb4 hH2
  go_wp2_with fail
  go_ret
  exact ⟨rfl, HB4.out⟩

theorem Ex.enc_ascii : ∀ i : Fin 95, Utf8.encode (32 + (i.val : Int)) = ⟨#[UInt8.ofNat (32 + i.val)]⟩ := by decide +kernel
theorem Ex.enc_plain (p : ByteArray) (d : Int) (h0 : 32 ≤ d) (h1 : d ≤ 126) (hp : Rw.plainL p.data.toList = true) : Rw.plainL (p ++ Utf8.encode d).data.toList = true ∧ (p ++ Utf8.encode d).size = p.size + 1 ∧ (Utf8.encode d).size = 1 := by
  obtain ⟨i, hi⟩ : ∃ i : Nat, d = 32 + i := ⟨(d - 32).toNat, by omega⟩
  have he := Ex.enc_ascii ⟨i, by omega⟩
  simp only at he
  rw [← hi] at he
  rw [he]
  refine ⟨?_, by rw [ByteArray.size_append]; rfl, rfl⟩
  rw [show (p ++ ⟨#[UInt8.ofNat (32 + i)]⟩ : ByteArray).data.toList = p.data.toList ++ [UInt8.ofNat (32 + i)] by simp]
  unfold Rw.plainL at hp ⊢
  rw [List.all_append, hp]
  have : (UInt8.ofNat (32 + i)).toNat = 32 + i := by rw [UInt8.toNat_ofNat', Nat.mod_eq_of_lt (by omega)]
  simp [this]
  omega
theorem Ex.width_pos (s : ByteArray) (pos : Nat) (h : pos < s.size) : 1 ≤ (Utf8.decode s pos).2 := by
  by_cases ha : (s[pos]'h).toNat < 128
  · rw [decode_ascii s pos h ha]
    exact Nat.le_refl _
  · exact (decode_high s pos h (by omega)).2

theorem Ch.and_1 (n : Int) : bits .and .i64 n 1 = n % 2 := by
  have hm : (BitVec.ofInt 64 1).toNat = 2 ^ 1 - 1 := by decide
  have key : (BitVec.ofInt 64 n &&& BitVec.ofInt 64 1).toNat = (n % ((2 ^ 64 : Nat) : Int)).toNat % 2 ^ 1 := by
    rw [BitVec.toNat_and, BitVec.toNat_ofInt, hm, Nat.and_two_pow_sub_one_eq_mod]
  show IntKind.i64.wrap ((BitVec.ofInt 64 n &&& BitVec.ofInt 64 1).toNat : Nat) = n % 2
  rw [key, IntKind.wrap_i64]
  omega
theorem Ex.all_snoc (p : List UInt8) (l : List Int) (c : Int) : Ex.txt (Ex.all p (l ++ [c])) = Ex.txt (Ex.all p l) ++ ((if l.length % 2 = 0 then [32, 32] else []) ++ (((Fi.text c.toNat ++ [32, 32, 35]) ++ p) ++ [10, 32, 32, 32, 10])) := by
  have e : Ex.all p (l ++ [c]) = Ex.all p l ++ [Ex.ln p l.length c, [32, 32, 32]] := by
    unfold Ex.all
    rw [Ex.body_snoc]
    simp
  rw [e, Ex.txt_app]
  congr 1
  unfold Ex.txt Ex.ln
  simp

set_option maxRecDepth 100000 in
set_option maxHeartbeats 4000000 in
theorem Ex.notes_row (W : World) (A0 : Option Addr) (len cap : Nat) (zs : List Int) (hR : IsRow .i64 W A0 len cap zs) (hzb : ∀ x ∈ zs, -9223372036854775808 ≤ x ∧ x ≤ 9223372036854775807) (s : ByteArray) (hs : s.size ≤ maxLen) (hL : Fi.LaidM W) :
    Calls Tryd.prog 4 #[.slice A0 len cap, .string s] W fun e w' => e = .returned (.bool true) ∧ Below W.heap.size W w' := by
  obtain ⟨r1, r2, r3⟩ := hR.len_le
  have hS0 := hR.sl (min len 30) (Nat.min_le_left _ _)
  have hl0 : (zs.take (min len 30)).length = min len 30 := by rw [List.length_take, r3]; omega
  obtain ⟨l, hle⟩ : ∃ l, zs.take (min len 30) = l := ⟨_, rfl⟩
  rw [hle] at hS0 hl0
  have hl30 : l.length ≤ 30 := by omega
  have hcut : ∀ W : World, Calls Tryd.prog 12 #[.string s, .int .i64 20] W fun e w' => e = .returned (.string (Fi.cutS s 20)) ∧ W = w' := fun W => Fi.cut_any s 20 W hs
  obtain ⟨t, ht⟩ : ∃ t, Fi.cutS s 20 = t := ⟨_, rfl⟩
  have ht20 : t.size ≤ 20 := by rw [← ht]; exact Fi.cutS_size s 20
  rw [ht] at hcut
  have HL0 := Lib.hid hl0
  have hlm : len ≤ maxLen := Nat.le_trans r1 r2
  clear hle hl0 hR hzb ht
  go_enter Tryd.func4, Tryd.ntmps4
  go_wp2_with fail
  refine (Ex.awake_any _ hL).mono ?_
  rintro e w1 ⟨rfl, hb1⟩
  have hCS := Ch.chars_any A0 len cap W.heap.size l 30 w1 hb1.size HL0.out (by decide) (hS0.below hb1 (Nat.le_refl _)) hlm
  have HB1 := Lib.hid hb1
  have HL1 := Lib.hid (hL.below hb1)
  clear hb1 hL hS0 hlm
  go_wp2_with fail
  refine hCS.mono ?_
  rintro e w2 ⟨A2, c2, rfl, hown2, hb2⟩
  obtain ⟨cs, hcs⟩ : ∃ cs, l.map Ch.K = cs := ⟨_, rfl⟩
  rw [hcs] at hown2 ⊢
  have hcsn : cs.length ≤ 30 := by rw [← hcs, List.length_map]; exact hl30
  have hisC : ∀ c ∈ cs, C.isC c = true := fun c hc => by
    rw [← hcs] at hc
    obtain ⟨x, _, rfl⟩ := List.mem_map.1 hc
    exact Ch.K_is x
  have hCC := C.chars_any A2 cs.length c2 w2.heap.size cs w2 rfl (by omega) (Nat.le_refl _) (Sl.of_own hown2)
  obtain ⟨hSok, hSmem⟩ := C.chars_spec cs
  have hScnt := C.chars_count cs
  have hSlen := C.chars_len cs
  obtain ⟨S, hSe⟩ : ∃ S, C.chars cs = S := ⟨_, rfl⟩
  rw [hSe] at hCC hSok hSmem hScnt hSlen
  obtain ⟨nS, hnS⟩ : ∃ q, S.length = q := ⟨_, rfl⟩
  have HNS := Lib.hid hnS
  have HSOK := Lib.hid hSok
  have hSC : ∀ d, C.mem S d = true → C.isC d = true := fun d hd => by
    rw [hSmem d, Bool.and_eq_true] at hd
    exact hd.2
  have hag := C.chars_again hSok hSC
  have hnd := CS.nodup hSok
  have hXC : ∀ c ∈ C.all1 (C.rngs S), C.isC c = true := fun c hc => hSC c (CS.all1_is hSok hc)
  have hXn : (C.all1 (C.rngs S)).length ≤ 30 := by
    have h1 := C.all1_count hSok
    omega
  have HB2 := Lib.hid (HB1.out.trans (hb2.mono HB1.out.size))
  have HL2 := Lib.hid (HL1.out.below hb2)
  unfold RetSet at hCC
  rw [hnS] at hCC
  have hnS60 : nS ≤ 60 := by omega
  have HAG := Lib.hid hag
  have HND := Lib.hid hnd
  have HXC := Lib.hid hXC
  have HXN := Lib.hid hXn
  have HISC := Lib.hid hisC
  clear hcs hown2 hb2 hCS hSok hSmem hScnt hSlen hSe hnS hSC hag hnd hXC hXn hisC
  go_wp2_with fail
  refine hCC.mono ?_
  rintro e w3 ⟨A3, c3, rfl, hown3, hb3⟩
  have HS3 := Lib.hid (Slt.of_own hown3)
  have HB3 := Lib.hid (HB2.out.trans (hb3.mono HB2.out.size))
  have HL3 := Lib.hid (HL2.out.below hb3)
  clear hown3 hb3 hCC
  go_wp2_with fail
  refine (hcut _).mono ?_
  rintro e w4 ⟨rfl, rfl⟩
  obtain ⟨w4, hw4⟩ : ∃ w4, w3.alloc (.cells #[.slice A3 nS c3] 39) = w4 := ⟨_, rfl⟩
  have hb4 : Below w3.heap.size w3 w4 := by rw [← hw4]; exact (Below.refl _ _).alloc (Nat.le_refl _) _
  have hat4 : Rw.At w4 w3.heap.size 39 [.slice A3 nS c3] := by rw [← hw4]; exact Rw.At.new w3 39 [.slice A3 nS c3]
  rw [hw4]
  have HS4 := Lib.hid (HS3.out.below hb4)
  have HB4 := Lib.hid (HB3.out.trans (hb4.mono HB3.out.size))
  have HL4 := Lib.hid (HL3.out.below hb4)
  clear hw4 hb4
  go_wp2_with fail
  go_loopw [6, 8] (fun v6 _ w' => ∃ (pos : Nat) (p : ByteArray), w' = w4.iter t pos ∧ v6 = .string p ∧ Rw.plainL p.data.toList = true ∧ p.size ≤ pos ∧ p.size ≤ t.size) (fun _ _ w' => t.size - w'.iterPos w4.heap.size)
  case atStart => exact ⟨0, ⟨#[]⟩, rfl, rfl, rfl, Nat.zero_le _, Nat.zero_le _⟩
  case round =>
    obtain ⟨pos, p, rfl, rfl, hp, hpp, hpt⟩ := hrel
    by_cases hlt : pos < t.size
    · have hnx : ∀ ty, (Instr.next (.pointer (some ⟨w4.heap.size, 0, none⟩)) true ty).run Tryd.prog (w4.iter t pos) = _ := fun ty => run_next_any w4 t pos ty hlt
      have hwd := Ex.width_pos t pos hlt
      obtain ⟨d, hd⟩ : ∃ d : Nat, (Utf8.decode t pos).1 = d := ⟨_, rfl⟩
      obtain ⟨wd, hwd'⟩ : ∃ wd : Nat, (Utf8.decode t pos).2 = wd := ⟨_, rfl⟩
      rw [hwd'] at hwd
      simp only [hd, hwd'] at hnx
      clear hd hwd'
      by_cases h32 : (32 : Int) ≤ d
      · by_cases h126 : (d : Int) ≤ 126
        · obtain ⟨g1, g2, g3⟩ := Ex.enc_plain p d h32 h126 hp
          have G1 := Lib.hid g1
          have G2 := Lib.hid g2
          have hcat : ¬ 9223372036854775807 < p.size + (Utf8.encode (d : Int)).size := by omega
          clear g1 g2 hp
          go_wp2_with fail
          go_roundw
          case rel => exact ⟨pos + wd, _, rfl, rfl, G1.out, by rw [G2.out]; omega, by rw [G2.out]; omega⟩
          case measure => simp; omega
        · have HPP := Lib.hid hp
          clear hp
          go_wp2_with fail
          go_roundw
          case rel => exact ⟨pos + wd, p, rfl, rfl, HPP.out, by omega, hpt⟩
          case measure => simp; omega
      · have HPP := Lib.hid hp
        clear hp
        go_wp2_with fail
        go_roundw
        case rel => exact ⟨pos + wd, p, rfl, rfl, HPP.out, by omega, hpt⟩
        case measure => simp; omega
    · have hnx : ∀ ty, (Instr.next (.pointer (some ⟨w4.heap.size, 0, none⟩)) true ty).run Tryd.prog (w4.iter t pos) = _ := fun ty => run_next_end w4 t pos ty hlt
      have hb5 : Below w4.heap.size w4 (w4.iter t pos) := (Below.refl _ _).alloc (Nat.le_refl _) _
      have hp20 : p.size ≤ 20 := by omega
      have hpl : p.data.toList.length = p.size := by simp
      have hat5 := hat4.below hb5
      have z5 := hat5.cell 0 rfl
      have hX := C.setchars_any A3 c3 nS (w4.iter t pos).heap.size S (w4.iter t pos) HNS.out (by omega) HSOK.out (Nat.le_refl _) (HS4.out.below hb5).sl
      have HS5 := Lib.hid (HS4.out.below hb5)
      have HB5 := Lib.hid (HB4.out.trans (hb5.mono HB4.out.size))
      have HL5 := Lib.hid (HL4.out.below hb5)
      obtain ⟨X, hXe⟩ : ∃ X, C.all1 (C.rngs S) = X := ⟨_, rfl⟩
      have HAG' := HAG.out
      have HND' := HND.out
      have HXC' := HXC.out
      have HXN' := HXN.out
      rw [hXe] at hX HAG' HND' HXC' HXN'
      have hparse := Ex.parse_all hp (by omega) X HXC' HND' (by omega)
      have HPAR := Lib.hid hparse
      have HAG2 := Lib.hid HAG'
      have HXC2 := Lib.hid HXC'
      have hXN2 : X.length ≤ 30 := HXN'
      have q0 : (⟨#[35, 32]⟩ : ByteArray).size = 2 := rfl
      have q1 : (⟨#[10, 10]⟩ : ByteArray).size = 2 := rfl
      have hcat1 : ¬ 9223372036854775807 < (⟨#[35, 32]⟩ : ByteArray).size + p.size := by omega
      have hcat2 : ¬ 9223372036854775807 < ((⟨#[35, 32]⟩ : ByteArray) ++ p).size + (⟨#[10, 10]⟩ : ByteArray).size := by rw [ByteArray.size_append]; omega
      have h0 : ((⟨#[35, 32]⟩ : ByteArray) ++ p ++ ⟨#[10, 10]⟩) = ⟨(Ex.txt (Ex.all p.data.toList [])).toArray⟩ := by
        rw [show (⟨#[35, 32]⟩ : ByteArray) = ⟨[35, 32].toArray⟩ from rfl, show (⟨#[10, 10]⟩ : ByteArray) = ⟨[10, 10].toArray⟩ from rfl, ← Fi.mk_data p]
        simp only [Fi.ba_app]
        unfold Ex.txt Ex.all Ex.body
        simp
      have h0s : ((⟨#[35, 32]⟩ : ByteArray) ++ p ++ ⟨#[10, 10]⟩).size ≤ 200 := by rw [ByteArray.size_append, ByteArray.size_append]; omega
      obtain ⟨T0, hT0⟩ : ∃ T0, (⟨#[35, 32]⟩ : ByteArray) ++ p ++ ⟨#[10, 10]⟩ = T0 := ⟨_, rfl⟩
      rw [hT0] at h0 h0s
      have HT0 := Lib.hid hT0
      have H0 := Lib.hid h0
      clear hp hb5 hXe HAG' HND' HXC' HXN' hparse hpl hT0 h0 q0 q1
      go_wp2_with fail
      refine hX.mono ?_
      rintro e w6 ⟨A5, c5, rfl, hown6, hb6⟩
      obtain ⟨n, hn⟩ : ∃ n, X.length = n := ⟨_, rfl⟩
      rw [hn] at hown6 hXN2 ⊢
      have hS6 := Sl.of_own hown6
      have HS6 := Lib.hid hS6
      have HN := Lib.hid hn
      have HSS := Lib.hid (HS5.out.below hb6)
      have HB6 := Lib.hid (HB5.out.trans (hb6.mono HB5.out.size))
      have HL6 := Lib.hid (HL5.out.below hb6)
      have hat6 := hat5.below hb6
      clear hown6 hS6 hn hb6 hX hnx z5 hat5 hat4
      go_wp2_with fail
      rw [HT0.out]
      go_loopw [9, 10, 11, 41] (fun v9 _ _ i wr => ∃ (k : Nat) (T : ByteArray), k ≤ n ∧ i = .int .i64 k ∧ v9 = .string T ∧ T = ⟨(Ex.txt (Ex.all p.data.toList (X.take k))).toArray⟩ ∧ T.size ≤ 200 + 200 * k ∧ Below w6.heap.size w6 wr) (fun _ _ _ i _ => n - (intOf i).toNat)
      case atStart => exact ⟨0, T0, Nat.zero_le _, rfl, rfl, H0.out, by omega, Below.refl _ _⟩
      case round =>
        obtain ⟨k, T, hk, rfl, rfl, hT, hTs, hbel⟩ := hrel
        have HT := Lib.hid hT
        clear hT
        by_cases hlt : k < n
        · obtain ⟨x, hx⟩ : ∃ x, X[k]? = some x := ⟨_, List.getElem?_eq_getElem (by rw [HN.out]; exact hlt)⟩
          have hxc := (Ch.isC_iff _).1 (HXC2.out x (List.mem_of_getElem? hx))
          obtain ⟨ab, ao, rfl, hab, hac⟩ := HS6.out (by rw [List.length_map, HN.out]; omega)
          have hc := hac k (by rw [List.length_map, HN.out]; exact hlt)
          rw [List.getElem?_map, hx, Option.map_some, ← (bcell hbel).1 _ _ hab] at hc
          have hRT := Rw.rtext_int x hxc.1 (by omega)
          obtain ⟨tx, htx⟩ : ∃ y : ByteArray, ⟨(Fi.text x.toNat).toArray⟩ = y := ⟨_, rfl⟩
          simp only [htx] at hRT
          have htxs : tx.size ≤ 6 := by
            rw [← htx, Rw.ba_size]
            exact Fi.text_le x.toNat (by omega)
          have hsn := Ex.all_snoc p.data.toList (X.take k) x
          have htk : X.take (k + 1) = X.take k ++ [x] := by rw [List.take_add_one, hx]; rfl
          have hkl : (X.take k).length = k := by rw [List.length_take, HN.out]; omega
          rw [hkl, ← htk] at hsn
          have hfin : (⟨(Ex.txt (Ex.all p.data.toList (X.take (k + 1)))).toArray⟩ : ByteArray) = (if k % 2 = 0 then T ++ ⟨#[32, 32]⟩ else T) ++ (tx ++ ⟨#[32, 32, 35]⟩ ++ p ++ ⟨#[10, 32, 32, 32, 10]⟩) := by
            rw [hsn, HT.out, ← htx, show (⟨#[32, 32]⟩ : ByteArray) = ⟨[32, 32].toArray⟩ from rfl, show (⟨#[32, 32, 35]⟩ : ByteArray) = ⟨[32, 32, 35].toArray⟩ from rfl, show (⟨#[10, 32, 32, 32, 10]⟩ : ByteArray) = ⟨[10, 32, 32, 32, 10].toArray⟩ from rfl]
            conv => rhs; rw [← Fi.mk_data p]
            by_cases h2 : k % 2 = 0
            · rw [if_pos h2, if_pos h2]
              simp only [Fi.ba_app]
              simp
            · rw [if_neg h2, if_neg h2]
              simp only [Fi.ba_app]
              simp
          have kI : (k : Int) < n := by omega
          have ex : IntKind.i64.wrap x = x := by rw [IntKind.wrap_i64]; omega
          have e1 := Ch.and_1 (k : Int)
          have s1 : (⟨#[32, 32]⟩ : ByteArray).size = 2 := rfl
          have s2 : (⟨#[32, 32, 35]⟩ : ByteArray).size = 3 := rfl
          have s3 : (⟨#[10, 32, 32, 32, 10]⟩ : ByteArray).size = 5 := rfl
          have c1 : ¬ 9223372036854775807 < tx.size + (⟨#[32, 32, 35]⟩ : ByteArray).size := by omega
          have c2 : ¬ 9223372036854775807 < (tx ++ ⟨#[32, 32, 35]⟩).size + p.size := by rw [ByteArray.size_append]; omega
          have c3' : ¬ 9223372036854775807 < (tx ++ ⟨#[32, 32, 35]⟩ ++ p).size + (⟨#[10, 32, 32, 32, 10]⟩ : ByteArray).size := by rw [ByteArray.size_append, ByteArray.size_append]; omega
          have c4 : ¬ 9223372036854775807 < T.size + (⟨#[32, 32]⟩ : ByteArray).size := by omega
          have c5' : ¬ 9223372036854775807 < (T ++ ⟨#[32, 32]⟩).size + (tx ++ ⟨#[32, 32, 35]⟩ ++ p ++ ⟨#[10, 32, 32, 32, 10]⟩).size := by simp only [ByteArray.size_append]; omega
          have c6 : ¬ 9223372036854775807 < T.size + (tx ++ ⟨#[32, 32, 35]⟩ ++ p ++ ⟨#[10, 32, 32, 32, 10]⟩).size := by simp only [ByteArray.size_append]; omega
          have d5 : (T ++ ⟨#[32, 32]⟩ ++ (tx ++ ⟨#[32, 32, 35]⟩ ++ p ++ ⟨#[10, 32, 32, 32, 10]⟩)).size ≤ 200 + 200 * (k + 1) := by simp only [ByteArray.size_append]; omega
          have d6 : (T ++ (tx ++ ⟨#[32, 32, 35]⟩ ++ p ++ ⟨#[10, 32, 32, 32, 10]⟩)).size ≤ 200 + 200 * (k + 1) := by simp only [ByteArray.size_append]; omega
          have habr : ab < wr.heap.size := Nat.lt_of_lt_of_le hab hbel.size
          have HFIN := Lib.hid hfin
          have HBEL := Lib.hid hbel
          have D5 := Lib.hid d5
          have D6 := Lib.hid d6
          have hz := hbel.size
          clear hx hac htx hsn htk hkl hfin hbel s1 s2 s3 d5 d6 hTs hxc
          by_cases h2 : k % 2 = 0
          · rw [if_pos h2] at HFIN
            have h2' : ((k : Int) % 2 == 0) = true := by simp; omega
            clear h2
            go_wp2_with fail
            refine (hRT _).mono ?_
            rintro e w7 ⟨rfl, hb7⟩
            have HB7 := Lib.hid (HBEL.out.trans (hb7.mono hz))
            clear hb7
            go_wp2_with fail
            exact ⟨⟨k + 1, _, by omega, by go_num, rfl, HFIN.out.symm, D5.out, HB7.out⟩, by simp [intOf]; omega⟩
          · rw [if_neg h2] at HFIN
            have h2' : ((k : Int) % 2 == 0) = false := by simp; omega
            clear h2
            go_wp2_with fail
            refine (hRT _).mono ?_
            rintro e w7 ⟨rfl, hb7⟩
            have HB7 := Lib.hid (HBEL.out.trans (hb7.mono hz))
            clear hb7
            go_wp2_with fail
            exact ⟨⟨k + 1, _, by omega, by go_num, rfl, HFIN.out.symm, D6.out, HB7.out⟩, by simp [intOf]; omega⟩
        · obtain rfl : k = n := by omega
          have kI : ¬ (k : Int) < k := by omega
          have hP := Ex.parse_any T (by omega) X (by rw [HT.out, List.take_of_length_le (by rw [HN.out]; exact Nat.le_refl _)]; exact HPAR.out) wr (HL6.out.below hbel)
          unfold Ex.RetParse at hP
          rw [HAG2.out, HNS.out] at hP
          have HSR := Lib.hid (HSS.out.below hbel)
          have HBR := Lib.hid (HB6.out.trans (hbel.mono HB6.out.size))
          have hatr := hat6.below hbel
          clear hbel hat6 hTs
          go_wp2_with fail
          refine hP.mono ?_
          rintro e w8 ⟨A8, c8, rfl, hS8, hb8⟩
          have hba : Below w8.heap.size w8 (w8.alloc (.cells #[.slice A8 nS c8] 39)) := (Below.refl _ _).alloc (Nat.le_refl _) _
          have hat8 := (hatr.below hb8).below hba
          have hat9 : Rw.At (w8.alloc (.cells #[.slice A8 nS c8] 39)) w8.heap.size 39 [.slice A8 nS c8] := Rw.At.new w8 39 [.slice A8 nS c8]
          have z8 := hat8.cell 0 rfl
          have z9 := hat9.cell 0 rfl
          have hSM := C.same_any A8 A3 c8 c3 nS nS _ S S (w8.alloc (.cells #[.slice A8 nS c8] 39)) HNS.out HNS.out (by omega) (by omega) (Nat.le_refl _) (hS8.below hba).sl ((HSR.out.below hb8).below hba).sl
          rw [decide_eq_true rfl] at hSM
          have hlt3 : w3.heap.size < w8.heap.size := (hatr.below hb8).lt
          have HB8 := Lib.hid (HBR.out.trans ((hb8.trans (hba.mono hb8.size)).mono HBR.out.size))
          clear hS8 hb8 hba hP hat8 hat9 hatr
          go_wp2_with fail
          refine hSM.mono ?_
          rintro e w9 ⟨rfl, hb9⟩
          have HB9 := Lib.hid (HB8.out.trans (hb9.mono HB8.out.size))
          clear hb9 hSM
          go_wp2_with fail
          go_ret
          exact ⟨rfl, HB9.out⟩
end Go.Proofs.YtppmcnpjglackaaDoor
