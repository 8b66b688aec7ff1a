/- The document's Text of links, by walking its text. -/
import Derived.Test.YtlcjpbcdemkfeaaDoorFaRef2
import Derived.Deep.DeepCutAuto
namespace Go.Proofs.YtlcjpbcdemkfeaaDoor
open Go.RowKit Go.Stop
set_option linter.unusedSimpArgs false
set_option linter.unusedVariables false

theorem F.word_int (u : Int) (h0 : 0 ≤ u) (h1 : u < 18446744073709551616) (w : World) :
    Calls Tryd.prog 48 #[.int .u64 u] w fun e w' => e = .returned (.string ⟨(Lib.decDigits u.toNat).toArray⟩) ∧ Below w.heap.size w w' := by
  have h := F.word_any u.toNat w (by omega)
  rw [show ((u.toNat : Nat) : Int) = u by omega] at h
  exact h
set_option maxRecDepth 100000 in
set_option maxHeartbeats 2000000 in
theorem F.digits_any (n : Int) (h0 : -9223372036854775808 ≤ n) (h1 : n ≤ 9223372036854775807) (w : World) :
    Calls Tryd.prog 33 #[.int .i64 n] w fun e w' => e = .returned (.string ⟨(Lib.itoa n).toArray⟩) ∧ Below w.heap.size w w' := by
  by_cases hn : n < 0
  · have hi : Lib.itoa n = 45 :: Lib.decDigits n.natAbs := if_pos hn
    have hl := F.itoa_len n h0 h1
    rw [hi, List.length_cons] at hl
    rw [hi]
    obtain ⟨d, hd⟩ : ∃ d, Lib.decDigits n.natAbs = d := ⟨_, rfl⟩
    rw [hd] at hl ⊢
    have HD := Lib.hid hd
    have hc : ¬ 9223372036854775807 < 1 + d.length := by omega
    clear hd hi
    go_enter Tryd.func33, Tryd.ntmps33
    go_wp2_with fail
    refine (F.word_int _ (by omega) (by omega) _).mono ?_
    rintro e w1 ⟨rfl, hb⟩
    rw [show (-(n + 1) + 1).toNat = n.natAbs by omega, HD.out]
    go_wp2
    go_ret
    exact ⟨by first | rfl | exact congrArg (fun x => Ending.returned (Value.string x)) (F.ba_app [45] d), hb⟩
  · have hi : Lib.itoa n = Lib.decDigits n.toNat := if_neg hn
    rw [hi]
    have hn0 : 0 ≤ n := by omega
    clear hi
    go_enter Tryd.func33, Tryd.ntmps33
    go_wp2_with fail
    refine (F.word_int _ (by omega) (by omega) _).mono ?_
    rintro e w1 ⟨rfl, hb⟩
    go_wp2
    go_ret
    exact ⟨rfl, hb⟩

def F.pre (ns : List ByteArray) : List UInt8 := ns.flatMap fun s => s.data.toList ++ [58, 32]
theorem F.pre_app (a b : List ByteArray) : F.pre (a ++ b) = F.pre a ++ F.pre b := by unfold F.pre; rw [List.flatMap_append]
theorem F.ba_ext {a b : ByteArray} (h : a.data.toList = b.data.toList) : a = b := by
  rcases a with ⟨⟨a⟩⟩
  rcases b with ⟨⟨b⟩⟩
  simp at h
  rw [h]
theorem F.ba_data (a b : ByteArray) : (a ++ b).data.toList = a.data.toList ++ b.data.toList := by simp
theorem F.join_last : ∀ (xs : List ByteArray) (y : ByteArray), Lib.join ((xs ++ [y]).map (·.data.toList)) [58, 32] = F.pre xs ++ y.data.toList
  | [], y => by simp [Lib.join_one, F.pre]
  | x :: t, y => by
    have ih := F.join_last t y
    rw [List.cons_append, List.map_cons, Lib.join_cons]
    have key : ∀ (l : List (List UInt8)), l ≠ [] → Lib.joinTail [58, 32] l = [58, 32] ++ Lib.join l [58, 32] := by
      intro l hl
      cases l with
      | nil => exact absurd rfl hl
      | cons z r => rw [Lib.join_cons]; simp [Lib.joinTail]
    rw [key _ (by simp), ih]
    simp [F.pre]
theorem F.pre_len : ∀ (ns : List ByteArray), (∀ s ∈ ns, s.size ≤ 10000) → (F.pre ns).length ≤ ns.length * 10002
  | [], _ => by simp [F.pre]
  | s :: t, h => by
    have h1 := h s (by simp)
    have h2 := F.pre_len t (fun x hx => h x (by simp [hx]))
    have e : F.pre (s :: t) = (s.data.toList ++ [58, 32]) ++ F.pre t := rfl
    have hs : s.data.toList.length = s.size := by simp
    rw [e, List.length_append, List.length_append, hs, List.length_cons]
    simp
    omega

/-- The document's Text is the program's. -/
theorem F.text_eq (l : List (Int × Int × ByteArray)) (h : l ≠ []) : F.text l = ⟨(F.pre (F.notes l) ++ (if F.line l = 0 then [] else (F.strLine (F.line l)).data.toList ++ [58, 32]) ++ (F.strCode (F.code l)).data.toList).toArray⟩ := by
  unfold F.text
  rw [if_neg h]
  congr 2
  unfold F.parts
  rw [F.join_last, F.pre_app]
  by_cases hl : F.line l = 0
  · rw [if_pos hl, if_pos hl]; simp [F.pre]
  · rw [if_neg hl, if_neg hl]; simp [F.pre]

set_option maxRecDepth 100000 in
set_option maxHeartbeats 4000000 in
theorem F.rtext_any (A : Option Addr) (cap N B : Nat) (l : List (Int × Int × ByteArray)) (w : World) (hl : l.length = N) (hlen : N ≤ 1000) (hB : B ≤ w.heap.size) (hA : Sl w B A (F.fl l)) (hok : F.okL l) :
    Calls Tryd.prog 14 #[.slice A N cap] w fun e w' => e = .returned (.string (F.text l)) ∧ Below w.heap.size w w' := by
  rcases Nat.eq_zero_or_pos N with h0 | hpos
  · obtain rfl : l = [] := List.eq_nil_of_length_eq_zero (by omega)
    subst h0
    go_enter Tryd.func14, Tryd.ntmps14
    go_wp2
    go_ret
    exact ⟨rfl, Below.refl _ _⟩
  · have hne : l ≠ [] := by intro h; subst h; simp at hl; omega
    rw [F.text_eq l hne]
    have hm1 : ¬ (N : Int) = 0 := by omega
    have HN1 := Lib.hid (F.rnotes_any A cap N B l w hl (by omega) hB hA)
    have hnl := F.notes_len l
    rw [hl] at hnl
    have hns := F.okL_notes hok
    obtain ⟨l1, l2⟩ := F.okL_line hok
    obtain ⟨k1, k2⟩ := F.okL_code hok
    have HLI := Lib.hid (fun w' hB' hA' => F.rline_any A cap N B l w' hl (by omega) hB' hA')
    have HCO := Lib.hid (fun w' hA' => F.rcode_any A cap N B l w' hl hA')
    have HA := Lib.hid hA
    obtain ⟨nts, hnts⟩ : ∃ nts, F.notes l = nts := ⟨_, rfl⟩
    obtain ⟨lv, hlv⟩ : ∃ lv, F.line l = lv := ⟨_, rfl⟩
    obtain ⟨cv, hcv⟩ : ∃ cv, F.code l = cv := ⟨_, rfl⟩
    rw [hnts] at HN1 hnl hns ⊢
    rw [hlv] at l1 l2 HLI ⊢
    rw [hcv] at k1 k2 HCO ⊢
    obtain ⟨m, hm⟩ : ∃ m, nts.length = m := ⟨_, rfl⟩
    rw [hm] at hnl
    have HM := Lib.hid hm
    have HNS := Lib.hid hns
    obtain ⟨R, hR⟩ : ∃ R : ByteArray, (⟨(F.pre nts ++ (if lv = 0 then [] else (F.strLine lv).data.toList ++ [58, 32]) ++ (F.strCode cv).data.toList).toArray⟩ : ByteArray) = R := ⟨_, rfl⟩
    rw [hR]
    have hRl : R.data.toList = F.pre nts ++ (if lv = 0 then [] else (F.strLine lv).data.toList ++ [58, 32]) ++ (F.strCode cv).data.toList := by rw [← hR]
    have HR := Lib.hid hRl
    clear hm hns hnts hlv hcv hok hl hA hne hR hRl
    go_enter Tryd.func14, Tryd.ntmps14
    go_wp2_with fail
    refine HN1.out.mono ?_
    rintro e w1 ⟨A1, c1, rfl, hown1, hb1⟩
    rw [HM.out] at hown1 ⊢
    have HS1 := Lib.hid (Sl.of_own hown1)
    have HB1 := Lib.hid hb1
    have hs1 := hb1.size
    clear hown1 hb1
    go_wp2
    go_loopw [12, 3] (fun vi vs wr => ∃ (i : Nat) (s3 : ByteArray), i ≤ m ∧ vi = .int .i64 i ∧ vs = .string s3 ∧ s3.data.toList = F.pre (nts.take i) ∧ s3.size ≤ i * 10002 ∧ w1 = wr) (fun vi _ _ => m - (intOf vi).toNat)
    case atStart => exact ⟨0, ⟨#[]⟩, by omega, rfl, rfl, rfl, by decide, rfl⟩
    case round =>
      obtain ⟨i, s3, hi, rfl, rfl, hd, hz, rfl⟩ := hrel
      have HD := Lib.hid hd
      clear hd
      by_cases hlt : (i : Int) < m
      · obtain ⟨s, hx⟩ : ∃ s, nts[i]? = some s := ⟨_, List.getElem?_eq_getElem (by rw [HM.out]; omega)⟩
        have hss := HNS.out s (List.mem_of_getElem? hx)
        have htk : F.pre (nts.take (i + 1)) = F.pre (nts.take i) ++ (s.data.toList ++ [58, 32]) := by rw [List.take_add_one, hx, F.pre_app]; simp [F.pre]
        obtain ⟨g, o, rfl, hg, hcell⟩ := HS1.out (by rw [List.length_map, HM.out]; omega)
        have hc := hcell i (by rw [List.length_map, HM.out]; omega)
        rw [List.getElem?_map, hx] at hc
        simp only [Option.map_some] at hc
        have HT := Lib.hid htk
        have n0 : (0 : Int) ≤ (i : Int) := by omega
        have q1 : ¬ 9223372036854775807 < s.size + 2 := by omega
        have q2 : ¬ 9223372036854775807 < s3.size + (s.size + 2) := by omega
        clear htk hx hcell
        go_wp2
        refine ⟨⟨i + 1, s3 ++ (s ++ ⟨#[58, 32]⟩), by omega, by go_num, rfl, ?_, ?_, trivial⟩, by simp [intOf]; omega⟩
        · rw [F.ba_data, F.ba_data, HT.out, HD.out]
        · rw [ByteArray.size_append, ByteArray.size_append]
          show s3.size + (s.size + 2) ≤ _
          omega
      · obtain rfl : i = m := by omega
        have hpre : s3.data.toList = F.pre nts := by rw [HD.out, List.take_of_length_le (by rw [HM.out]; exact Nat.le_refl _)]
        have HP := Lib.hid hpre
        have HA1 : Hid (Sl w1 w1.heap.size A (F.fl l)) := Lib.hid (HA.out.belowN HB1.out hB (by omega))
        have hz3 : s3.size ≤ 10002000 := by have : i * 10002 ≤ 1000 * 10002 := Nat.mul_le_mul (by omega) (Nat.le_refl _); omega
        clear hpre hz
        go_wp2_with fail
        refine (HLI.out _ (by omega) (HA.out.belowN HB1.out hB (Nat.le_refl _))).mono ?_
        rintro e w2 ⟨rfl, hb2⟩
        have HA2 : Hid (Sl w2 B A (F.fl l)) := Lib.hid ((HA.out.belowN HB1.out hB (Nat.le_refl _)).belowN hb2 (by omega) (Nat.le_refl _))
        have HB2 : Hid (Below w.heap.size w w2) := Lib.hid (HB1.out.trans (hb2.mono hs1))
        have hs2 := hb2.size
        clear hb2
        go_upto_if 23 with (fail)
        go_cut [3] (fun s3' wx => ∃ s4 : ByteArray, s3' = .string s4 ∧ s4.data.toList = F.pre nts ++ (if lv = 0 then [] else (F.strLine lv).data.toList ++ [58, 32]) ∧ s4.size ≤ 20000000 ∧ Sl wx B A (F.fl l) ∧ Below w.heap.size w wx)
        case first =>
          by_cases hlv : lv = 0
          · have HLV := Lib.hid hlv
            subst hlv
            go_wp2_with fail
            go_meet
            exact ⟨s3, rfl, by rw [HP.out]; simp, by omega, HA2.out, HB2.out⟩
          · have HLV := Lib.hid hlv
            go_wp2_with fail
            refine (HLI.out _ (by omega) HA2.out).mono ?_
            rintro e w3 ⟨rfl, hb3⟩
            have HA3 : Hid (Sl w3 B A (F.fl l)) := Lib.hid (HA2.out.belowN hb3 (by omega) (Nat.le_refl _))
            have HB3 : Hid (Below w.heap.size w w3) := Lib.hid (HB2.out.trans (hb3.mono HB2.out.size))
            have hs3 := hb3.size
            clear hb3
            go_wp2_with fail
            refine (F.digits_any lv l1 l2 _).mono ?_
            rintro e w4 ⟨rfl, hb4⟩
            have HA4 : Hid (Sl w4 B A (F.fl l)) := Lib.hid (HA3.out.belowN hb4 (by omega) (Nat.le_refl _))
            have HB4 : Hid (Below w.heap.size w w4) := Lib.hid (HB3.out.trans (hb4.mono HB3.out.size))
            have hil := F.itoa_len lv l1 l2
            have q1 : ¬ 9223372036854775807 < 5 + (Lib.itoa lv).length := by omega
            have q2 : ¬ 9223372036854775807 < 5 + (Lib.itoa lv).length + 2 := by omega
            have q3 : ¬ 9223372036854775807 < s3.size + (5 + (Lib.itoa lv).length + 2) := by omega
            clear hb4
            go_wp2_with fail
            go_meet
            refine ⟨_, rfl, ?_, ?_, HA4.out, HB4.out⟩
            · rw [if_neg HLV.out, F.ba_data, F.ba_data, HP.out]; rfl
            · rw [ByteArray.size_append, ByteArray.size_append, ByteArray.size_append]
              show s3.size + (5 + (Lib.itoa lv).toArray.size + 2) ≤ _
              rw [List.size_toArray]
              omega
        case rest =>
          obtain ⟨s4, rfl, hd4, hz4, hA4, hb4⟩ := hcut
          obtain ⟨w4, rfl⟩ : ∃ w4 : World, w4 = wc := ⟨_, rfl⟩
          have HD4 := Lib.hid hd4
          have HA4 := Lib.hid hA4
          have HB4 := Lib.hid hb4
          have hil := F.itoa_len cv k1 k2
          have q1 : ¬ 9223372036854775807 < s4.size + 5 := by omega
          have q2 : ¬ 9223372036854775807 < s4.size + 5 + (Lib.itoa cv).length := by omega
          clear hd4 hA4 hb4
          go_wp2_with fail
          refine (HCO.out _ HA4.out).mono ?_
          rintro e w5 ⟨rfl, rfl⟩
          go_wp2_with fail
          refine (F.digits_any cv k1 k2 _).mono ?_
          rintro e w6 ⟨rfl, hb6⟩
          go_wp2
          go_ret
          refine ⟨?_, HB4.out.trans (hb6.mono HB4.out.size)⟩
          refine congrArg (fun x => Ending.returned (Value.string x)) (F.ba_ext ?_)
          rw [HR.out, F.ba_data, F.ba_data, HD4.out, List.append_assoc]
          rfl
end Go.Proofs.YtlcjpbcdemkfeaaDoor
