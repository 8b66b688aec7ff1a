/- The law UtfEncodes' walk. -/
import Derived.Test.YthikoangkdlebaaDoorUtfG
import Derived.Test.YthikoangkdlebaaDoorLib3
namespace Go.Proofs.YthikoangkdlebaaDoor
open Go.RowKit
set_option linter.unusedSimpArgs false
set_option linter.unusedVariables false

theorem U.encode_n (A : Option Addr) (cap B : Nat) (l : List Int) (n : Nat) (w : World) (hn : l.length = n) (hB : B ≤ w.heap.size) (hA : Sl w B A (l.map (Value.int .i32))) (hl : n ≤ 100000000000) (hb : ∀ c ∈ l, -2147483648 ≤ c ∧ c ≤ 2147483647) (hH : Heads w) :
    Calls Tryd.prog 16 #[.slice A n cap] w fun e w' => e = .returned (.tuple #[.string (U.encS l), .int .i64 (U.encN l)]) ∧ Below w.heap.size w w' := by
  subst hn; exact U.encode_any A cap B l w hB hA hl hb hH
theorem U.told_n (A : Option Addr) (cap B : Nat) (l : List Int) (n : Nat) (w : World) (hn : l.length = n) (hB : B ≤ w.heap.size) (hA : Sl w B A (l.map (Value.int .i32))) (hl : n ≤ 100000000000) (hb : ∀ c ∈ l, -2147483648 ≤ c ∧ c ≤ 2147483647) :
    Calls Tryd.prog 19 #[.slice A n cap] w (RetOwn 3 .i64 l w) := by
  subst hn; exact U.told_any A cap B l w hB hA hl hb

set_option maxRecDepth 100000 in
set_option maxHeartbeats 2000000 in
theorem U.encodes_walk (w : World) (A : Option Addr) (len cap : Nat) (zs : List Int) (hrow : IsRow .i32 w A len cap zs) (bd : ∀ c ∈ zs, -2147483648 ≤ c ∧ c ≤ 2147483647) (hH : Heads w) :
    Calls Tryd.prog 7 #[.slice A len cap] w fun e w' => e = .returned (.bool true) ∧ Below w.heap.size w w' := by
  obtain ⟨r1, r2, r3⟩ := hrow.len_le
  unfold maxLen at r2
  by_cases h60 : (60 : Int) < len
  · have hS := hrow.sl 60 (by omega)
    obtain ⟨l, hl⟩ : ∃ l, zs.take 60 = l := ⟨_, rfl⟩
    have hn : l.length = 60 := by rw [← hl, List.length_take]; omega
    rw [hl] at hS
    have HB := Lib.hid (fun c hc => bd c (List.mem_of_mem_take (by rw [hl]; exact hc)) : ∀ c ∈ l, _)
    have HN := Lib.hid hn
    have HL : Hid (Value.slice A 60 cap = Value.slice A l.length cap) := by show _ = _; rw [hn]
    obtain ⟨b, o, rfl, -⟩ := hS (by rw [List.length_map, hn]; omega)
    clear hl hn hrow bd
    go_enter Tryd.func7, Tryd.ntmps7
    go_wp2_with fail
    refine (U.awake _ hH).mono ?_
    rintro e w1 ⟨rfl, hbel1⟩
    have hH1 := hH.next hbel1
    have hS1 := hS.below hbel1 hbel1.size
    go_wp2
    go_loopw [22, 3] (fun i g wr => ∃ k : Nat, k ≤ 60 ∧ i = .int .i64 k ∧ g = .bool (U.encG (l.take k)) ∧ Below w1.heap.size w1 wr) (fun i _ _ => 60 - (intOf i).toNat)
    case atStart => exact ⟨0, by omega, rfl, rfl, Below.refl _ _⟩
    case round =>
      obtain ⟨k, hk, rfl, rfl, hbel⟩ := hrel
      have hsz := hbel.size
      have hHr := hH1.next hbel
      by_cases hkn : (k : Int) < 60
      · obtain ⟨q, hq⟩ : ∃ q, l[k]? = some q := ⟨_, List.getElem?_eq_getElem (by rw [HN.out]; omega)⟩
        obtain ⟨q1, q2⟩ := HB.out q (mem_take_get hq)
        obtain ⟨_, _, hbo, hlt, hc⟩ := hS1.below hbel hsz (by rw [List.length_map, HN.out]; omega)
        simp only [Option.some.injEq, Addr.mk.injEq, and_true] at hbo
        obtain ⟨rfl, rfl⟩ := hbo
        have c1 := hc k (by rw [List.length_map, HN.out]; omega)
        rw [List.getElem?_map, hq] at c1
        simp only [Option.map] at c1
        have htk := take_succ_get hq
        have hG : U.encG (l.take (k + 1)) = (U.encG (l.take k) && U.isC q) := by rw [htk]; unfold U.encG; rw [List.all_append]; simp
        have HG := Lib.hid hG
        clear hc hq htk hG
        by_cases hch : U.isC q = true
        · have hw : 0 < U.width q := (U.width_pos q).2 hch
          have hw4 := U.width_le q
          have hel := U.enc_len q hch
          have HC := Lib.hid hch
          have HE := Lib.hid hel
          clear hel
          go_wp2_with (first | (go_at_call 21; refine (U.ris_any _ _).mono ?_; rintro e w' ⟨rfl, rfl⟩) | (go_at_call 22; refine (U.is_any _ _ q1 q2).mono ?_; rintro e w' ⟨rfl, rfl⟩) | (go_at_call 23; refine (U.width_any _ _ q1 q2 hHr).mono ?_; rintro e w' ⟨rfl, rfl⟩))
          all_goals
            refine (U.bytes_any _ _ HC.out).mono ?_
            rintro e w2 ⟨rfl, hb2⟩
            have hsz2 : (⟨(U.enc q).toArray⟩ : ByteArray).size = U.width q := by rw [← HE.out]; simp [ByteArray.size]
            go_wp2
            all_goals exact ⟨⟨k + 1, by omega, by go_num, by rw [HG.out, HC.out]; simp [*], hbel.trans (hb2.mono hsz)⟩, by simp [intOf]; omega⟩
        · have hch' : U.isC q = false := by simpa using hch
          have hw : U.width q = 0 := by unfold U.width; rw [if_neg hch]
          clear hch
          go_wp2_with (first | (go_at_call 21; refine (U.ris_any _ _).mono ?_; rintro e w' ⟨rfl, rfl⟩) | (go_at_call 22; refine (U.is_any _ _ q1 q2).mono ?_; rintro e w' ⟨rfl, rfl⟩) | (go_at_call 23; refine (U.width_any _ _ q1 q2 hHr).mono ?_; rintro e w' ⟨rfl, rfl⟩))
          all_goals exact ⟨⟨k + 1, by omega, by go_num, by rw [HG.out]; simp [*], hbel⟩, by simp [intOf]; omega⟩
      · obtain rfl : k = 60 := by omega
        have hall : l.take 60 = l := List.take_of_length_le (by rw [HN.out]; omega)
        rw [hall]
        clear hall
        have hSr := hS1.below hbel hsz
        have hb0 := hbel1.trans (hbel.mono hbel1.size)
        by_cases hg : U.encG l = true
        · have hgood : ∀ c ∈ l, U.isC c = true := by unfold U.encG at hg; rwa [List.all_eq_true] at hg
          have HG := Lib.hid hgood
          have hdec : U.Dec (⟨(U.encs l).toArray⟩ : ByteArray).data.toList l [] := ⟨by simp, hgood, rfl⟩
          have HD := Lib.hid hdec
          have hes := U.encs_le l
          rw [HN.out] at hes
          clear hgood hdec
          go_wp2_with fail
          refine (U.encode_n _ cap _ l _ _ HN.out (Nat.le_refl _) hSr (by omega) HB.out hHr).mono ?_
          rintro e w3 ⟨rfl, hb3⟩
          rw [U.encS_of HG.out, U.encN_of HG.out]
          have hH3 := hHr.next hb3
          go_wp2_with fail
          refine (U.decode_any _ _ (by simp [ByteArray.size]; omega) hH3 l [] HD.out).mono ?_
          rintro e w4 ⟨A', c', rfl, hown4, hb4⟩
          rw [show U.decL l [] = l from rfl] at hown4 ⊢
          rw [show U.decN [] = 0 from rfl]
          have hb03 := hb0.trans (hb3.mono hb0.size)
          have hb04 := hb03.trans (hb4.mono hb03.size)
          have hS4 := (hSr.below hb3 hb3.size).below hb4 hb4.size
          have hS4' := Sl.of_own hown4
          clear hb3 hb4 hown4
          go_wp2_with fail
          refine (U.told_n _ cap _ l _ _ HN.out (Nat.le_refl _) hS4 (by omega) HB.out).mono ?_
          rintro e w5 ⟨A5, c5, rfl, hown5, hb5⟩
          have hb05 := hb04.trans (hb5.mono hb04.size)
          have hS5 := Sl.of_own hown5
          go_wp2_with fail
          refine (U.rencode_any A5 c5 _ l _ (Nat.le_refl _) hS5 (by rw [HN.out]; omega) HG.out).mono ?_
          rintro e w6 ⟨rfl, hb6⟩
          have hb06 := hb05.trans (hb6.mono hb05.size)
          have hS6 := (hS4.below hb5 hb5.size).below hb6 hb6.size
          have hS6' := (hS4'.below hb5 hb5.size).below hb6 hb6.size
          rw [HN.out]
          clear hb5 hb6 hown5 hS5
          go_wp2
          go_loop [97] (fun i => ∃ k : Nat, k ≤ 60 ∧ i = .int .i64 k) (fun i => 60 - (intOf i).toNat)
          case atStart => exact ⟨0, by omega, rfl⟩
          case round =>
            obtain ⟨k, hk, rfl⟩ := hrel
            by_cases hkn : (k : Int) < 60
            · obtain ⟨q, hq⟩ : ∃ q, l[k]? = some q := ⟨_, List.getElem?_eq_getElem (by rw [HN.out]; omega)⟩
              obtain ⟨_, _, hbo, hlt, hc⟩ := hS6 (by rw [List.length_map, HN.out]; omega)
              obtain ⟨b', o', rfl, hlt', hc'⟩ := hS6' (by rw [List.length_map, HN.out]; omega)
              simp only [Option.some.injEq, Addr.mk.injEq, and_true] at hbo
              obtain ⟨rfl, rfl⟩ := hbo
              have c1 := hc k (by rw [List.length_map, HN.out]; omega)
              have c2 := hc' k (by rw [List.length_map, HN.out]; omega)
              rw [List.getElem?_map, hq] at c1 c2
              simp only [Option.map] at c1 c2
              clear hc hc' hq
              go_wp2
              exact ⟨⟨k + 1, by omega, by go_num⟩, by simp [intOf]; omega⟩
            · obtain rfl : k = 60 := by omega
              go_wp2
              go_ret
              exact ⟨rfl, hb06⟩
        · have hg' : U.encG l = false := by simpa using hg
          have e1 : U.encS l = ⟨#[]⟩ := by unfold U.encS; rw [if_neg hg]
          have e2 : U.encN l = 1 := by unfold U.encN; rw [if_neg hg]
          have E1 := Lib.hid e1
          have E2 := Lib.hid e2
          clear hg e1 e2
          go_wp2_with fail
          refine (U.encode_n _ cap _ l _ _ HN.out (Nat.le_refl _) hSr (by omega) HB.out hHr).mono ?_
          rintro e w3 ⟨rfl, hb3⟩
          rw [E1.out, E2.out]
          go_wp2
          go_ret
          exact ⟨rfl, hb0.trans (hb3.mono hb0.size)⟩
  · have hS := hrow.sl len (Nat.le_refl _)
    obtain ⟨l, hl⟩ : ∃ l, zs.take len = l := ⟨_, rfl⟩
    have hn : l.length = len := by rw [← hl, List.length_take]; omega
    rw [hl] at hS
    have HB := Lib.hid (fun c hc => bd c (List.mem_of_mem_take (by rw [hl]; exact hc)) : ∀ c ∈ l, _)
    have HN := Lib.hid hn
    clear hl hn hrow bd
    go_enter Tryd.func7, Tryd.ntmps7
    go_wp2_with fail
    refine (U.awake _ hH).mono ?_
    rintro e w1 ⟨rfl, hbel1⟩
    have hH1 := hH.next hbel1
    have hS1 := hS.below hbel1 hbel1.size
    go_wp2
    go_loopw [22, 3] (fun i g wr => ∃ k : Nat, k ≤ len ∧ i = .int .i64 k ∧ g = .bool (U.encG (l.take k)) ∧ Below w1.heap.size w1 wr) (fun i _ _ => len - (intOf i).toNat)
    case atStart => exact ⟨0, by omega, rfl, rfl, Below.refl _ _⟩
    case round =>
      obtain ⟨k, hk, rfl, rfl, hbel⟩ := hrel
      have hsz := hbel.size
      have hHr := hH1.next hbel
      by_cases hkn : (k : Int) < len
      · obtain ⟨q, hq⟩ : ∃ q, l[k]? = some q := ⟨_, List.getElem?_eq_getElem (by rw [HN.out]; omega)⟩
        obtain ⟨q1, q2⟩ := HB.out q (mem_take_get hq)
        obtain ⟨b, o, rfl, hlt, hc⟩ := hS1.below hbel hsz (by rw [List.length_map, HN.out]; omega)
        have c1 := hc k (by rw [List.length_map, HN.out]; omega)
        rw [List.getElem?_map, hq] at c1
        simp only [Option.map] at c1
        have htk := take_succ_get hq
        have hG : U.encG (l.take (k + 1)) = (U.encG (l.take k) && U.isC q) := by rw [htk]; unfold U.encG; rw [List.all_append]; simp
        have HG := Lib.hid hG
        clear hc hq htk hG
        by_cases hch : U.isC q = true
        · have hw : 0 < U.width q := (U.width_pos q).2 hch
          have hw4 := U.width_le q
          have hel := U.enc_len q hch
          have HC := Lib.hid hch
          have HE := Lib.hid hel
          clear hel
          go_wp2_with (first | (go_at_call 21; refine (U.ris_any _ _).mono ?_; rintro e w' ⟨rfl, rfl⟩) | (go_at_call 22; refine (U.is_any _ _ q1 q2).mono ?_; rintro e w' ⟨rfl, rfl⟩) | (go_at_call 23; refine (U.width_any _ _ q1 q2 hHr).mono ?_; rintro e w' ⟨rfl, rfl⟩))
          all_goals
            refine (U.bytes_any _ _ HC.out).mono ?_
            rintro e w2 ⟨rfl, hb2⟩
            have hsz2 : (⟨(U.enc q).toArray⟩ : ByteArray).size = U.width q := by rw [← HE.out]; simp [ByteArray.size]
            go_wp2
            all_goals exact ⟨⟨k + 1, by omega, by go_num, by rw [HG.out, HC.out]; simp [*], hbel.trans (hb2.mono hsz)⟩, by simp [intOf]; omega⟩
        · have hch' : U.isC q = false := by simpa using hch
          have hw : U.width q = 0 := by unfold U.width; rw [if_neg hch]
          clear hch
          go_wp2_with (first | (go_at_call 21; refine (U.ris_any _ _).mono ?_; rintro e w' ⟨rfl, rfl⟩) | (go_at_call 22; refine (U.is_any _ _ q1 q2).mono ?_; rintro e w' ⟨rfl, rfl⟩) | (go_at_call 23; refine (U.width_any _ _ q1 q2 hHr).mono ?_; rintro e w' ⟨rfl, rfl⟩))
          all_goals exact ⟨⟨k + 1, by omega, by go_num, by rw [HG.out]; simp [*], hbel⟩, by simp [intOf]; omega⟩
      · obtain rfl : len = k := by omega
        have hall : l.take len = l := List.take_of_length_le (by rw [HN.out]; omega)
        rw [hall]
        clear hall
        have hSr := hS1.below hbel hsz
        have hb0 := hbel1.trans (hbel.mono hbel1.size)
        by_cases hg : U.encG l = true
        · have hgood : ∀ c ∈ l, U.isC c = true := by unfold U.encG at hg; rwa [List.all_eq_true] at hg
          have HG := Lib.hid hgood
          have hdec : U.Dec (⟨(U.encs l).toArray⟩ : ByteArray).data.toList l [] := ⟨by simp, hgood, rfl⟩
          have HD := Lib.hid hdec
          have hes := U.encs_le l
          rw [HN.out] at hes
          clear hgood hdec
          go_wp2_with fail
          refine (U.encode_n A cap _ l _ _ HN.out (Nat.le_refl _) hSr (by omega) HB.out hHr).mono ?_
          rintro e w3 ⟨rfl, hb3⟩
          rw [U.encS_of HG.out, U.encN_of HG.out]
          have hH3 := hHr.next hb3
          go_wp2_with fail
          refine (U.decode_any _ _ (by simp [ByteArray.size]; omega) hH3 l [] HD.out).mono ?_
          rintro e w4 ⟨A', c', rfl, hown4, hb4⟩
          rw [show U.decL l [] = l from rfl] at hown4 ⊢
          rw [show U.decN [] = 0 from rfl]
          have hb03 := hb0.trans (hb3.mono hb0.size)
          have hb04 := hb03.trans (hb4.mono hb03.size)
          have hS4 := (hSr.below hb3 hb3.size).below hb4 hb4.size
          have hS4' := Sl.of_own hown4
          clear hb3 hb4 hown4
          go_wp2_with fail
          refine (U.told_n A cap _ l _ _ HN.out (Nat.le_refl _) hS4 (by omega) HB.out).mono ?_
          rintro e w5 ⟨A5, c5, rfl, hown5, hb5⟩
          have hb05 := hb04.trans (hb5.mono hb04.size)
          have hS5 := Sl.of_own hown5
          go_wp2_with fail
          refine (U.rencode_any A5 c5 _ l _ (Nat.le_refl _) hS5 (by rw [HN.out]; omega) HG.out).mono ?_
          rintro e w6 ⟨rfl, hb6⟩
          have hb06 := hb05.trans (hb6.mono hb05.size)
          have hS6 := (hS4.below hb5 hb5.size).below hb6 hb6.size
          have hS6' := (hS4'.below hb5 hb5.size).below hb6 hb6.size
          rw [HN.out]
          clear hb5 hb6 hown5 hS5
          go_wp2
          go_loop [97] (fun i => ∃ k : Nat, k ≤ len ∧ i = .int .i64 k) (fun i => len - (intOf i).toNat)
          case atStart => exact ⟨0, by omega, rfl⟩
          case round =>
            obtain ⟨k, hk, rfl⟩ := hrel
            by_cases hkn : (k : Int) < len
            · obtain ⟨q, hq⟩ : ∃ q, l[k]? = some q := ⟨_, List.getElem?_eq_getElem (by rw [HN.out]; omega)⟩
              obtain ⟨b, o, rfl, hlt, hc⟩ := hS6 (by rw [List.length_map, HN.out]; omega)
              obtain ⟨b', o', rfl, hlt', hc'⟩ := hS6' (by rw [List.length_map, HN.out]; omega)
              have c1 := hc k (by rw [List.length_map, HN.out]; omega)
              have c2 := hc' k (by rw [List.length_map, HN.out]; omega)
              rw [List.getElem?_map, hq] at c1 c2
              simp only [Option.map] at c1 c2
              clear hc hc' hq
              go_wp2
              exact ⟨⟨k + 1, by omega, by go_num⟩, by simp [intOf]; omega⟩
            · obtain rfl : len = k := by omega
              go_wp2
              go_ret
              exact ⟨rfl, hb06⟩
        · have hg' : U.encG l = false := by simpa using hg
          have e1 : U.encS l = ⟨#[]⟩ := by unfold U.encS; rw [if_neg hg]
          have e2 : U.encN l = 1 := by unfold U.encN; rw [if_neg hg]
          have E1 := Lib.hid e1
          have E2 := Lib.hid e2
          clear hg e1 e2
          go_wp2_with fail
          refine (U.encode_n A cap _ l _ _ HN.out (Nat.le_refl _) hSr (by omega) HB.out hHr).mono ?_
          rintro e w3 ⟨rfl, hb3⟩
          rw [E1.out, E2.out]
          go_wp2
          go_ret
          exact ⟨rfl, hb0.trans (hb3.mono hb0.size)⟩
end Go.Proofs.YthikoangkdlebaaDoor
