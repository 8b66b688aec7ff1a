/- The law UtfJoins' walk. -/
import Derived.Test.YthikoangkdlebaaDoorUtfG
import Derived.Test.YthikoangkdlebaaDoorLib4
namespace Go.Proofs.YthikoangkdlebaaDoor
open Go.RowKit
set_option linter.unusedSimpArgs false
set_option linter.unusedVariables false

/-- What is ahead of the first wrong byte. -/
theorem U.cut_valid {s : ByteArray} {cs : List Int} {r : List UInt8} (h : U.Dec s.data.toList cs r) : (s.extract 0 (U.encs cs).length).data.toList = U.encs cs := by
  rw [ba_take, h.1]; simp

set_option maxRecDepth 100000 in
set_option maxHeartbeats 2000000 in
theorem U.joins_walk (w : World) (a : ByteArray) (ha : a.size ≤ maxLen) (b : ByteArray) (hb : b.size ≤ maxLen) (hH : Heads w) :
    Calls Tryd.prog 4 #[.string a, .string b] w fun e w' => e = .returned (.bool true) ∧ Below w.heap.size w w' := by
  obtain ⟨x, hx⟩ : ∃ x, cutS a 100 = x := ⟨_, rfl⟩
  obtain ⟨y, hy⟩ : ∃ y, cutS b 100 = y := ⟨_, rfl⟩
  have hx100 : x.size ≤ 100 := by rw [← hx]; exact cutS_size a 100
  have hy100 : y.size ≤ 100 := by rw [← hy]; exact cutS_size b 100
  have HX := Lib.hid hx
  have HY := Lib.hid hy
  clear hx hy
  have hxm : x.size ≤ maxLen := by unfold maxLen; omega
  have hym : y.size ≤ maxLen := by unfold maxLen; omega
  obtain ⟨cx, rx, hdx⟩ := U.dec_exists x.data.toList
  obtain ⟨cy, ry, hdy⟩ := U.dec_exists y.data.toList
  have hlx : (U.encs cx).length + rx.length = x.size := by rw [← List.length_append, ← hdx.1, ba_len]
  have hly : (U.encs cy).length + ry.length = y.size := by rw [← List.length_append, ← hdy.1, ba_len]
  have hclx := U.encs_len cx
  have hcly := U.encs_len cy
  -- the texts ahead of a wrong byte
  obtain ⟨p, hp, hp'⟩ : ∃ p : ByteArray, (rx = [] → p = x) ∧ (rx ≠ [] → p = x.extract 0 (U.encs cx).length) := by
    by_cases h : rx = []
    · exact ⟨x, fun _ => rfl, fun h' => absurd h h'⟩
    · exact ⟨_, fun h' => absurd h' h, fun _ => rfl⟩
  obtain ⟨q, hq, hq'⟩ : ∃ q : ByteArray, (ry = [] → q = y) ∧ (ry ≠ [] → q = y.extract 0 (U.encs cy).length) := by
    by_cases h : ry = []
    · exact ⟨y, fun _ => rfl, fun h' => absurd h h'⟩
    · exact ⟨_, fun h' => absurd h' h, fun _ => rfl⟩
  have hpl : p.data.toList = U.encs cx := by
    by_cases h : rx = []
    · rw [hp h, hdx.1, h, List.append_nil]
    · rw [hp' h]; exact U.cut_valid hdx
  have hql : q.data.toList = U.encs cy := by
    by_cases h : ry = []
    · rw [hq h, hdy.1, h, List.append_nil]
    · rw [hq' h]; exact U.cut_valid hdy
  have hps : p.size ≤ 100 := by rw [← ba_len, hpl]; omega
  have hqs : q.size ≤ 100 := by rw [← ba_len, hql]; omega
  obtain ⟨z, hz⟩ : ∃ z : ByteArray, p ++ q = z := ⟨_, rfl⟩
  have hzl : z.data.toList = U.encs (cx ++ cy) := by rw [← hz, U.encs_append, ← hpl, ← hql]; simp
  have hzs : z.size ≤ 200 := by rw [← ba_len, hzl, U.encs_append, List.length_append]; omega
  have DP : U.Dec p.data.toList cx [] := ⟨by rw [hpl, List.append_nil], hdx.2.1, rfl⟩
  have DQ : U.Dec q.data.toList cy [] := ⟨by rw [hql, List.append_nil], hdy.2.1, rfl⟩
  have DZ : U.Dec z.data.toList (cx ++ cy) [] := ⟨by rw [hzl, List.append_nil], fun c hc => by
    rcases List.mem_append.1 hc with h | h
    · exact hdx.2.1 c h
    · exact hdy.2.1 c h, rfl⟩
  have HDX := Lib.hid hdx
  have HDY := Lib.hid hdy
  have HDP := Lib.hid DP
  have HDQ := Lib.hid DQ
  have HDZ := Lib.hid DZ
  have HP := Lib.hid hp
  have HP' := Lib.hid hp'
  have HQ := Lib.hid hq
  have HQ' := Lib.hid hq'
  have hsum : ((p.size : Nat) : Int) + ((q.size : Nat) : Int) ≤ 200 := by omega
  clear hdx hdy DP DQ DZ hp hp' hq hq' hpl hql hzl
  obtain ⟨i0, hi, hz0, hz1, hz2⟩ := info_parts infoRune
  rcases rx with _ | ⟨x0, rx⟩ <;> rcases ry with _ | ⟨y0, ry⟩
  all_goals first | (have ep := HP.out rfl) | (have ep := (HP'.out (by simp)).symm)
  all_goals first | (have eq' := HQ.out rfl) | (have eq' := (HQ'.out (by simp)).symm)
  all_goals first | (subst ep; subst eq') | subst ep | subst eq' | skip
  all_goals
    go_enter Tryd.func4, Tryd.ntmps4
    go_wp2_with fail
    refine (U.awake _ hH).mono ?_
    rintro e w1 ⟨rfl, hbel1⟩
    have hH1 := hH.next hbel1
    go_wp2_with fail
    refine (U.cut_any a 100 _ ha).mono ?_
    rintro e w' ⟨rfl, rfl⟩
    rw [HX.out]
    go_wp2_with fail
    refine (U.cut_any b 100 _ hb).mono ?_
    rintro e w' ⟨rfl, rfl⟩
    rw [HY.out]
    go_wp2_with fail
    refine (U.valid_any _ _ hxm hH1 cx _ HDX.out).mono ?_
    rintro e w2 ⟨rfl, hbel2⟩
    first | rw [U.vN_nil, U.vB_nil] | rw [U.vN_cons, U.vB_cons]
    have hH2 := hH1.next hbel2
    have hb2 := hbel1.trans (hbel2.mono hbel1.size)
    clear hbel1 hbel2 hH1
    go_wp2_with fail
    refine (U.valid_any _ _ hym hH2 cy _ HDY.out).mono ?_
    rintro e w3 ⟨rfl, hbel3⟩
    first | rw [U.vN_nil, U.vB_nil] | rw [U.vN_cons, U.vB_cons]
    have hH3 := hH2.next hbel3
    have hb3 := hb2.trans (hbel3.mono hb2.size)
    clear hbel3 hb2 hH2
    go_wp2_with fail
    refine (U.decode_any _ _ (by omega) hH3 cx [] HDP.out).mono ?_
    rintro e w4 ⟨A4, c4, rfl, hown4, hbel4⟩
    rw [show U.decL cx [] = cx from rfl] at hown4 ⊢
    rw [show U.decN [] = 0 from rfl]
    have hH4 := hH3.next hbel4
    have hb4 := hb3.trans (hbel4.mono hb3.size)
    have hs4 := hbel4.size
    clear hbel4 hH3
    go_wp2_with fail
    refine (U.decode_any _ _ (by omega) hH4 cy [] HDQ.out).mono ?_
    rintro e w5 ⟨A5, c5, rfl, hown5, hbel5⟩
    rw [show U.decL cy [] = cy from rfl] at hown5 ⊢
    rw [show U.decN [] = 0 from rfl]
    have hH5 := hH4.next hbel5
    have hb5 := hb4.trans (hbel5.mono hb4.size)
    have hown45 := own_below hown4 hbel5 (Nat.le_refl _)
    have hs5 := hbel5.size
    clear hbel5 hH4 hown4
    go_wp2_with fail
    refine (U.decode_any z _ (by omega) hH5 (cx ++ cy) [] HDZ.out).mono ?_
    rintro e w6 ⟨A6, c6, rfl, hown6, hbel6⟩
    rw [show U.decL (cx ++ cy) [] = cx ++ cy from rfl] at hown6 ⊢
    rw [show U.decN [] = 0 from rfl]
    have hH6 := hH5.next hbel6
    have hb6 := hb5.trans (hbel6.mono hb5.size)
    have hown46 := own_below hown45 hbel6 (Nat.le_refl _)
    have hS56 := (Sl.of_own hown5).below hbel6 hbel6.size
    have hs6 := hbel6.size
    have hap := own_apart hown45 hown6 (Nat.le_refl _)
    clear hbel6 hH5 hown45 hown5
    go_wp2_with fail
    refine (U.valid_any z _ (by unfold maxLen; omega) hH6 (cx ++ cy) [] HDZ.out).mono ?_
    rintro e w7 ⟨rfl, hbel7⟩
    rw [U.vN_nil, U.vB_nil]
    have hH7 := hH6.next hbel7
    have hb7 := hb6.trans (hbel7.mono hb6.size)
    have hown47 := own_below hown46 hbel7 (Nat.le_refl _)
    have hS57 := hS56.below hbel7 hbel7.size
    have hown67 := own_below hown6 hbel7 (Nat.le_refl _)
    have hbase : w3.heap.size ≤ w7.heap.size := by have := hbel7.size; omega
    have hbnd : w.heap.size ≤ w3.heap.size := hb3.size
    clear hbel7 hH6 hown46 hown6 hS56
    obtain ⟨m, hm⟩ : ∃ m, cx.length = m := ⟨_, rfl⟩
    obtain ⟨n, hn⟩ : ∃ n, cy.length = n := ⟨_, rfl⟩
    have hmn : (cx ++ cy).length = m + n := by rw [List.length_append, hm, hn]
    have HM := Lib.hid hm
    have HN := Lib.hid hn
    have HMN := Lib.hid hmn
    rw [hmn, hm, hn]
    rw [hmn] at hown67
    rw [hm, hmn] at hap
    rw [hm] at hclx hown47
    rw [hn] at hcly
    clear hm hn hmn
    go_wp2_with (at_builtin; refine wpList_appendSl _ rfl _ _ _ rfl w3.heap.size 21 i0 _ 1 4 Tryd.underlying31 hi hz0 hz1 hz2 rfl (by omega) (.slice A4 m c4) m _ rfl hown47 _ A5 n c5 (cy.map (Value.int .i32)) rfl (by rw [List.length_map, HN.out]; omega) hS57 (oneCells _ _) (by simp only [maxLen]; omega) (by omega) hbase ?_; intro v8 w8 hown8 hb8 hg8; obtain ⟨A8, c8, rfl⟩ := own_form hown8)
    have hown68 := hown67.kept hg8 hap
    have hb08 := hb7.trans (hb8.mono hbnd)
    have hS8 := Sl.of_own hown68

    have hS8' := Sl.of_own hown8
    rw [← List.map_append] at hS8'
    clear hown68 hg8 hown8 hown67 hown47 hap hS57 hb8
    go_wp2

    go_loop [103] (fun i => ∃ k : Nat, k ≤ m + n ∧ i = .int .i64 k) (fun i => m + n - (intOf i).toNat)
    case atStart => exact ⟨0, by omega, rfl⟩
    case round =>
      obtain ⟨k, hk, rfl⟩ := hrel
      by_cases hkn : (k : Int) < (m : Int) + (n : Int)
      · obtain ⟨q', hq'⟩ : ∃ q', (cx ++ cy)[k]? = some q' := ⟨_, List.getElem?_eq_getElem (by rw [HMN.out]; omega)⟩
        obtain ⟨b6, o6, rfl, hlt6, hc6⟩ := hS8 (by rw [List.length_map, HMN.out]; omega)
        obtain ⟨b8, o8, rfl, hlt8, hc8⟩ := hS8' (by rw [List.length_map, HMN.out]; omega)
        have d6 := hc6 k (by rw [List.length_map, HMN.out]; omega)
        have d8 := hc8 k (by rw [List.length_map, HMN.out]; omega)
        rw [List.getElem?_map, hq'] at d6 d8
        simp only [Option.map] at d6 d8
        clear hc6 hc8 hq'
        go_wp2
        exact ⟨⟨k + 1, by omega, by go_num⟩, by simp [intOf]; omega⟩
      · obtain rfl : k = m + n := by omega
        go_wp2
        go_ret
        exact ⟨rfl, hb08⟩
end Go.Proofs.YthikoangkdlebaaDoor
