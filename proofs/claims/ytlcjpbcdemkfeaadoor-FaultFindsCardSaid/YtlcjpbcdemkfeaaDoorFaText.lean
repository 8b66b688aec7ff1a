/- The layer fault: Text, by walking its text. -/
import Derived.Test.YtlcjpbcdemkfeaaDoorFaNotes
import Derived.Test.YtlcjpbcdemkfeaaDoorShelf
import Derived.Deep.DeepCutAuto
namespace Go.Proofs.YtlcjpbcdemkfeaaDoor
open Go.RowKit Go.Stop
set_option linter.unusedSimpArgs false
set_option linter.unusedVariables false

theorem F.itoa_any (n : Int) (h0 : -9223372036854775808 ≤ n) (h1 : n ≤ 9223372036854775807) (w : World) (hL : F.Laid w) :
    Calls Tryd.prog 31 #[.int .i64 n] w fun e w' => e = .returned (.string ⟨(Lib.itoa n).toArray⟩) ∧ Below w.heap.size w w' := by
  refine (Tryd.strconv_Itoa n h0 h1 w hL.2).mono ?_
  rintro e w' ⟨he, k, os, rfl⟩
  refine ⟨he, rfl, rfl, rfl, by simp [Sort.grow], fun i hi => ?_⟩
  simp only [Sort.grow, World.heap_drewN]
  rw [Array.getElem?_append_left hi]

theorem F.join_len (sep : List UInt8) (M : Nat) : ∀ xs : List (List UInt8), (∀ x ∈ xs, x.length ≤ M) → (Lib.join xs sep).length ≤ xs.length * (M + sep.length)
  | [], _ => by rw [Lib.join_nil]; simp
  | x :: r, h => by
    rw [Lib.join_cons, List.length_append]
    have h1 := h x (by simp)
    have h2 : ∀ r : List (List UInt8), (∀ x ∈ r, x.length ≤ M) → (Lib.joinTail sep r).length ≤ r.length * (M + sep.length) := by
      intro r
      induction r with
      | nil => intro _; simp [Lib.joinTail]
      | cons y t ih =>
        intro hy
        have h3 := ih (fun z hz => hy z (by simp [hz]))
        have h4 := hy y (by simp)
        simp only [Lib.joinTail, List.map_cons, List.flatten_cons, List.length_append, List.length_cons] at h3 ⊢
        rw [Nat.succ_mul]
        omega
    have h5 := h2 r (fun z hz => h z (by simp [hz]))
    rw [List.length_cons, Nat.succ_mul]
    omega

theorem F.join_any (A : Option Addr) (c B n : Nat) (xs : List ByteArray) (sep : ByteArray) (w : World) (hn : xs.length = n) (h0 : 0 < n) (hB : B ≤ w.heap.size) (hA : Sl w B A (xs.map Value.string)) (hc : n ≤ c) (hN : n ≤ 1000000) (hl : ∀ x ∈ xs, x.size ≤ 10000) (hs : sep.size ≤ 10) :
    Calls Tryd.prog 32 #[.slice A n c, .string sep] w fun e w' => e = .returned (.string ⟨(Lib.join (xs.map (·.data.toList)) sep.data.toList).toArray⟩) ∧ Below w.heap.size w w' := by
  subst hn
  obtain ⟨b, o, rfl, hb, hcell⟩ := hA (by rw [List.length_map]; exact h0)
  have hlen := F.join_len sep.data.toList 10000 (xs.map (·.data.toList)) (fun x hx => by
    obtain ⟨y, hy, rfl⟩ := List.mem_map.1 hx
    have := hl y hy
    simpa using this)
  have hsl : sep.data.toList.length = sep.size := by simp
  rw [List.length_map, hsl] at hlen
  have : xs.length * (10000 + sep.size) ≤ 1000000 * 10010 := Nat.mul_le_mul hN (by omega)
  refine (Tryd.strings_Join b o c xs sep w ?_ (by omega) (by omega) hc (by omega))
  intro j x hx
  have hj := (List.getElem?_eq_some_iff.1 hx).1
  rw [hcell j (by rw [List.length_map]; exact hj), List.getElem?_map, hx]
  rfl

def F.strLine (n : Int) : ByteArray := ⟨#[108, 105, 110, 101, 32]⟩ ++ ⟨(Lib.itoa n).toArray⟩
def F.strCode (n : Int) : ByteArray := ⟨#[99, 111, 100, 101, 32]⟩ ++ ⟨(Lib.itoa n).toArray⟩
def F.parts (l : List (Int × Int × ByteArray)) : List ByteArray := F.notes l ++ (if F.line l = 0 then [] else [F.strLine (F.line l)]) ++ [F.strCode (F.code l)]
def F.text (l : List (Int × Int × ByteArray)) : ByteArray := if l = [] then ⟨#[]⟩ else ⟨(Lib.join ((F.parts l).map (·.data.toList)) [58, 32]).toArray⟩

theorem F.itoa_len (n : Int) (h0 : -9223372036854775808 ≤ n) (h1 : n ≤ 9223372036854775807) : (Lib.itoa n).length ≤ 21 := by
  have key : ∀ (k u : Nat), u < 10 ^ k → (Lib.decDigits u).length ≤ k + 1 := by
    intro k
    induction k with
    | zero => intro u hu; rw [Lib.decDigits]; simp at hu; simp [hu]
    | succ k ih =>
      intro u hu
      rw [Lib.decDigits]
      split
      · simp
      · rw [List.length_append]
        have := ih (u / 10) (by rw [Nat.pow_succ] at hu; omega)
        simp
        omega
  unfold Lib.itoa
  split
  · have := key 19 n.natAbs (by have : (10 : Nat) ^ 19 = 10000000000000000000 := by decide
                                rw [this]; omega)
    simp
    omega
  · have := key 19 n.toNat (by have : (10 : Nat) ^ 19 = 10000000000000000000 := by decide
                               rw [this]; omega)
    omega
theorem F.strLine_size (n : Int) (h0 : -9223372036854775808 ≤ n) (h1 : n ≤ 9223372036854775807) : (F.strLine n).size ≤ 100 := by
  have := F.itoa_len n h0 h1
  unfold F.strLine
  rw [ByteArray.size_append]
  show 5 + (Lib.itoa n).toArray.size ≤ 100
  rw [List.size_toArray]
  omega
theorem F.strCode_size (n : Int) (h0 : -9223372036854775808 ≤ n) (h1 : n ≤ 9223372036854775807) : (F.strCode n).size ≤ 100 := by
  have := F.itoa_len n h0 h1
  unfold F.strCode
  rw [ByteArray.size_append]
  show 5 + (Lib.itoa n).toArray.size ≤ 100
  rw [List.size_toArray]
  omega
def F.okL (l : List (Int × Int × ByteArray)) : Prop := ∀ x ∈ l, (-9223372036854775808 ≤ x.1 ∧ x.1 ≤ 9223372036854775807) ∧ (-9223372036854775808 ≤ x.2.1 ∧ x.2.1 ≤ 9223372036854775807) ∧ x.2.2.size ≤ 10000
theorem F.okL_line : ∀ {l : List (Int × Int × ByteArray)}, F.okL l → -9223372036854775808 ≤ F.line l ∧ F.line l ≤ 9223372036854775807
  | [], _ => by simp [F.line]
  | x :: t, h => by
    have h1 := h x (by simp)
    have h2 := F.okL_line (l := t) (fun y hy => h y (by simp [hy]))
    unfold F.line
    split
    · exact h2
    · exact h1.2.1
theorem F.okL_code {l : List (Int × Int × ByteArray)} (h : F.okL l) : -9223372036854775808 ≤ F.code l ∧ F.code l ≤ 9223372036854775807 := by
  cases l with
  | nil => simp [F.code]
  | cons x t => exact (h x (by simp)).1
theorem F.okL_notes : ∀ {l : List (Int × Int × ByteArray)}, F.okL l → ∀ s ∈ F.notes l, s.size ≤ 10000
  | [], _, s, hs => by simp [F.notes] at hs
  | x :: t, h, s, hs => by
    have h2 := F.okL_notes (l := t) (fun y hy => h y (by simp [hy]))
    unfold F.notes at hs
    split at hs
    · exact h2 s hs
    · rcases List.mem_cons.1 hs with rfl | hs
      · exact (h x (by simp)).2.2
      · exact h2 s hs

theorem F.own_cap {w : World} {base n c : Nat} {e : TypeId} {size : Nat} {A : Option Addr} {xs : List Value} (h : w.ownsRow base e size (.slice A n c) n xs) : n ≤ c := by
  rcases h.2 with ⟨h1, h2⟩ | ⟨g, cap, cur, hv, _, _, h3, _⟩
  · omega
  · cases hv; exact h3
theorem F.all_size {ps a : List ByteArray} {x : ByteArray} (h : ps = a ++ [x]) (ha : ∀ s ∈ a, s.size ≤ 10000) (hx : x.size ≤ 10000) : ∀ s ∈ ps, s.size ≤ 10000 := by
  subst h
  intro s hs
  rcases List.mem_append.1 hs with hs | hs
  · exact ha s hs
  · simp at hs; subst hs; exact hx

set_option maxRecDepth 100000 in
set_option maxHeartbeats 2000000 in
theorem F.text_any (B : Nat) (q : List (Nat × Int × Int × ByteArray)) (v : Value) (w : World) (hL : F.Laid w) (hB : B ≤ w.heap.size) (hq : F.Ch w B q v) (hlen : q.length ≤ 1000) (hok : F.okL (F.lk q)) :
    Calls Tryd.prog 13 #[v] w fun e w' => e = .returned (.string (F.text (F.lk q))) ∧ Below w.heap.size w w' := by
  rcases hq0 : q with _ | ⟨⟨b, c, n, s⟩, t⟩
  · subst hq0
    obtain rfl : v = .nilIface := hq
    go_enter Tryd.func13, Tryd.ntmps13
    go_wp2
    go_ret
    exact ⟨rfl, Below.refl _ _⟩
  · have hqc := hq
    rw [hq0] at hqc
    obtain ⟨rfl, _⟩ := hqc
    rw [← hq0]
    have htx : F.text (F.lk q) = ⟨(Lib.join ((F.parts (F.lk q)).map (·.data.toList)) [58, 32]).toArray⟩ := if_neg (by rw [hq0]; simp [F.lk])
    rw [htx]
    obtain ⟨j0, hj0, hy0, hy1, hy2⟩ := info_parts infoStr
    have HN1 := Lib.hid (F.notes_any B q _ w hB hq (by omega))
    have hnl := F.notes_len (F.lk q)
    rw [F.lk_len] at hnl
    have hns := F.okL_notes hok
    obtain ⟨l1, l2⟩ := F.okL_line hok
    obtain ⟨k1, k2⟩ := F.okL_code hok
    have hpp : F.parts (F.lk q) = F.notes (F.lk q) ++ (if F.line (F.lk q) = 0 then [] else [F.strLine (F.line (F.lk q))]) ++ [F.strCode (F.code (F.lk q))] := rfl
    have HQ := Lib.hid hq
    have HLI := Lib.hid (fun w' hB' hq' => F.line_any B q (.iface 42 (.pointer (some ⟨b, 0, none⟩))) w' hB' hq' (by omega))
    have HCO := Lib.hid (fun w' hL' hB' hq' => F.code_any B q (.iface 42 (.pointer (some ⟨b, 0, none⟩))) w' hL' hB' hq')
    obtain ⟨nts, hnts⟩ : ∃ nts, F.notes (F.lk q) = nts := ⟨_, rfl⟩
    obtain ⟨lv, hlv⟩ : ∃ lv, F.line (F.lk q) = lv := ⟨_, rfl⟩
    obtain ⟨cv, hcv⟩ : ∃ cv, F.code (F.lk q) = cv := ⟨_, rfl⟩
    obtain ⟨ps, hps⟩ : ∃ ps, F.parts (F.lk q) = ps := ⟨_, rfl⟩
    rw [hnts] at HN1 hnl hns hpp
    rw [hlv] at l1 l2 hpp HLI
    rw [hcv] at k1 k2 hpp HCO
    rw [hps] at hpp ⊢
    obtain ⟨m, hm⟩ : ∃ m, nts.length = m := ⟨_, rfl⟩
    rw [hm] at hnl
    have HM := Lib.hid hm
    have HPP := Lib.hid hpp
    have HNS := Lib.hid hns
    have HL := Lib.hid hL
    clear hm hpp hns hnts hlv hcv hps htx hq hq0 hok hL
    go_enter Tryd.func13, Tryd.ntmps13
    go_wp2_with fail
    refine HN1.out.mono ?_
    rintro e w1 ⟨A1, c1, rfl, hown1, hb1⟩
    rw [HM.out] at hown1 ⊢
    have HO1 := Lib.hid hown1
    have hs1 := hb1.size
    have HL1 := Lib.hid (HL.out.next hb1)
    have HQ1 := Lib.hid (HQ.out.below hb1 hB (Nat.le_refl _))
    clear hown1
    go_wp2_with fail
    refine (HLI.out _ (by omega) HQ1.out).mono ?_
    rintro e w2 ⟨rfl, hb2⟩
    have HO2 := Lib.hid (own_below HO1.out hb2 (Nat.le_refl _))
    have HL2 := Lib.hid (HL1.out.next hb2)
    have HQ2 := Lib.hid (HQ1.out.below hb2 (by omega) (Nat.le_refl _))
    have hs2 := hb2.size
    have HB2 : Hid (Below w.heap.size w w2) := Lib.hid (hb1.trans (hb2.mono hs1))
    clear hb1 hb2
    go_upto_if 12 with (fail)
    go_cut [3] (fun s3 wx => ∃ (A3 : Option Addr) (c3 m3 : Nat) (ps3 : List ByteArray), s3 = .slice A3 m3 c3 ∧ m3 ≤ m + 1 ∧ ps3.length = m3 ∧ ps = ps3 ++ [F.strCode cv] ∧ (∀ s ∈ ps3, s.size ≤ 10000) ∧ wx.ownsRow w.heap.size 9 1 (.slice A3 m3 c3) m3 (ps3.map Value.string) ∧ Below w.heap.size w wx ∧ F.Laid wx ∧ F.Ch wx B q (.iface 42 (.pointer (some ⟨b, 0, none⟩))))
    case first =>
      by_cases hlv : lv = 0
      · subst hlv
        go_wp2_with fail
        go_meet
        exact ⟨A1, c1, m, nts, rfl, by omega, HM.out, by rw [HPP.out]; simp, HNS.out, HO2.out, HB2.out, HL2.out, HQ2.out⟩
      · have HLV := Lib.hid hlv
        go_wp2_with fail
        refine (F.itoa_any lv l1 l2 _ HL2.out).mono ?_
        rintro e w3 ⟨rfl, hb3⟩
        have HO3 := Lib.hid (own_below HO2.out hb3 (Nat.le_refl _))
        have hs3 := hb3.size
        have hbz : Below w3.heap.size w3 (w3.alloc (.cells #[.string (F.strLine lv)] 9)) := (Below.refl _ _).alloc (Nat.le_refl _) _
        have HO4 := Lib.hid (own_below HO3.out hbz (Nat.le_refl _))
        have hZ := Lib.hid (Sl.lit (w := w3.alloc (.cells #[.string (F.strLine lv)] 9)) (A := some ⟨w3.heap.size, 0, none⟩) (xs := [.string (F.strLine lv)]) rfl 9 (0, 0) (heap_alloc_new w3 _))
        have hs4 : w.heap.size ≤ (w3.alloc (.cells #[.string (F.strLine lv)] 9)).heap.size := by simp; omega
        have HB4 : Hid (Below w2.heap.size w2 (w3.alloc (.cells #[.string (F.strLine lv)] 9))) := Lib.hid (hb3.trans (hbz.mono hs3))
        have hsl : (F.strLine lv).size ≤ 10000 := by have := F.strLine_size lv l1 l2; omega
        have HSL := Lib.hid hsl
        have hpe : ps = (nts ++ [F.strLine lv]) ++ [F.strCode cv] := by rw [HPP.out, if_neg HLV.out]
        have HPE := Lib.hid hpe
        have hs02 : w.heap.size ≤ w2.heap.size := HB2.out.size
        have hic : ¬ 9223372036854775807 < 5 + (Lib.itoa lv).length := by have := F.itoa_len lv l1 l2; omega
        clear hb3 hbz hsl hpe
        unfold F.strLine at HO4 hZ hs4 HB4
        go_wp2_with (at_builtin; refine wpList_appendSl _ rfl _ _ _ rfl w.heap.size 9 j0 _ 1 16 Tryd.underlying23 hj0 hy0 hy1 hy2 rfl (by omega) _ m _ rfl HO4.out _ (some ⟨w3.heap.size, 0, none⟩) 1 1 [.string (⟨#[108, 105, 110, 101, 32]⟩ ++ ⟨(Lib.itoa lv).toArray⟩)] rfl rfl hZ.out (by simp [Value.oneCell']) (by simp only [maxLen]; omega) (by omega) hs4 ?_; intro v1 w5 hown5 hb5 _; obtain ⟨A5, c5, rfl⟩ := own_form hown5; have HO5 := Lib.hid hown5; have HB5 : Hid (Below w.heap.size w w5) := Lib.hid (HB2.out.trans ((HB4.out.mono hs02).trans hb5)); clear hown5 hb5)
        go_meet
        refine ⟨A5, c5, m + 1, nts ++ [F.strLine lv], rfl, Nat.le_refl _, by rw [List.length_append, HM.out]; rfl, HPE.out, ?_, ?_, HB5.out, HL.out.next HB5.out, HQ.out.below HB5.out hB (Nat.le_refl _)⟩
        · intro s hs
          rcases List.mem_append.1 hs with hs | hs
          · exact HNS.out s hs
          · simp at hs; subst hs; exact HSL.out
        · rw [List.map_append]; exact HO5.out
    case rest =>
      obtain ⟨A3, c3, m3, ps3, rfl, hm3, hl3, hps3, hsz3, hown3, hb3, hL3, hq3⟩ := hcut
      obtain ⟨w3, rfl⟩ : ∃ w3 : World, w3 = wc := ⟨_, rfl⟩
      have HL3 := Lib.hid hl3
      have HP3 := Lib.hid hps3
      have HZ3 := Lib.hid hsz3
      have HO3 := Lib.hid hown3
      have HB3 := Lib.hid hb3
      have HC3 := Lib.hid (HCO.out _ hL3 (Nat.le_trans hB hb3.size) hq3)
      have HLL := Lib.hid hL3
      have hs3 := hb3.size
      clear hl3 hps3 hsz3 hown3 hb3 hL3 hq3 HO1 HO2 HQ1 HQ2 HL1 HL2 HB2 HLI HCO HN1 HPP HNS HM
      go_wp2_with fail
      refine HC3.out.mono ?_
      rintro e w4 ⟨rfl, hb4⟩
      have HL4 := Lib.hid (HLL.out.next hb4)
      have HO4 := Lib.hid (own_below HO3.out hb4 (Nat.le_refl _))
      have hs4 := hb4.size
      have HB4 : Hid (Below w.heap.size w w4) := Lib.hid (HB3.out.trans (hb4.mono hs3))
      clear hb4
      go_wp2_with fail
      refine (F.itoa_any cv k1 k2 _ HL4.out).mono ?_
      rintro e w5 ⟨rfl, hb5⟩
      have HO5 := Lib.hid (own_below HO4.out hb5 (Nat.le_refl _))
      have hs5 := hb5.size
      have HB5 : Hid (Below w.heap.size w w5) := Lib.hid (HB4.out.trans (hb5.mono (by omega)))
      have hbz : Below w5.heap.size w5 (w5.alloc (.cells #[.string (F.strCode cv)] 9)) := (Below.refl _ _).alloc (Nat.le_refl _) _
      have HO6 := Lib.hid (own_below HO5.out hbz (Nat.le_refl _))
      have hZ := Lib.hid (Sl.lit (w := w5.alloc (.cells #[.string (F.strCode cv)] 9)) (A := some ⟨w5.heap.size, 0, none⟩) (xs := [.string (F.strCode cv)]) rfl 9 (0, 0) (heap_alloc_new w5 _))
      have hs6 : w.heap.size ≤ (w5.alloc (.cells #[.string (F.strCode cv)] 9)).heap.size := by simp; omega
      have HB6 : Hid (Below w.heap.size w (w5.alloc (.cells #[.string (F.strCode cv)] 9))) := Lib.hid (HB5.out.trans (hbz.mono HB5.out.size))
      have hsl : (F.strCode cv).size ≤ 10000 := by have := F.strCode_size cv k1 k2; omega
      have HSL := Lib.hid hsl
      have hic : ¬ 9223372036854775807 < 5 + (Lib.itoa cv).length := by have := F.itoa_len cv k1 k2; omega
      clear hb5 hbz hsl
      unfold F.strCode at HO6 hZ hs6 HB6
      go_wp2_with (first
        | (at_builtin; refine wpList_appendSl _ rfl _ _ _ rfl w.heap.size 9 j0 _ 1 16 Tryd.underlying23 hj0 hy0 hy1 hy2 rfl (by omega) _ m3 _ rfl HO6.out _ (some ⟨w5.heap.size, 0, none⟩) 1 1 [.string (⟨#[99, 111, 100, 101, 32]⟩ ++ ⟨(Lib.itoa cv).toArray⟩)] rfl rfl hZ.out (by simp [Value.oneCell']) (by simp only [maxLen]; omega) (by omega) hs6 ?_; intro v1 w7 hown7 hb7 _; obtain ⟨A7, c7, rfl⟩ := own_form hown7; have HC7 := Lib.hid (F.own_cap hown7); have HB7 : Hid (Below w.heap.size w w7) := Lib.hid (HB6.out.trans hb7); have HS7 : Hid (Sl w7 w7.heap.size A7 (ps.map Value.string)) := Lib.hid (by rw [HP3.out, List.map_append]; exact Sl.of_own hown7); clear hown7 hb7)
        | (go_at_call 32; refine (F.join_any A7 c7 w7.heap.size (m3 + 1) ps ⟨#[58, 32]⟩ _ (by rw [HP3.out, List.length_append, HL3.out]; rfl) (Nat.succ_pos _) (Nat.le_refl _) HS7.out HC7.out (by omega) ?_ (by decide)).mono ?_; exact F.all_size HP3.out HZ3.out HSL.out; rintro e w8 ⟨rfl, hb8⟩))
      go_ret
      exact ⟨rfl, HB7.out.trans (hb8.mono HB7.out.size)⟩
end Go.Proofs.YtlcjpbcdemkfeaaDoor
