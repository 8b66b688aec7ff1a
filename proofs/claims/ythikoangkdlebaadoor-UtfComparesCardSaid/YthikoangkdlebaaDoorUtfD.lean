/- Cut, Last, and the law UtfEnds' walk. -/
import Derived.Test.YthikoangkdlebaaDoorUtfC
namespace Go.Proofs.YthikoangkdlebaaDoor
open Go.RowKit
set_option linter.unusedSimpArgs false
set_option linter.unusedVariables false

theorem ba_drop (s : ByteArray) (k : Nat) : (s.extract k s.size).data.toList = s.data.toList.drop k := by
  have h : s.data.toList.length = s.size := by simp
  simp only [ByteArray.data_extract, Array.toList_extract]
  rw [List.extract_eq_take_drop, List.take_of_length_le (by rw [List.length_drop]; omega)]
theorem ba_len (s : ByteArray) : s.data.toList.length = s.size := by simp

def cutS (s : ByteArray) (n : Nat) : ByteArray := if n < s.size then s.extract 0 n else s
theorem cutS_list (s : ByteArray) (n : Nat) : (cutS s n).data.toList = s.data.toList.take n := by
  unfold cutS
  split
  · exact ba_take s n
  · rw [List.take_of_length_le (by rw [ba_len]; omega)]
theorem cutS_size (s : ByteArray) (n : Nat) : (cutS s n).size ≤ n := by
  rw [← ba_len, cutS_list, List.length_take]; omega

set_option maxRecDepth 100000 in
set_option maxHeartbeats 400000 in
theorem U.cut_any (s : ByteArray) (n : Nat) (w : World) (hs : s.size ≤ maxLen) :
    Calls Tryd.prog 9 #[.string s, .int .i64 n] w fun e w' => e = .returned (.string (cutS s n)) ∧ w = w' := by
  unfold maxLen at hs
  by_cases h : n < s.size
  · have hc : cutS s n = s.extract 0 n := by unfold cutS; rw [if_pos h]
    have HC := Lib.hid hc
    clear hc
    go_enter Tryd.func9, Tryd.ntmps9
    go_wp2
    go_ret
    rw [HC.out]
    exact ⟨rfl, rfl⟩
  · have hc : cutS s n = s := by unfold cutS; rw [if_neg h]
    have HC := Lib.hid hc
    clear hc
    go_enter Tryd.func9, Tryd.ntmps9
    go_wp2
    go_ret
    rw [HC.out]
    exact ⟨rfl, rfl⟩

def U.lastF (l : List UInt8) : Nat → Nat → Int × Nat × Bool
  | 0, _ => (0, 0, false)
  | f + 1, n => if n ≤ l.length then (match U.nextK (l.drop (l.length - n)) with | some (c, k) => if k = n then (c, n, true) else U.lastF l f (n + 1) | none => U.lastF l f (n + 1)) else (0, 0, false)
def U.last3 (l : List UInt8) : Int × Nat × Bool := U.lastF l 4 1

theorem U.lastF_bd (l : List UInt8) : ∀ f n, n + f ≤ 5 → 0 ≤ (U.lastF l f n).1 ∧ (U.lastF l f n).1 ≤ 2000000 ∧ (U.lastF l f n).2.1 ≤ 4 := by
  intro f
  induction f with
  | zero => intro n _; show 0 ≤ (0 : Int) ∧ _; exact ⟨by omega, by show (0 : Int) ≤ _; omega, by show 0 ≤ 4; omega⟩
  | succ f ih =>
    intro n hn
    have hi := ih (n + 1) (by omega)
    by_cases hl : n ≤ l.length
    · rcases hk : U.nextK (l.drop (l.length - n)) with _ | ⟨c, k⟩
      · rw [show U.lastF l (f + 1) n = U.lastF l f (n + 1) from by show (if n ≤ l.length then _ else _) = _; rw [if_pos hl, hk]]
        exact hi
      · by_cases hkn : k = n
        · subst hkn
          have hy : U.lastF l (f + 1) k = (c, k, true) := by show (if k ≤ l.length then _ else _) = _; rw [if_pos hl, hk]; show (if k = k then _ else _) = _; rw [if_pos rfl]
          rw [hy]
          obtain ⟨hc, hw, _⟩ := U.nextK_some _ _ _ hk
          have := (U.isC_iff c).1 hc
          exact ⟨by show 0 ≤ c; omega, by show c ≤ _; omega, by show k ≤ 4; omega⟩
        · rw [show U.lastF l (f + 1) n = U.lastF l f (n + 1) from by show (if n ≤ l.length then _ else _) = _; rw [if_pos hl, hk]; show (if k = n then _ else _) = _; rw [if_neg hkn]]
          exact hi
    · rw [show U.lastF l (f + 1) n = (0, 0, false) from by show (if n ≤ l.length then _ else _) = _; rw [if_neg hl]]
      exact ⟨by show (0 : Int) ≤ 0; omega, by show (0 : Int) ≤ _; omega, by show 0 ≤ 4; omega⟩

theorem U.next3_some {l : List UInt8} {c : Int} {k : Nat} (h : U.nextK l = some (c, k)) : U.next3 l = (c, k, true) := by unfold U.next3; rw [h]
theorem U.next3_none {l : List UInt8} (h : U.nextK l = none) : U.next3 l = (0, 0, false) := by unfold U.next3; rw [h]
theorem U.lastF_out (l : List UInt8) (f n : Nat) (h : ¬ n ≤ l.length) : U.lastF l f n = (0, 0, false) := by
  cases f with
  | zero => rfl
  | succ f => show (if n ≤ l.length then _ else _) = _; rw [if_neg h]
theorem U.lastF_yes (l : List UInt8) (f n : Nat) (c : Int) (hn : n ≤ l.length) (h : U.nextK (l.drop (l.length - n)) = some (c, n)) : U.lastF l (f + 1) n = (c, n, true) := by
  show (if n ≤ l.length then _ else _) = _
  rw [if_pos hn, h]
  show (if n = n then _ else _) = _
  rw [if_pos rfl]
theorem U.lastF_no (l : List UInt8) (f n : Nat) (hn : n ≤ l.length) (h : ∀ c, U.nextK (l.drop (l.length - n)) ≠ some (c, n)) : U.lastF l (f + 1) n = U.lastF l f (n + 1) := by
  show (if n ≤ l.length then _ else _) = _
  rw [if_pos hn]
  rcases hk : U.nextK (l.drop (l.length - n)) with _ | ⟨c, k⟩
  · rfl
  · show (if k = n then _ else _) = _
    rw [if_neg]
    rintro rfl
    exact h c hk

set_option maxRecDepth 100000 in
set_option maxHeartbeats 1000000 in
theorem U.last_any (s : ByteArray) (w : World) (hs : s.size ≤ maxLen) (hH : Heads w) :
    Calls Tryd.prog 12 #[.string s] w fun e w' => e = .returned (.tuple #[.int .i32 (U.last3 s.data.toList).1, .int .i64 (U.last3 s.data.toList).2.1, .bool (U.last3 s.data.toList).2.2]) ∧ Below w.heap.size w w' := by
  have hsm := hs
  unfold maxLen at hs
  go_enter Tryd.func12, Tryd.ntmps12
  go_wp2
  go_loopw [5] (fun i wr => ∃ k : Nat, 1 ≤ k ∧ k ≤ 5 ∧ i = .int .i64 k ∧ Below w.heap.size w wr ∧ U.lastF s.data.toList (5 - k) k = U.last3 s.data.toList) (fun i _ => 5 - (intOf i).toNat)
  case atStart => exact ⟨1, by omega, by omega, rfl, Below.refl _ _, rfl⟩
  case round =>
    obtain ⟨k, hk1, hk5, rfl, hbel, hlast⟩ := hrel
    have hsz := hbel.size
    have hHr := hH.next hbel
    have HLA := Lib.hid hlast
    clear hlast
    by_cases hk : (k : Int) ≤ 4
    · by_cases hks : (k : Int) ≤ s.size
      · obtain ⟨x, hx⟩ : ∃ x : ByteArray, s.extract (s.size - k) s.size = x := ⟨_, rfl⟩
        have hxl : x.data.toList = s.data.toList.drop (s.data.toList.length - k) := by rw [← hx, ba_len]; exact ba_drop s _
        have hxs : x.size ≤ s.size := by
          rw [← ba_len, hxl, ← ba_len, List.length_drop]; omega
        have HXL := Lib.hid hxl
        clear hxl
        rcases hn : U.nextK x.data.toList with _ | ⟨c, n⟩
        · have h3 := U.next3_none hn
          have hl := U.lastF_no s.data.toList (4 - k) k (by rw [ba_len]; omega) (fun c h => by rw [← HXL.out, hn] at h; cases h)
          rw [show 4 - k + 1 = 5 - k from by omega, HLA.out] at hl
          have H3 := Lib.hid h3
          have HL := Lib.hid hl
          clear h3 hl hn
          go_wp2_with fail
          all_goals
            refine (U.next_any _ _ (Nat.le_trans hxs hsm) hHr).mono ?_
            rintro e w1 ⟨rfl, hbel1⟩
            rw [H3.out]
            go_wp2
            exact ⟨⟨k + 1, by omega, by omega, by go_num, hbel.trans (hbel1.mono hsz), by rw [show 5 - (k + 1) = 4 - k from by omega]; exact HL.out.symm⟩, by simp [intOf]; omega⟩
        · have h3 := U.next3_some hn
          have hnb := (U.next_good _ _ _ hn).2.1
          by_cases hnk : n = k
          · subst hnk
            have hl := U.lastF_yes s.data.toList (4 - n) n c (by rw [ba_len]; omega) (by rw [← HXL.out]; exact hn)
            rw [show 4 - n + 1 = 5 - n from by omega, HLA.out] at hl
            have H3 := Lib.hid h3
            have HL := Lib.hid hl
            clear h3 hl hn
            go_wp2_with fail
            all_goals
              refine (U.next_any _ _ (Nat.le_trans hxs hsm) hHr).mono ?_
              rintro e w1 ⟨rfl, hbel1⟩
              rw [H3.out]
              go_wp2
              go_ret3
              rw [HL.out]
              exact ⟨rfl, hbel.trans (hbel1.mono hsz)⟩
          · have hl := U.lastF_no s.data.toList (4 - k) k (by rw [ba_len]; omega) (fun c' h => by rw [← HXL.out, hn] at h; simp only [Option.some.injEq, Prod.mk.injEq] at h; exact hnk h.2)
            rw [show 4 - k + 1 = 5 - k from by omega, HLA.out] at hl
            have hne : ((n : Int) == (k : Int)) = false := by simp; omega
            have H3 := Lib.hid h3
            have HL := Lib.hid hl
            clear h3 hl hn hnk
            go_wp2_with fail
            all_goals
              refine (U.next_any _ _ (Nat.le_trans hxs hsm) hHr).mono ?_
              rintro e w1 ⟨rfl, hbel1⟩
              rw [H3.out]
              go_wp2
              exact ⟨⟨k + 1, by omega, by omega, by go_num, hbel.trans (hbel1.mono hsz), by rw [show 5 - (k + 1) = 4 - k from by omega]; exact HL.out.symm⟩, by simp [intOf]; omega⟩
      · have hl := U.lastF_out s.data.toList (5 - k) k (by rw [ba_len]; omega)
        rw [HLA.out] at hl
        have HL := Lib.hid hl
        clear hl
        go_wp2
        all_goals
          go_ret3
          rw [HL.out]
          exact ⟨rfl, hbel⟩
    · obtain rfl : k = 5 := by omega
      have hl : U.last3 s.data.toList = (0, 0, false) := HLA.out.symm
      have HL := Lib.hid hl
      clear hl
      go_wp2
      all_goals
        go_ret3
        rw [HL.out]
        exact ⟨rfl, hbel⟩

theorem U.lits : U.next3 [226, 130, 172] = (8364, 3, true) ∧ U.next3 [237, 160, 128] = (0, 0, false) := by decide +kernel

def U.encs (cs : List Int) : List UInt8 := cs.flatMap U.enc
theorem U.encs_cons (c : Int) (cs : List Int) : U.encs (c :: cs) = U.enc c ++ U.encs cs := rfl
theorem U.encs_append (a b : List Int) : U.encs (a ++ b) = U.encs a ++ U.encs b := by unfold U.encs; rw [List.flatMap_append]
theorem U.enc_pos (c : Int) : 1 ≤ (U.enc c).length ∧ (U.enc c).length ≤ 4 := by unfold U.enc; grind
theorem U.encs_len (cs : List Int) : cs.length ≤ (U.encs cs).length := by
  induction cs with
  | nil => simp
  | cons c cs ih => rw [U.encs_cons, List.length_append, List.length_cons]; have := (U.enc_pos c).1; omega
/-- The characters of bytes, and what is left from the first wrong byte on. -/
def U.Dec (l : List UInt8) (cs : List Int) (r : List UInt8) : Prop := l = U.encs cs ++ r ∧ (∀ c ∈ cs, U.isC c = true) ∧ U.nextK r = none
theorem U.nextK_nil : U.nextK [] = none := rfl
theorem U.dec_exists (l : List UInt8) : ∃ cs r, U.Dec l cs r := by
  have : ∀ n, ∀ l : List UInt8, l.length ≤ n → ∃ cs r, U.Dec l cs r := by
    intro n
    induction n with
    | zero => intro l h; have h0 : l = [] := List.eq_nil_of_length_eq_zero (by omega)
              exact ⟨[], l, rfl, by simp, by rw [h0]; rfl⟩
    | succ n ih =>
      intro l h
      rcases hn : U.nextK l with _ | ⟨c, k⟩
      · exact ⟨[], l, rfl, by simp, hn⟩
      · obtain ⟨hc, _, t, rfl⟩ := U.nextK_some l c k hn
        obtain ⟨cs, r, h1, h2, h3⟩ := ih t (by rw [List.length_append] at h; have := (U.enc_pos c).1; omega)
        refine ⟨c :: cs, r, by rw [U.encs_cons, List.append_assoc, ← h1], ?_, h3⟩
        intro x hx
        rcases List.mem_cons.1 hx with rfl | hx
        · exact hc
        · exact h2 x hx
  exact this l.length l (Nat.le_refl _)
theorem U.dec_next {c : Int} {b : List Int} {r : List UInt8} (hc : U.isC c = true) : U.nextK (U.encs (c :: b) ++ r) = some (c, (U.enc c).length) := by
  rw [U.encs_cons, List.append_assoc]; exact U.nextK_of c hc _
theorem U.dec_unique {l : List UInt8} {cs cs' : List Int} {r r' : List UInt8} (h : U.Dec l cs r) (h' : U.Dec l cs' r') : cs = cs' ∧ r = r' := by
  obtain ⟨rfl, h2, h3⟩ := h
  obtain ⟨g1, g2, g3⟩ := h'
  induction cs generalizing cs' with
  | nil =>
    cases cs' with
    | nil => exact ⟨rfl, g1⟩
    | cons c b =>
      have e : U.encs [] ++ r = r := rfl
      rw [e] at g1
      rw [g1, U.dec_next (g2 c (by simp))] at h3
      cases h3
  | cons c b ih =>
    cases cs' with
    | nil =>
      have e : U.encs [] ++ r' = r' := rfl
      rw [e] at g1
      rw [← g1, U.dec_next (h2 c (by simp))] at g3
      cases g3
    | cons c' b' =>
      have e1 := U.dec_next (r := r) (b := b) (h2 c (by simp))
      have e2 := U.dec_next (r := r') (b := b') (g2 c' (by simp))
      rw [g1, e2] at e1
      simp only [Option.some.injEq, Prod.mk.injEq] at e1
      obtain ⟨rfl, _⟩ := e1
      rw [U.encs_cons, U.encs_cons, List.append_assoc, List.append_assoc] at g1
      have := ih (cs' := b') (fun x hx => h2 x (List.mem_cons_of_mem _ hx)) (List.append_cancel_left g1) (fun x hx => g2 x (List.mem_cons_of_mem _ hx))
      exact ⟨by rw [this.1], this.2⟩

def U.vN (cs : List Int) (r : List UInt8) : Int := if r = [] then (cs.length : Nat) else ((U.encs cs).length : Nat)
def U.vB (r : List UInt8) : Bool := decide (r = [])
theorem U.vN_nil (cs : List Int) : U.vN cs [] = (cs.length : Nat) := rfl
theorem U.vN_cons (cs : List Int) (a : UInt8) (r : List UInt8) : U.vN cs (a :: r) = ((U.encs cs).length : Nat) := rfl
theorem U.vB_nil : U.vB [] = true := rfl
theorem U.vB_cons (a : UInt8) (r : List UInt8) : U.vB (a :: r) = false := rfl

theorem ba_size_pos (s : ByteArray) : 0 < s.size ↔ s.data.toList ≠ [] := by
  rw [← ba_len]
  exact List.length_pos_iff

set_option maxRecDepth 100000 in
set_option maxHeartbeats 1000000 in
theorem U.valid_any (s : ByteArray) (w : World) (hs : s.size ≤ maxLen) (hH : Heads w) (cs : List Int) (r : List UInt8) (hd : U.Dec s.data.toList cs r) :
    Calls Tryd.prog 13 #[.string s] w fun e w' => e = .returned (.tuple #[.int .i64 (U.vN cs r), .bool (U.vB r)]) ∧ Below w.heap.size w w' := by
  obtain ⟨d1, d2, d3⟩ := hd
  have hlen : s.size = (U.encs cs).length + r.length := by rw [← ba_len, d1, List.length_append]
  have hcl := U.encs_len cs
  have hsm := hs
  unfold maxLen at hs
  have D1 := Lib.hid d1
  have D2 := Lib.hid d2
  have D3 := Lib.hid d3
  have HL := Lib.hid hlen
  clear d1 d2 d3 hlen
  go_enter Tryd.func13, Tryd.ntmps13
  go_wp2
  go_loopw [5, 4] (fun i n wr => ∃ a b, cs = a ++ b ∧ i = .int .i64 ((U.encs a).length : Nat) ∧ n = .int .i64 (a.length : Nat) ∧ Below w.heap.size w wr) (fun i _ _ => s.size - (intOf i).toNat)
  case atStart => exact ⟨[], cs, rfl, rfl, rfl, Below.refl _ _⟩
  case round =>
    obtain ⟨a, b, hab, rfl, rfl, hbel⟩ := hrel
    have hsz := hbel.size
    have hHr := hH.next hbel
    have hrest : s.data.toList.drop (U.encs a).length = U.encs b ++ r := by rw [D1.out, hab, U.encs_append, List.append_assoc, List.drop_left]
    have hal : (U.encs a).length + (U.encs b).length + r.length = s.size := by rw [HL.out, hab, U.encs_append, List.length_append]
    have hanl := U.encs_len a
    have HAB := Lib.hid hab
    clear hab
    obtain ⟨m, hm⟩ : ∃ m, (U.encs a).length = m := ⟨_, rfl⟩
    have HM := Lib.hid hm
    rw [hm] at hrest hal hanl
    rw [hm]
    clear hm
    obtain ⟨na, hna⟩ : ∃ na, a.length = na := ⟨_, rfl⟩
    have HNA := Lib.hid hna
    rw [hna] at hanl
    rw [hna]
    clear hna
    obtain ⟨x, hx⟩ : ∃ x : ByteArray, s.extract m s.size = x := ⟨_, rfl⟩
    have hxl : x.data.toList = U.encs b ++ r := by rw [← hx, ← hrest]; exact ba_drop s _
    have hxs : x.size ≤ s.size := by rw [← ba_len, hxl, List.length_append]; omega
    have HXL := Lib.hid hxl
    clear hxl hrest
    rcases b with _ | ⟨c, b⟩
    · have ha : cs = a := by rw [HAB.out, List.append_nil]
      rcases r with _ | ⟨r0, r'⟩
      · have hmm : ¬ (m : Int) < s.size := by simp [U.encs] at hal; omega
        have HHA := Lib.hid ha
        clear ha hal
        go_wp2
        go_ret2
        rw [HHA.out, U.vN_nil, U.vB_nil, HNA.out]
        exact ⟨rfl, hbel⟩
      · have hmm : (m : Int) < s.size := by rw [List.length_cons] at hal; omega
        have h3 : U.next3 x.data.toList = (0, 0, false) := by rw [HXL.out]; exact U.next3_none D3.out
        have H3 := Lib.hid h3
        have HHA := Lib.hid ha
        clear ha hal h3
        go_wp2_with fail
        refine (U.next_any _ _ (Nat.le_trans hxs hsm) hHr).mono ?_
        rintro e w1 ⟨rfl, hbel1⟩
        rw [H3.out]
        go_wp2
        go_ret2
        rw [HHA.out, U.vN_cons, U.vB_cons, HM.out]
        exact ⟨rfl, hbel.trans (hbel1.mono hsz)⟩
    · have hc := D2.out c (by rw [HAB.out]; simp)
      obtain ⟨l1, l2⟩ := U.enc_pos c
      have hmm : (m : Int) < s.size := by rw [U.encs_cons, List.length_append] at hal; omega
      have h3 : U.next3 x.data.toList = (c, (U.enc c).length, true) := by rw [HXL.out]; exact U.next3_some (U.dec_next hc)
      have hq : m + (U.enc c).length ≤ s.size := by rw [U.encs_cons, List.length_append] at hal; omega
      have hea : (U.encs (a ++ [c])).length = m + (U.enc c).length := by rw [U.encs_append, List.length_append, HM.out]; simp [U.encs]
      have H3 := Lib.hid h3
      have HEA := Lib.hid hea
      clear hal h3 hea
      obtain ⟨k, hk⟩ : ∃ k, (U.enc c).length = k := ⟨_, rfl⟩
      rw [hk] at l1 l2 hq HEA H3
      clear hk
      go_wp2_with fail
      refine (U.next_any _ _ (Nat.le_trans hxs hsm) hHr).mono ?_
      rintro e w1 ⟨rfl, hbel1⟩
      rw [H3.out]
      go_wp2
      exact ⟨⟨a ++ [c], b, by rw [HAB.out, List.append_assoc]; rfl, by rw [HEA.out]; go_num, by rw [List.length_append, HNA.out]; go_num, hbel.trans (hbel1.mono hsz)⟩, by simp [intOf]; omega⟩

set_option maxRecDepth 100000 in
set_option maxHeartbeats 400000 in
theorem U.awake (w : World) (hH : Heads w) : Calls Tryd.prog 8 #[] w fun e w' => e = .returned (.bool true) ∧ Below w.heap.size w w' := by
  have n1 := Lib.hid U.lits.1
  have n2 := Lib.hid U.lits.2
  have hdec : U.Dec [237, 160, 128] [] [237, 160, 128] := ⟨rfl, by simp, by decide +kernel⟩
  have HD := Lib.hid hdec
  clear hdec
  go_enter Tryd.func8, Tryd.ntmps8
  go_wp2_with fail
  refine (U.next_any _ _ (by decide) hH).mono ?_
  rintro e w1 ⟨rfl, hbel1⟩
  have e1 : U.next3 (ByteArray.mk #[226, 130, 172]).data.toList = (8364, 3, true) := n1.out
  rw [e1]
  go_wp2_with fail
  refine (U.valid_any _ _ (by decide) (hH.next hbel1) [] [237, 160, 128] HD.out).mono ?_
  rintro e w2 ⟨rfl, hbel2⟩
  rw [U.vN_cons, U.vB_cons]
  go_wp2
  go_ret
  exact ⟨rfl, hbel1.trans (hbel2.mono hbel1.size)⟩

set_option maxRecDepth 100000 in
set_option maxHeartbeats 1000000 in
theorem U.ends_walk (w : World) (s : ByteArray) (hs : s.size ≤ maxLen) (hH : Heads w) :
    Calls Tryd.prog 3 #[.string s] w fun e w' => e = .returned (.bool true) ∧ Below w.heap.size w w' := by
  obtain ⟨x, hx⟩ : ∃ x, cutS s 60 = x := ⟨_, rfl⟩
  have hx60 : x.size ≤ 60 := by rw [← hx]; exact cutS_size s 60
  have HX := Lib.hid hx
  clear hx
  have hxm : x.size ≤ maxLen := by unfold maxLen; omega
  go_enter Tryd.func3, Tryd.ntmps3
  go_wp2_with fail
  refine (U.awake _ hH).mono ?_
  rintro e w1 ⟨rfl, hbel1⟩
  go_wp2_with fail
  refine (U.cut_any s 60 _ hs).mono ?_
  rintro e w' ⟨rfl, rfl⟩
  rw [HX.out]
  have hH1 := hH.next hbel1
  go_wp2_with fail
  refine (U.next_any x _ hxm hH1).mono ?_
  rintro e w2 ⟨rfl, hbel2⟩
  have hH2 := hH1.next hbel2
  have hb2 := hbel1.trans (hbel2.mono hbel1.size)
  clear hbel1 hbel2
  go_wp2_with fail
  refine (U.first_any x _ hxm).mono ?_
  rintro e w3 ⟨rfl, hbel3⟩
  have hH3 := hH2.next hbel3
  have hb3 := hb2.trans (hbel3.mono hb2.size)
  clear hbel3 hb2
  have hnf : ∃ c n b, U.next3 x.data.toList = (c, n, b) ∧ U.firstK x.data.toList = (c, n) ∧ b = decide (0 < (n : Int)) ∧ 0 ≤ c ∧ c ≤ 2000000 ∧ n ≤ 4 := by
    rcases hn : U.nextK x.data.toList with _ | ⟨c, n⟩
    · exact ⟨0, 0, false, U.next3_none hn, U.first_none hn, by simp, by omega, by omega, by omega⟩
    · have g := U.next_good _ _ _ hn
      have gc := (U.isC_iff c).1 g.2.2.2.1
      exact ⟨c, n, true, U.next3_some hn, U.first_some hn, by simp; omega, by omega, by omega, by omega⟩
  obtain ⟨c, n, b, h3, hf, hb, hc1, hc2, hn4⟩ := hnf
  rw [h3, hf]
  subst hb
  clear h3 hf
  go_wp2_with fail
  refine (U.last_any x _ hxm hH3).mono ?_
  rintro e w4 ⟨rfl, hbel4⟩
  have hH4 := hH3.next hbel4
  have hb4 := hb3.trans (hbel4.mono hb3.size)
  clear hbel4 hb3
  obtain ⟨l1, l2, l3⟩ := U.lastF_bd x.data.toList 4 1 (by omega)
  change 0 ≤ (U.last3 x.data.toList).1 at l1
  change (U.last3 x.data.toList).1 ≤ _ at l2
  change (U.last3 x.data.toList).2.1 ≤ _ at l3
  obtain ⟨d, m, hb, hl⟩ : ∃ d m hb, U.last3 x.data.toList = (d, m, hb) := ⟨_, _, _, rfl⟩
  rw [hl] at l1 l2 l3 ⊢
  simp only [] at l1 l2 l3
  have hlast : U.lastF x.data.toList 4 1 = (d, m, hb) := hl
  have HLA := Lib.hid hlast
  clear hl hlast
  go_wp2
  go_loopw [11] (fun i wr => ∃ k : Nat, 1 ≤ k ∧ k ≤ 5 ∧ i = .int .i64 k ∧ Below w.heap.size w wr ∧ U.lastF x.data.toList (5 - k) k = (d, m, hb)) (fun i _ => 5 - (intOf i).toNat)
  case atStart => exact ⟨1, by omega, by omega, rfl, hb4, HLA.out⟩
  case round =>
    obtain ⟨k, hk1, hk5, rfl, hbel, hlast⟩ := hrel
    have hsz := hbel.size
    clear HLA
    have HLA := Lib.hid hlast
    clear hlast
    by_cases hk : (k : Int) < 5
    · by_cases hks : (k : Int) ≤ x.size
      · obtain ⟨y, hy⟩ : ∃ y : ByteArray, x.extract (x.size - k) x.size = y := ⟨_, rfl⟩
        have hyl : y.data.toList = x.data.toList.drop (x.data.toList.length - k) := by rw [← hy, ba_len]; exact ba_drop x _
        have hys : y.size ≤ x.size := by
          rw [← ba_len, hyl, ← ba_len, List.length_drop]; omega
        have HYL := Lib.hid hyl
        clear hyl
        rcases hn : U.nextK y.data.toList with _ | ⟨c', n'⟩
        · have h3 := U.first_none hn
          have hl := U.lastF_no x.data.toList (4 - k) k (by rw [ba_len]; omega) (fun c h => by rw [← HYL.out, hn] at h; cases h)
          rw [show 4 - k + 1 = 5 - k from by omega, HLA.out] at hl
          have H3 := Lib.hid h3
          have HL := Lib.hid hl
          have hk0 : ((0 : Int) == (k : Int)) = false := by simp; omega
          have hk0' : ((k : Int) == 0) = false := by simp; omega
          clear h3 hl hn
          go_wp2_with fail
          refine (U.first_any _ _ (Nat.le_trans hys hxm)).mono ?_
          rintro e w5 ⟨rfl, hbel1⟩
          rw [H3.out]
          go_wp2
          exact ⟨⟨k + 1, by omega, by omega, by go_num, hbel.trans (hbel1.mono hsz), by rw [show 5 - (k + 1) = 4 - k from by omega]; exact HL.out.symm⟩, by simp [intOf]; omega⟩
        · have h3 := U.first_some hn
          have hg := U.next_good _ _ _ hn
          have hnb := hg.2.1
          have hgc := (U.isC_iff c').1 hg.2.2.2.1
          obtain ⟨g1, g2, -⟩ := hgc
          by_cases hnk : n' = k
          · subst hnk
            have hl := U.lastF_yes x.data.toList (4 - n') n' c' (by rw [ba_len]; omega) (by rw [← HYL.out]; exact hn)
            rw [show 4 - n' + 1 = 5 - n' from by omega, HLA.out] at hl
            simp only [Prod.mk.injEq] at hl
            obtain ⟨rfl, rfl, rfl⟩ := hl
            have H3 := Lib.hid h3
            clear h3 hn hg
            go_wp2_with fail
            refine (U.first_any _ _ (Nat.le_trans hys hxm)).mono ?_
            rintro e w5 ⟨rfl, hbel1⟩
            rw [H3.out]
            go_wp2
            go_ret
            exact ⟨rfl, hbel.trans (hbel1.mono hsz)⟩
          · have hl := U.lastF_no x.data.toList (4 - k) k (by rw [ba_len]; omega) (fun c'' h => by rw [← HYL.out, hn] at h; simp only [Option.some.injEq, Prod.mk.injEq] at h; exact hnk h.2)
            rw [show 4 - k + 1 = 5 - k from by omega, HLA.out] at hl
            have hne : ((n' : Int) == (k : Int)) = false := by simp; omega
            have H3 := Lib.hid h3
            have HL := Lib.hid hl
            clear h3 hl hn hnk hg
            go_wp2_with fail
            refine (U.first_any _ _ (Nat.le_trans hys hxm)).mono ?_
            rintro e w5 ⟨rfl, hbel1⟩
            rw [H3.out]
            go_wp2
            exact ⟨⟨k + 1, by omega, by omega, by go_num, hbel.trans (hbel1.mono hsz), by rw [show 5 - (k + 1) = 4 - k from by omega]; exact HL.out.symm⟩, by simp [intOf]; omega⟩
      · have hl := U.lastF_out x.data.toList (5 - k) k (by rw [ba_len]; omega)
        rw [HLA.out] at hl
        simp only [Prod.mk.injEq] at hl
        obtain ⟨rfl, rfl, rfl⟩ := hl
        go_wp2
        go_ret
        exact ⟨rfl, hbel⟩
    · obtain rfl : k = 5 := by omega
      have hl : (0, 0, false) = (d, m, hb) := HLA.out
      simp only [Prod.mk.injEq] at hl
      obtain ⟨rfl, rfl, rfl⟩ := hl
      go_wp2
      go_ret
      exact ⟨rfl, hbel⟩
end Go.Proofs.YthikoangkdlebaaDoor
