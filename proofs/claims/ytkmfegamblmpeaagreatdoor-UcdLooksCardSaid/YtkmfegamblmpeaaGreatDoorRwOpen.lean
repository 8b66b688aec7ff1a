/- The texts of a table (cedillalaw14), by walking their text. -/
import Derived.Test.YtkmfegamblmpeaaGreatDoorExText
import Derived.Test.YtkmfegamblmpeaaGreatDoorCpChPlain3
import Derived.Test.YtkmfegamblmpeaaGreatDoorMdOwn
import Derived.Deep.DeepCutAuto
import Derived.Test.YtkmfegamblmpeaaGreatDoorMdTable
import Derived.Test.YtkmfegamblmpeaaGreatDoorLib3
import Derived.Deep.SlicePairs
import Derived.Deep.Strs
import Derived.ProofKit
import Derived.OpenShut
namespace Go.Proofs.YtkmfegamblmpeaaGreatDoor
open Go.RowKit
set_option linter.unusedSimpArgs false
set_option linter.unusedVariables false
set_option maxRecDepth 100000 in
set_option maxHeartbeats 2000000 in
theorem Ud.rtext_any (A : Option Addr) (n c : Nat) (T : List Rw.Row) (w : World) (hn : T.length = n) (hn' : n ≤ 1000) (hr : ∀ r ∈ T, Rw.right r) (hA : Rw.SeesI w A T) :
    Calls Tryz.prog 68 #[.slice A n c] w fun e w' => e = .returned (.string ⟨(Rw.txt T).toArray⟩) ∧ Below w.heap.size w w' := by
  have HN := Lib.hid hn
  have HR := Lib.hid hr
  have HA := Lib.hid hA
  clear hn hr hA
  go_enter Tryz.func68, Tryz.ntmps68
  go_wp2_with fail
  go_loopw [3, 5, 8] (fun v3 _ i wr => ∃ j : Nat, j ≤ n ∧ i = .int .i64 j ∧ v3 = .string ⟨(Rw.txt (T.take j)).toArray⟩ ∧ Below w.heap.size w wr) (fun _ _ i _ => n - (intOf i).toNat)
  case atStart => exact ⟨0, Nat.zero_le _, rfl, rfl, Below.refl _ _⟩
  case round =>
    obtain ⟨j, hj, rfl, rfl, hbel⟩ := hrel
    by_cases hlt : j < n
    · obtain ⟨r, hr⟩ : ∃ r, T[j]? = some r := ⟨_, List.getElem?_eq_getElem (by rw [HN.out]; exact hlt)⟩
      have hrr := HR.out r (List.mem_of_getElem? hr)
      obtain ⟨b, o, a, rfl, hb, c0', c1', c2', hsl⟩ := HA.out.row hr
      have c0 := ((bcell hbel).1 b (o + j * 3) hb).trans c0'
      have c1 := ((bcell hbel).1 b (o + j * 3 + 1) hb).trans c1'
      have c2 := ((bcell hbel).1 b (o + j * 3 + 2) hb).trans c2'
      have hbr : b < wr.heap.size := Nat.lt_of_lt_of_le hb hbel.size
      obtain ⟨ml, hml⟩ : ∃ k, r.2.2.length = k := ⟨_, rfl⟩
      rw [hml] at c2
      have hbn : Below wr.heap.size wr (wr.alloc (.cells #[.int .i64 r.1, .int .i64 r.2.1, .slice a.1 ml a.2] 59)) := (Below.refl _ _).alloc (Nat.le_refl _) _
      have hatn := Rw.At.new wr 59 [.int .i64 r.1, .int .i64 r.2.1, .slice a.1 ml a.2]
      have hml2 : ml ≤ 2 := by rw [← hml]; exact hrr.2.2.2.2.1
      have hL := Rw.rline_any r.1 r.2.1 a.1 r.2.2 ml a.2 w.heap.size (wr.alloc (.cells #[.int .i64 r.1, .int .i64 r.2.1, .slice a.1 ml a.2] 59)) hrr.1 (by have := hrr.2.1; omega) hrr.2.2.1 (by have := hrr.2.2.2.1; omega) hml (by omega) (fun x hx => by have := hrr.2.2.2.2.2 x hx; omega) (Nat.le_trans hbel.size hbn.size) ((hsl.below hbel (Nat.le_refl _)).below (hbn.mono hbel.size) (Nat.le_refl _))
      have hll := Rw.line_len r hrr
      have htl := Rw.txt_len (T.take j) (fun q hq => HR.out q (List.mem_of_mem_take hq))
      have htk : (T.take j).length ≤ j := List.length_take_le _ _
      have hnext : Rw.txt (T.take (j + 1)) = Rw.txt (T.take j) ++ (Rw.line r ++ [10]) := by
        rw [List.take_add_one, hr, Rw.txt_app]
        show _ ++ Rw.txt [r] = _
        rw [Rw.txt_one]
      obtain ⟨ln, hln⟩ : ∃ y : ByteArray, ⟨(Rw.line (r.1, r.2.1, r.2.2)).toArray⟩ = y := ⟨_, rfl⟩
      obtain ⟨st, hst⟩ : ∃ y : ByteArray, ⟨(Rw.txt (T.take j)).toArray⟩ = y := ⟨_, rfl⟩
      have s1 : ln.size ≤ 1000 := by rw [← hln, Rw.ba_size]; exact hll
      have s2 : st.size ≤ 1001000 := by rw [← hst, Rw.ba_size]; omega
      have hfin : st ++ (ln ++ ⟨#[10]⟩) = ⟨(Rw.txt (T.take (j + 1))).toArray⟩ := by
        rw [hnext, ← hst, ← hln, show (⟨#[10]⟩ : ByteArray) = ⟨[10].toArray⟩ from rfl]
        simp only [Fi.ba_app]
      simp only [hln] at hL
      rw [hst]
      have jI : (j : Int) < n := by omega
      have j0 : (0 : Int) ≤ j := by omega
      obtain ⟨d1, d2, d3, -, -, -⟩ := hatn.three
      have HFIN := Lib.hid hfin
      have HB := Lib.hid (hbel.trans (hbn.mono hbel.size))
      clear c0' c1' c2' hsl hr hrr hml hln hst hfin hnext hll htl htk hbel hbn hatn hml2
      go_wp2_with fail
      refine hL.mono ?_
      rintro e w2 ⟨rfl, hb2⟩
      have HB2 := Lib.hid (HB.out.trans (hb2.mono HB.out.size))
      clear hb2 hL d1 d2 d3 c0 c1 c2
      go_wp2_with fail
      exact ⟨⟨j + 1, by omega, by go_num, by rw [← HFIN.out], HB2.out⟩, by simp [intOf]; omega⟩
    · obtain rfl : j = n := by omega
      have jI : ¬ (j : Int) < j := by omega
      have he : Rw.txt (T.take j) = Rw.txt T := by rw [List.take_of_length_le (by rw [HN.out]; exact Nat.le_refl _)]
      rw [he]
      have HB := Lib.hid hbel
      clear hbel he
      go_wp2_with fail
      go_ret
      exact ⟨rfl, HB.out⟩

/-- Each number once, where it first stands. -/
def Ud.uniq (l : List Int) : List Int := l.foldl (fun acc c => if c ∈ acc then acc else acc ++ [c]) []
theorem Ud.uniq_go : ∀ (l acc : List Int), acc.Nodup → (l.foldl (fun acc c => if c ∈ acc then acc else acc ++ [c]) acc).Nodup ∧ ∀ d, d ∈ l.foldl (fun acc c => if c ∈ acc then acc else acc ++ [c]) acc ↔ d ∈ acc ∨ d ∈ l
  | [], acc, h => ⟨h, fun d => by simp⟩
  | c :: l, acc, h => by
    rw [List.foldl_cons]
    by_cases hc : c ∈ acc
    · rw [if_pos hc]
      obtain ⟨h1, h2⟩ := Ud.uniq_go l acc h
      refine ⟨h1, fun d => ?_⟩
      rw [h2 d, List.mem_cons]
      constructor
      · rintro (h | h)
        · exact .inl h
        · exact .inr (.inr h)
      · rintro (h | rfl | h)
        · exact .inl h
        · exact .inl hc
        · exact .inr h
    · rw [if_neg hc]
      obtain ⟨h1, h2⟩ := Ud.uniq_go l (acc ++ [c]) (by
        rw [List.nodup_append]
        refine ⟨h, by simp, fun a ha b hb => ?_⟩
        rw [List.mem_singleton] at hb
        rw [hb]
        exact fun e => hc (e ▸ ha))
      refine ⟨h1, fun d => ?_⟩
      rw [h2 d, List.mem_append, List.mem_singleton, List.mem_cons, or_assoc]
theorem Ud.uniq_nodup (l : List Int) : (Ud.uniq l).Nodup := (Ud.uniq_go l [] List.nodup_nil).1
theorem Ud.uniq_mem (l : List Int) (d : Int) : d ∈ Ud.uniq l ↔ d ∈ l := by
  unfold Ud.uniq
  rw [(Ud.uniq_go l [] List.nodup_nil).2 d]
  simp
theorem Ud.uniq_snoc (l : List Int) (c : Int) : Ud.uniq (l ++ [c]) = if c ∈ l then Ud.uniq l else Ud.uniq l ++ [c] := by
  have h := Ud.uniq_mem l c
  unfold Ud.uniq at h ⊢
  rw [List.foldl_append, List.foldl_cons, List.foldl_nil]
  by_cases hc : c ∈ l
  · rw [if_pos hc, if_pos (h.2 hc)]
  · rw [if_neg hc, if_neg (fun x => hc (h.1 x))]
theorem Ud.uniq_len (l : List Int) : (Ud.uniq l).length ≤ l.length := by
  unfold Ud.uniq
  have : ∀ (l acc : List Int), (l.foldl (fun acc c => if c ∈ acc then acc else acc ++ [c]) acc).length ≤ acc.length + l.length := by
    intro l
    induction l with
    | nil => intro acc; simp
    | cons c l ih =>
      intro acc
      rw [List.foldl_cons]
      refine Nat.le_trans (ih _) ?_
      split
      · simp
      · simp; omega
  simpa using this l []

set_option maxRecDepth 100000 in
set_option maxHeartbeats 2000000 in
theorem Ud.texts_any (A : Option Addr) (n c : Nat) (XA : Option Addr) (xn xc : Nat) (T : List Rw.Row) (E : List Int) (w : World) (hn : T.length = n) (hn' : n ≤ 1000) (hxn : E.length = xn) (hxn' : xn ≤ 1000) (hcap : xn ≤ xc)
    (hr : ∀ r ∈ T, Rw.right r) (hE : ∀ x ∈ E, 0 ≤ x ∧ x ≤ 1114111) (hA : Rw.SeesI w A T) (hX : Sl w w.heap.size XA (E.map (Value.int .i64))) :
    Calls Tryz.prog 33 #[.agg #[.slice A n c, .slice XA xn xc]] w fun e w' => e = .returned (.tuple #[.string ⟨(Rw.txt T).toArray⟩, .string ⟨(Ex.btxt (Ud.uniq E)).toArray⟩]) ∧ Below w.heap.size w w' := by
  have HT := Lib.hid (fun W (hW : Below w.heap.size w W) => Ud.rtext_any A n c T W hn hn' hr (hA.below hW))
  have HE := Lib.hid hE
  have HXN := Lib.hid hxn
  obtain ⟨t1, ht1⟩ : ∃ y : ByteArray, ⟨(Rw.txt T).toArray⟩ = y := ⟨_, rfl⟩
  obtain ⟨t2, ht2⟩ : ∃ y : ByteArray, ⟨(Ex.btxt (Ud.uniq E)).toArray⟩ = y := ⟨_, rfl⟩
  simp only [ht1] at HT
  rw [ht1, ht2]
  have HT2 := Lib.hid ht2
  have hat := Rw.At.new w 25 [.slice A n c, .slice XA xn xc]
  have hba : Below w.heap.size w (w.alloc (.cells #[.slice A n c, .slice XA xn xc] 25)) := (Below.refl _ _).alloc (Nat.le_refl _) _
  obtain ⟨w0, hw0⟩ : ∃ w0, w.alloc (.cells #[.slice A n c, .slice XA xn xc] 25) = w0 := ⟨_, rfl⟩
  have hat0 : Rw.At w0 w.heap.size 25 [.slice A n c, .slice XA xn xc] := by rw [← hw0]; exact hat
  rw [hw0] at hba
  have HW0 := Lib.hid hw0
  have HAT := Lib.hid hat0
  have HB := Lib.hid hba
  have HX := Lib.hid (hX.below hba (Nat.le_refl _))
  have y1 := hat0.cell 1 rfl
  have yl := hat0.lt
  clear hn hr hE hxn hA hX hat hba hw0 hat0 ht1 ht2
  go_enter Tryz.func33, Tryz.ntmps33
  go_upto_region 1 with (fail)
  rw [HW0.out]
  go_wp2_with fail
  clear y1 yl
  go_loopw [4, 5, 6, 7, 9, 13] (fun v4 _ _ _ _ i wr => ∃ j : Nat, j ≤ xn ∧ i = .int .i64 j ∧ v4 = .string ⟨(Ex.btxt (Ud.uniq (E.take j))).toArray⟩ ∧ Below w0.heap.size w0 wr) (fun _ _ _ _ _ i _ => xn - (intOf i).toNat)
  case atStart => exact ⟨0, Nat.zero_le _, rfl, rfl, Below.refl _ _⟩
  case round =>
    obtain ⟨j, hj, rfl, rfl, hbel⟩ := hrel
    have hatr := HAT.out.below hbel
    have y0 := hatr.cell 0 rfl
    have y1 := hatr.cell 1 rfl
    have yl := hatr.lt
    by_cases hlt : j < xn
    · obtain ⟨x, hx⟩ : ∃ x, E[j]? = some x := ⟨_, List.getElem?_eq_getElem (by rw [HXN.out]; exact hlt)⟩
      have hxb' := HE.out x (List.mem_of_getElem? hx)
      obtain ⟨xb, xo, rfl, hxb, hxc⟩ := HX.out (by rw [List.length_map, HXN.out]; omega)
      have hxb0 : xb < w0.heap.size := Nat.lt_of_lt_of_le hxb HB.out.size
      have hcell : ∀ (i : Nat) (y : Int), E[i]? = some y → wr.cell? ⟨xb, xo + i, none⟩ = some (.int .i64 y) := fun i y hy => by
        have hi := (List.getElem?_eq_some_iff.1 hy).1
        have := hxc i (by rw [List.length_map]; exact hi)
        rw [List.getElem?_map, hy, Option.map_some, ← (bcell hbel).1 _ _ hxb0] at this
        exact this
      have q := hcell j x hx
      have HC := Lib.hid hcell
      have hxbr : xb < wr.heap.size := Nat.lt_of_lt_of_le hxb0 hbel.size
      have jI : (j : Int) < xn := by omega
      have j0 : (0 : Int) ≤ j := by omega
      have jc : (j : Int) ≤ xc := by omega
      have HXX := Lib.hid hx
      have HBR := Lib.hid hbel
      have hsz : (⟨(Ex.btxt (Ud.uniq (E.take j))).toArray⟩ : ByteArray).size ≤ 7000 := by
        rw [Rw.ba_size]
        have h1 := Ex.btxt_len (Ud.uniq (E.take j)) (fun d hd => HE.out d (List.mem_of_mem_take ((Ud.uniq_mem _ _).1 hd)))
        have h2 := Ud.uniq_len (E.take j)
        have h3 : (E.take j).length ≤ j := List.length_take_le _ _
        omega
      have hnext : Ex.btxt (Ud.uniq (E.take (j + 1))) = if x ∈ E.take j then Ex.btxt (Ud.uniq (E.take j)) else Ex.btxt (Ud.uniq (E.take j)) ++ (Fi.text x.toNat ++ [10]) := by
        rw [List.take_add_one, hx]
        show Ex.btxt (Ud.uniq (E.take j ++ [x])) = _
        rw [Ud.uniq_snoc]
        by_cases hm : x ∈ E.take j
        · rw [if_pos hm, if_pos hm]
        · rw [if_neg hm, if_neg hm, Ex.btxt_snoc]
      obtain ⟨st, hst⟩ : ∃ y : ByteArray, ⟨(Ex.btxt (Ud.uniq (E.take j))).toArray⟩ = y := ⟨_, rfl⟩
      rw [hst] at hsz ⊢
      have HNX := Lib.hid hnext
      have HST := Lib.hid hst
      have HATR := Lib.hid hatr
      have hTX := Rw.rtext_int x hxb'.1 (by omega)
      have htl : (⟨(Fi.text x.toNat).toArray⟩ : ByteArray).size ≤ 6 := by
        rw [Rw.ba_size]
        have h2 := Fi.nd_le 5 x.toNat (by rw [show (16 : Nat) ^ (5 + 1) = 16777216 from by decide]; omega)
        have h3 := Fi.text_len x.toNat
        omega
      obtain ⟨tx, htx⟩ : ∃ y : ByteArray, ⟨(Fi.text x.toNat).toArray⟩ = y := ⟨_, rfl⟩
      rw [htx] at htl
      simp only [htx] at hTX
      have HTX := Lib.hid hTX
      have HTE := Lib.hid htx
      clear hcell hx hnext hst hatr hTX htx hbel hxc hxb'
      go_wp2_with fail
      go_loop [7, 9, 23] (fun v7 _ k => ∃ m : Nat, m ≤ j ∧ k = .int .i64 m ∧ v7 = .bool (decide (x ∈ (E.take j).take m))) (fun _ _ k => j - (intOf k).toNat)
      case atStart => exact ⟨0, Nat.zero_le _, rfl, by simp⟩
      case round =>
        obtain ⟨m, hm, rfl, rfl⟩ := hrel
        by_cases hmj : m < j
        · obtain ⟨y, hy⟩ : ∃ y, E[m]? = some y := ⟨_, List.getElem?_eq_getElem (by rw [HXN.out]; omega)⟩
          have qm := HC.out m y hy
          have hstep : decide (x ∈ (E.take j).take (m + 1)) = (decide (x ∈ (E.take j).take m) || (y == x)) := by
            rw [List.take_add_one, show (E.take j)[m]? = some y by rw [List.getElem?_take, if_pos hmj]; exact hy, Bool.eq_iff_iff]
            simp only [Option.toList_some, List.mem_append, List.mem_singleton, decide_eq_true_eq, Bool.or_eq_true, beq_iff_eq]
            constructor
            · rintro (h | h)
              · exact .inl h
              · exact .inr h.symm
            · rintro (h | h)
              · exact .inl h
              · exact .inr h.symm
          obtain ⟨sn, hsn⟩ : ∃ b, decide (x ∈ (E.take j).take m) = b := ⟨_, rfl⟩
          rw [hsn] at hstep ⊢
          have HS := Lib.hid hstep
          have mI : (m : Int) < j := by omega
          have m0 : (0 : Int) ≤ m := by omega
          clear hstep hsn hy
          cases sn
          · rcases hyx : (y == x) with _ | _
            · rw [hyx] at HS
              go_wp2_with fail
              exact ⟨⟨m + 1, by omega, by go_num, by rw [HS.out]; rfl⟩, by simp [intOf]; omega⟩
            · rw [hyx] at HS
              go_wp2_with fail
              exact ⟨⟨m + 1, by omega, by go_num, by rw [HS.out]; rfl⟩, by simp [intOf]; omega⟩
          · go_wp2_with fail
            exact ⟨⟨m + 1, by omega, by go_num, by rw [HS.out]; rfl⟩, by simp [intOf]; omega⟩
        · obtain rfl : m = j := by omega
          have mI : ¬ (m : Int) < m := by omega
          obtain ⟨sn, hsn⟩ : ∃ b, decide (x ∈ (E.take m).take m) = b := ⟨_, rfl⟩
          rw [hsn]
          have hsn2 : decide (x ∈ E.take m) = sn := by rw [← hsn, List.take_take, Nat.min_self]
          have HSN := Lib.hid hsn2
          clear hsn hsn2
          cases sn
          · have hfin : st ++ (tx ++ ⟨#[10]⟩) = ⟨(Ex.btxt (Ud.uniq (E.take (m + 1)))).toArray⟩ := by
              rw [HNX.out, if_neg (by simpa using HSN.out), ← HST.out, ← HTE.out, show (⟨#[10]⟩ : ByteArray) = ⟨[10].toArray⟩ from rfl]
              simp only [Fi.ba_app]
            have HF := Lib.hid hfin
            clear hfin
            go_wp2_with (go_at_call 67; refine (HTX.out _).mono ?_; rintro e w2 ⟨rfl, hb2⟩; have HB2 := Lib.hid (HBR.out.trans (hb2.mono HBR.out.size)); clear hb2)
            exact ⟨⟨m + 1, by omega, by go_num, by rw [← HF.out], HB2.out⟩, by simp [intOf]; omega⟩
          · have hfin : st = ⟨(Ex.btxt (Ud.uniq (E.take (m + 1)))).toArray⟩ := by
              rw [HNX.out, if_pos (by simpa using HSN.out), ← HST.out]
            have HF := Lib.hid hfin
            clear hfin
            go_wp2_with fail
            exact ⟨⟨m + 1, by omega, by go_num, by rw [← HF.out], HBR.out⟩, by simp [intOf]; omega⟩
    · obtain rfl : j = xn := by omega
      have jI : ¬ (j : Int) < j := by omega
      have he : (⟨(Ex.btxt (Ud.uniq (E.take j))).toArray⟩ : ByteArray) = t2 := by rw [List.take_of_length_le (by rw [HXN.out]; exact Nat.le_refl _)]; exact HT2.out
      rw [he]
      have hT := HT.out wr (HB.out.trans (hbel.mono HB.out.size))
      have HBR := Lib.hid (HB.out.trans (hbel.mono HB.out.size))
      clear hbel he hatr
      go_wp2_with fail
      refine hT.mono ?_
      rintro e w2 ⟨rfl, hb2⟩
      have HB2 := Lib.hid (HBR.out.trans (hb2.mono HBR.out.size))
      clear hb2 hT
      go_wp2_with fail
      go_ret2
      exact ⟨rfl, HB2.out⟩
end Go.Proofs.YtkmfegamblmpeaaGreatDoor

/- A slice of the document's rows that came in. -/
namespace Go.Proofs.YtkmfegamblmpeaaGreatDoor
open Go.ChangeShapes Go.WideShapes Go.RowKit Go.Deep
set_option linter.unusedSimpArgs false
set_option linter.unusedVariables false

def Rw.bounds (r : Rw.Row) : Prop := (-9223372036854775808 ≤ r.1 ∧ r.1 ≤ 9223372036854775807) ∧ (-9223372036854775808 ≤ r.2.1 ∧ r.2.1 ≤ 9223372036854775807) ∧ r.2.2.length ≤ maxLen ∧ ∀ c ∈ r.2.2, -9223372036854775808 ≤ c ∧ c ≤ 9223372036854775807
/-- Rows that came in: nil; or a row of them. -/
def Rw.IsRows (w : World) (a : Option Addr) (len cap : Nat) (l : List Rw.Row) : Prop :=
  ∃ ads, ads.length = l.length ∧ l.length = len ∧ len ≤ cap ∧ cap ≤ maxLen ∧ Sl w w.heap.size a (Rw.flI l ads) ∧
    (∀ (i : Nat) (r : Rw.Row) (a : Option Addr × Nat), l[i]? = some r → ads[i]? = some a → Sl w w.heap.size a.1 (r.2.2.map (Value.int .i64))) ∧ ∀ r ∈ l, Rw.bounds r

theorem Rw.getD_get {α : Type} {n : Nat} {f : Nat → α} {i : Nat} {x : α} (h : ((List.range n).map f)[i]? = some x) : i < n ∧ f i = x := by
  have hlt := (List.getElem?_eq_some_iff.1 h).1
  simp at hlt
  rw [List.getElem?_map, List.getElem?_range hlt] at h
  simp at h
  exact ⟨hlt, h⟩
theorem Rw.flI_cell {w : World} {b o : Nat} : ∀ (l : List Rw.Row) (ads : List (Option Addr × Nat)) (k : Nat), ads.length = l.length →
    (∀ i r a, l[i]? = some r → ads[i]? = some a → w.cell? ⟨b, o + (k + i) * 3, none⟩ = some (.int .i64 r.1) ∧ w.cell? ⟨b, o + (k + i) * 3 + 1, none⟩ = some (.int .i64 r.2.1) ∧ w.cell? ⟨b, o + (k + i) * 3 + 2, none⟩ = some (.slice a.1 r.2.2.length a.2)) →
    ∀ j, j < (Rw.flI l ads).length → w.cell? ⟨b, o + k * 3 + j, none⟩ = (Rw.flI l ads)[j]?
  | [], _, k, _, _, j, hj => by simp [Rw.flI] at hj
  | _ :: _, [], k, h, _, j, hj => by simp at h
  | r :: t, a :: as', k, hl, h, j, hj => by
    obtain ⟨h0, h1, h2⟩ := h 0 r a rfl rfl
    rw [Nat.add_zero] at h0 h1 h2
    have ih := Rw.flI_cell t as' (k + 1) (by simpa using hl) (fun i r' a' hi hi' => by
      have := h (i + 1) r' a' (by simpa using hi) (by simpa using hi')
      rw [show k + (i + 1) = k + 1 + i by omega] at this
      exact this)
    rcases j with _ | _ | _ | j
    · exact h0
    · rw [show o + k * 3 + (0 + 1) = o + k * 3 + 1 by omega]; exact h1
    · rw [show o + k * 3 + (0 + 1 + 1) = o + k * 3 + 2 by omega]; exact h2
    · have := ih j (by simp only [Rw.flI, List.length_cons] at hj; omega)
      rw [show o + k * 3 + (j + 1 + 1 + 1) = o + (k + 1) * 3 + j by omega, this]
      rfl

theorem Rw.isRows_of {H : Type} {enc : TypeId × Value → H} {P : Program} {w : World} {t e q : TypeId} {f0 f1 f2 : Field} {fuel : Nat} {a : Option Addr} {len cap : Nat} {x : DataW H × List MemPlace} (ht : P.underlying t = some (.slice e)) (he : P.underlying e = some (.struct #[f0, f1, f2]))
    (ce : P.cellsOf e = 3) (o0 : f0.offset = 0) (o1 : f1.offset = 1) (o2 : f2.offset = 2) (c0 : P.cellsOf f0.type = 1) (c1 : P.cellsOf f1.type = 1) (c2 : P.cellsOf f2.type = 1) (k0 : P.underlying f0.type = some (.int .i64)) (k1 : P.underlying f1.type = some (.int .i64))
    (k2 : P.underlying f2.type = some (.slice q)) (k3 : P.underlying q = some (.int .i64)) (c3 : P.cellsOf q = 1)
    (h : DataW.trod enc P w 0 (fun _ => true) true fuel t [.slice a len cap] = some x) : ∃ l, Rw.IsRows w a len cap l := by
  rcases open_slice ht h with ⟨hcs, _⟩ | ⟨ad, l, c, m, n, D, Pl, hcs, hb, hl, hm, hmm, _, hx⟩
  · simp only [List.cons.injEq, Value.slice.injEq, and_true] at hcs
    obtain ⟨rfl, rfl, rfl⟩ := hcs
    exact ⟨[], [], rfl, rfl, Nat.le_refl _, by decide, Sl.nil _ _ _, by simp, by simp⟩
  · simp only [List.cons.injEq, Value.slice.injEq, and_true] at hcs
    obtain ⟨rfl, rfl, rfl⟩ := hcs
    have hlm : len ≤ m := by rw [hmm]; split <;> omega
    have each : ∀ i, i < len → ∃ q : Rw.Row × Option Addr × Nat, w.cell? (ad.add (i * 3)) = some (.int .i64 q.1.1) ∧ w.cell? (ad.add (i * 3 + 1)) = some (.int .i64 q.1.2.1) ∧ w.cell? (ad.add (i * 3 + 2)) = some (.slice q.2.1 q.1.2.2.length q.2.2) ∧
        Sl w w.heap.size q.2.1 (q.1.2.2.map (Value.int .i64)) ∧ Rw.bounds q.1 := by
      intro i hi
      obtain ⟨cs', h1, h2⟩ := hx i (by omega)
      rw [ce] at h1
      obtain ⟨_, hlen, hcell⟩ := World.cells?_some h1
      obtain ⟨y0, y1, y2, n', _, _, g0, g1, g2⟩ := trod_struct3 he h2
      match cs', hlen with
      | [v0, v1, v2], _ =>
        simp [o0, o1, o2, c0, c1, c2] at g0 g1 g2
        obtain ⟨z0, e0, _, w0⟩ := DataW.trod_int k0 g0
        obtain ⟨z1, e1, _, w1⟩ := DataW.trod_int k1 g1
        simp only [List.cons.injEq, and_true] at e0 e1
        have d0 := hcell 0 (by omega)
        have d1 := hcell 1 (by omega)
        have d2 := hcell 2 (by omega)
        rw [add_add] at d0 d1 d2
        obtain ⟨a2, l2, p2, zs, ev, hR⟩ : ∃ a2 l2 p2 zs, v2 = .slice a2 l2 p2 ∧ IsRow .i64 w a2 l2 p2 zs := by
          rcases open_ints k2 k3 c3 g2 with ⟨hcs, _⟩ | ⟨x, l, c, zs, hcs, _, hl, hm, hz, _, hcel2, hwz⟩
          · simp only [List.cons.injEq, and_true] at hcs
            subst hcs
            exact ⟨none, 0, 0, [], rfl, .inl ⟨rfl, rfl, rfl, rfl⟩⟩
          · simp only [List.cons.injEq, and_true] at hcs
            subst hcs
            exact ⟨some x, l, c, zs, rfl, .inr ⟨_, rfl, hl, hm, by simpa using hz, hcel2, hwz⟩⟩
        subst ev
        obtain ⟨q1, q2, q3⟩ := hR.len_le
        have hlz : (zs.take l2).length = l2 := by rw [List.length_take, q3]; omega
        refine ⟨((z0, z1, zs.take l2), a2, p2), ?_, ?_, ?_, hR.sl l2 (Nat.le_refl _), bounds_i64 w0, bounds_i64 w1, by show (zs.take l2).length ≤ maxLen; omega, fun c hc => bounds_i64 (hR.wf c (List.mem_of_mem_take hc))⟩
        · rw [← e0]; simpa using d0
        · rw [← e1]; simpa using d1
        · show w.cell? (ad.add (i * 3 + 2)) = some (.slice a2 (zs.take l2).length p2)
          rw [hlz]; simpa using d2
    obtain ⟨q, hq⟩ := choose_lt each
    refine ⟨(List.range len).map fun i => (q i).1, (List.range len).map fun i => (q i).2, by simp, by simp, hl, hm, ?_, ?_, ?_⟩
    · intro hne
      rw [Rw.flI_len _ _ (by simp), List.length_map, List.length_range] at hne
      obtain ⟨b, off, spot⟩ := ad
      have hc0 := (hq 0 (by omega)).1
      have hspot : spot = none := by simpa [Addr.add] using World.cell?_spot hc0
      subst hspot
      have hadd : ∀ i, (⟨b, off, none⟩ : Addr).add i = ⟨b, off + i, none⟩ := by
        intro i; unfold Addr.add; split <;> simp_all
      refine ⟨b, off, rfl, ?_, fun j hj => ?_⟩
      · rw [hadd] at hc0
        exact World.block_lt_of_cell? w _ hc0
      · have := Rw.flI_cell (w := w) (b := b) (o := off) ((List.range len).map fun i => (q i).1) ((List.range len).map fun i => (q i).2) 0 (by simp) (fun i r a hi hi' => by
          obtain ⟨hi1, he1⟩ := Rw.getD_get hi
          obtain ⟨_, he2⟩ := Rw.getD_get hi'
          obtain ⟨a0, a1, a2, _⟩ := hq i hi1
          rw [hadd] at a0 a1 a2
          rw [he1] at a0 a1 a2
          rw [he2] at a2
          rw [Nat.zero_add]
          exact ⟨a0, a1, a2⟩) j hj
        simpa using this
    · intro i r a hi hi'
      obtain ⟨hi1, he1⟩ := Rw.getD_get hi
      obtain ⟨_, he2⟩ := Rw.getD_get hi'
      have := (hq i hi1).2.2.2.1
      rw [he1, he2] at this
      exact this
    · intro r hr
      obtain ⟨i, hi, rfl⟩ := List.mem_map.1 hr
      exact (hq i (List.mem_range.1 hi)).2.2.2.2
end Go.Proofs.YtkmfegamblmpeaaGreatDoor
