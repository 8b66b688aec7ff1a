/- The layer excl: char, Parse, by walking their texts. -/
import Derived.Test.YtkmfegamblmpeaaGreatDoorExPlain
import Derived.Test.YtkmfegamblmpeaaGreatDoorMdTable
import Derived.Test.YtkmfegamblmpeaaGreatDoorRwLines
import Derived.Test.YtkmfegamblmpeaaGreatDoorFiPlain2
import Derived.Test.YtkmfegamblmpeaaGreatDoorFaCh
import Derived.Test.YtkmfegamblmpeaaGreatDoorCpChars
import Derived.Test.YtkmfegamblmpeaaGreatDoorUdOf
import Derived.Test.YtkmfegamblmpeaaGreatDoorUdIs
import Derived.Test.YtkmfegamblmpeaaGreatDoorHangul
import Derived.Test.YtkmfegamblmpeaaGreatDoorMap
import Derived.Test.YtkmfegamblmpeaaGreatDoorCpIsPlain
import Derived.Test.YtkmfegamblmpeaaGreatDoorExt
import Derived.Test.YtkmfegamblmpeaaGreatDoorUdMap
namespace Go.Proofs.YtkmfegamblmpeaaGreatDoor
open Go.RowKit
set_option linter.unusedSimpArgs false
set_option linter.unusedVariables false

set_option maxHeartbeats 1000000 in
/-- slices.Index of what is not there. -/
theorem Ex.index_any (A : Option Addr) (n cp B : Nat) (l : List Int) (c : Int) (w : World) (hn : l.length = n) (hN : n ≤ 1000000) (hB : B ≤ w.heap.size) (hA : Sl w B A (l.map (Value.int .i32))) (hc : c ∉ l) :
    Calls Tryz.prog 150 #[.slice A n cp, .int .i32 c] w fun e w' => e = .returned (.int .i64 (-1)) ∧ w' = w := by
  have HN := Lib.hid hn
  have HC := Lib.hid hc
  clear hn hc
  go_enter Tryz.func150, Tryz.ntmps150
  go_wp2_with fail
  go_loop [5, 8] (fun _ i => ∃ k : Nat, k ≤ n ∧ i = .int .i64 k) (fun _ i => n - (intOf i).toNat)
  case atStart => exact ⟨0, Nat.zero_le _, rfl⟩
  case round =>
    obtain ⟨k, hk, rfl⟩ := hrel
    by_cases hlt : k < n
    · obtain ⟨x, hx⟩ : ∃ x, l[k]? = some x := ⟨_, List.getElem?_eq_getElem (by rw [HN.out]; exact hlt)⟩
      obtain ⟨b, o, rfl, hb, hcell⟩ := hA (by rw [List.length_map, HN.out]; omega)
      have h1 := hcell k (by rw [List.length_map, HN.out]; exact hlt)
      rw [List.getElem?_map, hx, Option.map_some] at h1
      have hne : (c == x) = false := by
        have : c ≠ x := fun e => HC.out (by rw [e]; exact List.mem_of_getElem? hx)
        simpa using this
      have kI : (k : Int) < n := by omega
      have k0 : (0 : Int) ≤ (k : Int) := by omega
      clear hcell hx
      go_wp2_with fail
      exact ⟨⟨k + 1, by omega, by go_num⟩, by simp [intOf]; omega⟩
    · obtain rfl : k = n := by omega
      have kI : ¬ (k : Int) < k := by omega
      go_wp2_with fail
      go_ret
      exact ⟨rfl, rfl⟩
theorem Ex.contains_any (A : Option Addr) (n cp B : Nat) (l : List Int) (c : Int) (w : World) (hn : l.length = n) (hN : n ≤ 1000000) (hB : B ≤ w.heap.size) (hA : Sl w B A (l.map (Value.int .i32))) (hc : c ∉ l) :
    Calls Tryz.prog 127 #[.slice A n cp, .int .i32 c] w fun e w' => e = .returned (.bool false) ∧ w' = w := by
  have h := Ex.index_any A n cp B l c w hn hN hB hA hc
  clear hn hc hA
  go_enter Tryz.func127, Tryz.ntmps127
  go_wp2_with fail
  refine h.mono ?_
  rintro e w1 ⟨rfl, rfl⟩
  go_wp2_with fail
  go_ret
  exact ⟨rfl, rfl⟩

set_option maxHeartbeats 1000000 in
theorem Ex.char_any (s : ByteArray) (A : Option Addr) (n cp B : Nat) (l : List Int) (c : Int) (w : World) (hs : s.size ≤ 1000000) (hn : l.length = n) (hN : n ≤ 1000000) (hB : B ≤ w.heap.size) (hA : Sl w B A (l.map (Value.int .i32)))
    (hx : Fi.hex s.data.toList = some c) (hi : C.isC c = true) (hc : c ∉ l) :
    Calls Tryz.prog 95 #[.string s, .slice A n cp] w fun e w' => e = .returned (.tuple #[.int .i32 c, .string ⟨#[]⟩]) ∧ w' = w := by
  have h1 : ∀ W : World, Calls Tryz.prog 126 #[.string s] W fun e w' => e = .returned (.tuple #[.int .i32 c, .bool true]) ∧ w' = W := fun W => (Fi.hex_any s W).mono fun e w' h => ⟨by
    have := h.1
    unfold Fi.RetHex at this
    rw [this, hx]; rfl, h.2⟩
  have h2 := C.utfis_any c
  rw [hi] at h2
  have h3 := fun (W : World) (e : W = w) => Ex.contains_any A n cp B l c W hn hN (by rw [e]; exact hB) (by rw [e]; exact hA) hc
  clear hx hi hc hA hn
  go_enter Tryz.func95, Tryz.ntmps95
  go_wp2_with fail
  refine (h1 _).mono ?_
  rintro e w1 ⟨rfl, rfl⟩
  go_wp2_with fail
  refine (h2 _).mono ?_
  rintro e w1 ⟨rfl, rfl⟩
  go_wp2_with fail
  refine (h3 _ rfl).mono ?_
  rintro e w1 ⟨rfl, rfl⟩
  go_wp2_with fail
  go_ret2
  exact ⟨rfl, rfl⟩

theorem Ex.drop_le (c : UInt8) : ∀ l : List UInt8, (l.dropWhile (· == c)).length ≤ l.length
  | [] => Nat.le_refl _
  | b :: l => by
    rw [List.dropWhile_cons]
    split
    · have := Ex.drop_le c l; simp; omega
    · exact Nat.le_refl _
theorem Ex.strip_le (x : List UInt8) : (Lib.trimB (Lib.cut x [35]).1 32).length ≤ x.length := by
  have h1 : (Lib.cut x [35]).1.length ≤ x.length := by unfold Lib.cut; split <;> simp <;> omega
  rw [Fi.trim_comm]
  unfold Lib.trimRightB Lib.trimLeftB
  rw [List.length_reverse]
  have h2 := Ex.drop_le 32 ((Lib.cut x [35]).1.dropWhile (· == 32)).reverse
  have h3 := Ex.drop_le 32 (Lib.cut x [35]).1
  rw [List.length_reverse] at h2
  omega
/-- What Parse answers of a text whose characters may be. -/
def Ex.RetParse (cs : List Int) (w : World) (e : Ending) (w' : World) : Prop :=
  ∃ A c, e = .returned (.tuple #[.agg #[.slice A (C.chars cs).length c], .nilIface]) ∧ Slt w' 21 A ((C.chars cs).map (Value.int .i32)) ∧ Below w.heap.size w w'

set_option maxRecDepth 100000 in
set_option maxHeartbeats 4000000 in
theorem Ex.parse_any (s : ByteArray) (hs : s.size ≤ 300000) (cs : List Int) (hp : Ex.parse s.data.toList = some cs) (w : World) (hL : Fi.LaidM w) :
    Calls Tryz.prog 65 #[.string s] w (Ex.RetParse cs w) := by
  unfold Ex.parse at hp
  split at hp
  case isFalse => cases hp
  rename_i h0
  obtain ⟨hok, hmax⟩ := h0
  have hLn := Rw.lines_any s (by omega) hok
  have hl : ∀ x ∈ Rw.lns [] s.data.toList, x.length ≤ 1000 := fun x hx => by
    rw [List.all_eq_true] at hok
    have := hok x hx
    unfold Rw.okl at this
    rw [Bool.and_eq_true, decide_eq_true_eq] at this
    exact this.1
  obtain ⟨L, hLe⟩ : ∃ L, Rw.lns [] s.data.toList = L := ⟨_, rfl⟩
  rw [hLe] at hp hLn hmax hl
  obtain ⟨n, hn⟩ : ∃ n, L.length = n := ⟨_, rfl⟩
  have HP := Lib.hid hp
  have HLL := Lib.hid hl
  have HN := Lib.hid hn
  obtain ⟨i0, hi, hi0, hi1, hi2⟩ := info_parts infoRune
  rw [hn] at hmax
  unfold Rw.RetLines at hLn
  rw [hn] at hLn
  clear hok hp hLe hl hn
  go_enter Tryz.func65, Tryz.ntmps65
  go_wp2_with fail
  refine (hLn _).mono ?_
  rintro e w1 ⟨A, c, rfl, hA, hb1⟩
  have hw0 : Below w.heap.size w w1 := ((Below.refl _ _).alloc (Nat.le_refl _) _).trans (hb1.mono (by simp))
  have hat : Rw.At w1 w.heap.size 41 [.slice none 0 0] := (Rw.At.new w 41 [.slice none 0 0]).below hb1
  have HL1 := Lib.hid (hL.below hw0)
  have HA := Lib.hid hA
  have HW0 := Lib.hid hw0
  clear hA hb1 hL hLn hw0
  go_wp2_with fail
  go_loopw [6, 7, 8, 9, 10, 22] (fun v _ _ _ _ i wr => ∃ (k : Nat) (seen : List Int), k ≤ n ∧ i = .int .i64 k ∧ Ex.steps [] (L.take k) = some seen ∧ wr.ownsRow w1.heap.size 21 1 v seen.length (seen.map (Value.int .i32)) ∧ Below w1.heap.size w1 wr)
    (fun _ _ _ _ _ i _ => n - (intOf i).toNat)
  case atStart => exact ⟨0, [], Nat.zero_le _, rfl, rfl, World.ownsRow_nil _ _ _ _, Below.refl _ _⟩
  case round =>
    obtain ⟨k, seen, hk, rfl, hst, hown, hbel⟩ := hrel
    have hz := hbel.size
    have hsl := Ex.steps_len _ hst
    simp only [List.length_nil, Nat.zero_add] at hsl
    have hkl : (L.take k).length ≤ k := List.length_take_le _ _
    by_cases hlt : k < n
    · obtain ⟨x, hx⟩ : ∃ x, L[k]? = some x := ⟨_, List.getElem?_eq_getElem (by rw [HN.out]; exact hlt)⟩
      obtain ⟨seen', h1, h2⟩ := Ex.steps_take HP.out hx hst
      obtain ⟨ab, ao, rfl, hab, hac⟩ := HA.out (by rw [List.length_map, HN.out]; omega)
      have hc := hac k (by rw [List.length_map, HN.out]; exact hlt)
      rw [List.getElem?_map, hx, Option.map_some, ← (bcell hbel).1 _ _ hab] at hc
      have hxl := HLL.out x (List.mem_of_getElem? hx)
      have hS := Fi.strip_any ⟨x.toArray⟩ (by show x.toArray.size < _; simp; omega) wr (HL1.out.below hbel)
      rw [show (⟨x.toArray⟩ : ByteArray).data.toList = x from rfl] at hS
      obtain ⟨bx, hbx⟩ : ∃ bx : ByteArray, ⟨x.toArray⟩ = bx := ⟨_, rfl⟩
      rw [hbx] at hc hS
      obtain ⟨sx, hsx⟩ : ∃ sx : ByteArray, ⟨(Fi.strip x).toArray⟩ = sx := ⟨_, rfl⟩
      rw [hsx] at hS
      have hsd : sx.data.toList = Fi.strip x := by rw [← hsx]
      have kI : (k : Int) < n := by omega
      have habr : ab < wr.heap.size := by omega
      have HX := Lib.hid h2
      have HBEL := Lib.hid hbel
      have HOWN := Lib.hid hown
      have HH := Lib.hid h1
      have HSD := Lib.hid hsd
      have hss : sx.size ≤ 1000000 := by
        have h3 : sx.data.toList.length = sx.size := by simp
        have h4 : (Fi.strip x).length ≤ x.length := by
          unfold Fi.strip
          exact Ex.strip_le x
        rw [hsd] at h3
        omega
      clear hac hx h1 h2 hbel hbx hsx hown hst hsd
      go_wp2_with fail
      refine hS.mono ?_
      rintro e w2 ⟨rfl, hb2⟩
      have hown2 := own_below HOWN.out hb2 (Nat.le_refl _)
      have HB2 := Lib.hid (HBEL.out.trans (hb2.mono hz))
      have hz2 : w1.heap.size ≤ w2.heap.size := Nat.le_trans hz hb2.size
      clear hb2 hS
      rcases Ex.line_some HH.out with ⟨he, rfl⟩ | ⟨ch, hne, hhex, hisC, hnot, rfl⟩
      · have hemp : sx.toList.isEmpty = true := by rw [ByteArray.toList_eq sx, HSD.out, he]; rfl
        have HOWN2 := Lib.hid hown2
        clear he hown2
        go_wp2_with fail
        exact ⟨⟨k + 1, _, by omega, by go_num, HX.out, HOWN2.out, HB2.out⟩, by simp [intOf]; omega⟩
      · have hemp : sx.toList.isEmpty = false := by
          rw [ByteArray.toList_eq sx, HSD.out]
          rcases hl : Fi.strip x with _ | ⟨q, r⟩
          · exact absurd hl hne
          · rfl
        obtain ⟨Av, cv, rfl⟩ := own_form hown2
        have hCH := Ex.char_any sx Av seen.length cv w2.heap.size seen ch w2 hss rfl (by omega) (Nat.le_refl _) (Sl.of_own hown2) (by rw [HSD.out]; exact hhex) hisC hnot
        have HOWN2 := Lib.hid hown2
        clear hne hhex hisC hnot hown2
        go_wp2_with fail
        refine hCH.mono ?_
        rintro e w3 ⟨rfl, rfl⟩
        go_wp2_with (first | (at_builtin; refine wpList_push1 _ rfl _ _ _ rfl w1.heap.size 21 i0 _ 4 Tryz.underlying36 hi hi0 hi1 hi2 rfl _ seen.length _ rfl HOWN2.out _ rfl rfl (by simp only [maxLen]; omega) (by omega) hz2 ?_; intro v1 w4 hown4 hb4) | fail)
        exact ⟨⟨k + 1, _, by omega, by go_num, HX.out, by rw [List.length_append, List.map_append]; exact hown4, HB2.out.trans hb4⟩, by simp [intOf]; omega⟩
    · obtain rfl : k = n := by omega
      have kI : ¬ (k : Int) < k := by omega
      have hfin : seen = cs := by
        rw [List.take_of_length_le (by rw [HN.out]; exact Nat.le_refl _), HP.out, Option.some.injEq] at hst
        exact hst.symm
      subst hfin
      obtain ⟨Av, cv, rfl⟩ := own_form hown
      have hCH := C.chars_any Av seen.length cv wr.heap.size seen wr rfl (by omega) (Nat.le_refl _) (Sl.of_own hown)
      have hatr := hat.below hbel
      have HBEL := Lib.hid (HW0.out.trans (hbel.mono HW0.out.size))
      clear hst hown hbel
      go_wp2_with fail
      refine hCH.mono ?_
      rintro e w2 ⟨A2, c2, rfl, hown2, hb2⟩
      have hat2 := hatr.below hb2
      have z0 := hat2.cell 0 rfl
      have g0 := hat2.frozen 0
      have hS2 := Slt.of_own hown2
      have HB2 := Lib.hid (HBEL.out.trans (hb2.mono HBEL.out.size))
      have HS2 := Lib.hid hS2
      clear hS2 hown2 hb2 hCH hatr
      go_wp2_with fail
      have hat3 := hat2.set 0 (.slice A2 (C.chars seen).length c2)
      refine bodyPost_ret (Rw.results2 rfl _ _ w.heap.size _ _ _ _ rfl hat3 Tryz.underlying41 rfl (by kernel_rfl)) rfl ⟨A2, c2, rfl, ?_, ?_⟩
      · exact HS2.out.setAt hat2 (by decide) 0 _
      · exact HB2.out.setCell (p := ⟨w.heap.size, 0, none⟩) (Nat.le_refl _) _
end Go.Proofs.YtkmfegamblmpeaaGreatDoor

/- ucd.Load of two texts that are a table, by walking its text. -/
namespace Go.Proofs.YtkmfegamblmpeaaGreatDoor
open Go.RowKit
set_option linter.unusedSimpArgs false
set_option linter.unusedVariables false
theorem Rw.Laid.max {w : World} (h : Rw.Laid w) : Fi.LaidM w := h.1.1
set_option maxRecDepth 100000 in
set_option maxHeartbeats 2000000 in
theorem Ud.load_any (u x : ByteArray) (hu : u.size ≤ 1000000) (hxs : x.size ≤ 300000) (T : List Rw.Row) (cs : List Int) (hp : Rw.parse u.data.toList = some T) (hx : Ex.parse x.data.toList = some cs) (ok : Ud.Ok T (C.chars cs)) (hbd : Md.bd T) (w : World) (hL : Rw.Laid w) :
    Calls Tryz.prog 29 #[.string u, .string x] w (Ud.RetOf T (C.chars cs) w) := by
  have hP := Rw.parse_any u hu T hp w hL
  have HX := Lib.hid (fun W (hW : Below w.heap.size w W) => Ex.parse_any x hxs cs hx W (hL.next hW).max)
  have HO := Lib.hid (fun v W h => Ud.of_any v T (C.chars cs) W h ok hbd)
  unfold Ex.RetParse at HX
  obtain ⟨S, hS⟩ : ∃ S, C.chars cs = S := ⟨_, rfl⟩
  rw [hS] at HX HO ⊢
  clear hp hx ok hbd hS hu hxs hL
  go_enter Tryz.func29, Tryz.ntmps29
  go_wp2_with fail
  refine hP.mono ?_
  rintro e w1 ⟨A, c, rfl, htab, hb1⟩
  have hX1 := HX.out w1 hb1
  have HT := Lib.hid htab.sees
  have HB1 := Lib.hid hb1
  clear hP HX htab hb1
  go_wp2_with fail
  refine hX1.mono ?_
  rintro e w2 ⟨A2, c2, rfl, hsl, hb2⟩
  have hbn : Below w2.heap.size w2 (w2.alloc (.cells #[.slice A2 S.length c2] 41)) := (Below.refl _ _).alloc (Nat.le_refl _) _
  have hn := Rw.At.new w2 41 [.slice A2 S.length c2]
  have z0 := hn.cell 0 rfl
  have hIs : Md.Is (w2.alloc (.cells #[.slice A2 S.length c2] 41)) (Md.tv A T.length c A2 S.length c2) T S := ⟨A, c, A2, c2, rfl, (HT.out.below hb2).below hbn, hsl.sl.below hbn hbn.size⟩
  have hOF := HO.out _ _ hIs
  have HB3 := Lib.hid ((HB1.out.trans (hb2.mono HB1.out.size)).trans (hbn.mono (Nat.le_trans HB1.out.size hb2.size)))
  unfold Md.tv at hOF
  clear hX1 hsl hb2 hbn hn hIs HO
  go_wp2_with fail
  refine hOF.mono ?_
  rintro e w3 ⟨p, rfl, his, hb3⟩
  have HI := Lib.hid his
  have HB4 := Lib.hid (HB3.out.trans (hb3.mono HB3.out.size))
  clear hOF his hb3
  go_wp2_with fail
  go_ret2
  exact ⟨p, rfl, HI.out, HB4.out⟩
end Go.Proofs.YtkmfegamblmpeaaGreatDoor

/- Loaded tables in plain words: what the pages and sets tell. -/
namespace Go.Proofs.YtkmfegamblmpeaaGreatDoor
set_option linter.unusedSimpArgs false
set_option linter.unusedVariables false
theorem Ud.good_bd {r : Rw.Row} (h : Md.good r) : 0 ≤ r.1 ∧ r.1 ≤ 1114111 := by
  have := h.1
  unfold C.isC at this
  simp only [decide_eq_true_eq] at this
  exact ⟨this.1, this.2.1⟩
theorem Ud.Ok.bd {T : List Rw.Row} {S : List Int} (h : Ud.Ok T S) : Md.bd T := by
  intro r hr
  have hg := h.good r hr
  have h1 := Ud.good_bd hg
  refine ⟨by omega, fun c hc => ?_⟩
  have := (hg.2.2.2.2.2 c hc).1
  unfold C.isC at this
  simp only [decide_eq_true_eq] at this
  omega
/-- The class that the pages tell. -/
theorem Ud.get_cls {T : List Rw.Row} {S : List Int} (h : Ud.Ok T S) (c : Int) : Pg.get (Pg.last (Ud.cl T)) c = Md.cls T c := by
  unfold Pg.get
  rw [Ud.cls_last h.rises (fun r hr => (h.good r hr).2.1)]
  split
  · rfl
  · rename_i hc
    unfold Md.cls
    cases hf : Md.find T c with
    | none => rfl
    | some r =>
      obtain ⟨h1, h2⟩ := Md.find_some hf
      have := Ud.good_bd (h.good r h1)
      omega
theorem Ud.cls_bd {T : List Rw.Row} {S : List Int} (h : Ud.Ok T S) (c : Int) : 0 ≤ Md.cls T c ∧ Md.cls T c ≤ 254 := by
  unfold Md.cls
  cases hf : Md.find T c with
  | none => simp
  | some r =>
    have := h.good r (Md.find_some hf).1
    exact ⟨this.2.1, this.2.2.1⟩
/-- The place that the pages tell. -/
theorem Ud.get_pl {T : List Rw.Row} {S : List Int} (h : Ud.Ok T S) (c : Int) : (∃ (i : Nat) (r : Rw.Row), (Ud.mr T)[i]? = some r ∧ r.1 = c ∧ Md.find T c = some r ∧ 0 < r.2.2.length ∧ Pg.get (Pg.last (Ud.pl T)) c = (i : Int) + 1) ∨ (Pg.get (Pg.last (Ud.pl T)) c = 0 ∧ Md.rmp T c = []) := by
  rcases Ud.mr_find h.rises c with ⟨i, r, h1, h2, h3, h4⟩ | ⟨h1, h2⟩
  · refine .inl ⟨i, r, h1, h2, h3, h4, ?_⟩
    have hb := Ud.good_bd (h.good r (Md.find_some h3).1)
    unfold Pg.get
    rw [if_pos (by omega), ← h2, Ud.place_at h.rises h1]
  · refine .inr ⟨?_, h2⟩
    unfold Pg.get
    rw [Ud.place_no h1]
    simp
theorem Ud.full_one {T : List Rw.Row} {c : Int} (hr : Md.rmp T c = []) (hk : Hg.ofK c < 4) : Ud.full T c = [c] := by
  unfold Ud.full
  rw [(Ud.none_mp hr hk).2]
  rfl
theorem Ud.full_split {T : List Rw.Row} {S : List Int} (h : Ud.Ok T S) {c : Int} (hs : Hg.splitK c ≠ []) : Ud.full T c = Hg.splitK c := by
  have hk : Hg.ofK c = 4 ∨ Hg.ofK c = 5 := by
    unfold Hg.splitK at hs
    by_cases h4 : Hg.ofK c = 4
    · exact .inl h4
    · by_cases h5 : Hg.ofK c = 5
      · exact .inr h5
      · rw [if_neg h4, if_neg h5] at hs
        exact absurd rfl hs
  unfold Ud.full
  rw [Ud.full_syl h.good hk]
  rfl
theorem Ud.split_kind {c : Int} (hs : Hg.splitK c = []) : Hg.ofK c < 4 := by
  have := Ud.kind_le c
  unfold Hg.splitK at hs
  by_cases h4 : Hg.ofK c = 4
  · rw [if_pos h4] at hs; cases hs
  · by_cases h5 : Hg.ofK c = 5
    · rw [if_neg h4, if_pos h5] at hs; cases hs
    · omega
theorem Ud.mp_pair {T : List Rw.Row} {c : Int} : Md.mp T c = if (Hg.pairK c).2.2 = true then [(Hg.pairK c).1, (Hg.pairK c).2.1] else Md.rmp T c := rfl
/-- A character that is plain has no mapping. -/
theorem Ud.plain_mp {T : List Rw.Row} (c : Int) : (Md.rmp T c = [] ∧ Hg.ofK c < 4) ↔ Md.mp T c = [] := by
  have hk := Ud.kind_le c
  unfold Md.mp
  rw [Ud.pair_kind]
  by_cases h4 : 4 ≤ Hg.ofK c
  · rw [decide_eq_true h4, if_pos rfl]
    simp
    omega
  · rw [decide_eq_false h4, if_neg (by simp)]
    constructor
    · exact fun h => h.1
    · exact fun h => ⟨h, by omega⟩
/-- Which characters have a mapping. -/
theorem Ud.mapped_mem {T : List Rw.Row} {S : List Int} (h : Ud.Ok T S) (c : Int) : C.mem (C.chars (Ud.mpd T)) c = decide (0 < (Md.rmp T c).length) := by
  rw [(C.chars_spec _).2, Bool.eq_iff_iff]
  simp only [Bool.and_eq_true, decide_eq_true_eq]
  constructor
  · rintro ⟨h1, _⟩
    unfold Ud.mpd at h1
    obtain ⟨r, hr, rfl⟩ := List.mem_map.1 h1
    obtain ⟨g1, g2⟩ := Ud.mem_mr.1 hr
    unfold Md.rmp
    rw [Md.find_mem h.rises g1]
    exact g2
  · intro h1
    unfold Md.rmp at h1
    cases hf : Md.find T c with
    | none => rw [hf] at h1; simp at h1
    | some r =>
      rw [hf] at h1
      obtain ⟨g1, g2⟩ := Md.find_some hf
      refine ⟨?_, ?_⟩
      · unfold Ud.mpd
        exact List.mem_map.2 ⟨r, Ud.mem_mr.2 ⟨g1, by simpa using h1⟩, g2⟩
      · rw [← g2]; exact (h.good r g1).1
end Go.Proofs.YtkmfegamblmpeaaGreatDoor

/- The lookups of a loaded table, by walking their texts. -/
namespace Go.Proofs.YtkmfegamblmpeaaGreatDoor
open Go.RowKit
set_option linter.unusedSimpArgs false
set_option linter.unusedVariables false
def Ud.isr (T : List Rw.Row) (c : Int) : Bool := decide (0 < (Md.rmp T c).length)
def Ud.fl (T : List Rw.Row) (c : Int) : List Int := if Ud.isr T c = true then Ud.full T c else []
def Ud.isp (T : List Rw.Row) (S : List Int) (c : Int) : Bool := Ud.isr T c && Md.prim T (C.mem S) c
def Ud.RetFind (T : List Rw.Row) (S : List Int) (c : Int) (w : World) (e : Ending) (w' : World) : Prop :=
  ∃ m mc f fc, e = .returned (.tuple #[.agg #[.slice m (Md.rmp T c).length mc, .slice f (Ud.fl T c).length fc, .bool (Ud.isp T S c)], .bool (Ud.isr T c)]) ∧ Sl w' w'.heap.size m (Ud.ints (Md.rmp T c)) ∧ Sl w' w'.heap.size f (Ud.ints (Ud.fl T c)) ∧ Below w.heap.size w w'

set_option maxRecDepth 100000 in
set_option maxHeartbeats 2000000 in
theorem Ud.find_any (v : Value) (T : List Rw.Row) (S : List Int) (c : Int) (w : World) (ok : Ud.Ok T S) (h : Ud.Is w v T S) :
    Calls Tryz.prog 39 #[v, .int .i32 c] w (Ud.RetFind T S c w) := by
  obtain ⟨b, A0, c0, XA, xc, pc, pp, A3, c3, mb, jb, A4, c4, A5, c5, A6, c6, es, rfl, hat, _, _, _, hpp, hents, _⟩ := h.is
  have hlen := ok.len
  have hba : Below w.heap.size w (w.alloc (.cells #[.slice none 0 0, .slice none 0 0, .bool false] 81)) := (Below.refl _ _).alloc (Nat.le_refl _) _
  have hata := hat.below hba
  have hatE := Rw.At.new w 81 [.slice none 0 0, .slice none 0 0, .bool false]
  have z3 := hata.cell 3 rfl
  have hbl := hata.lt
  have hG := Pg.get_any pp _ c _ (hpp.below hba)
  have HAT := Lib.hid hata
  have HE := Lib.hid hatE
  have HB := Lib.hid hba
  rcases Ud.get_pl ok c with ⟨i, r, hi, hrc, hfind, hpos, hget⟩ | ⟨hget, hrm⟩
  · have hisr : Ud.isr T c = true := by
      unfold Ud.isr Md.rmp
      rw [hfind]
      exact decide_eq_true hpos
    have hrmp : Md.rmp T c = r.2.2 := by unfold Md.rmp; rw [hfind]; rfl
    have hfl : Ud.fl T c = Ud.full T r.1 := by unfold Ud.fl; rw [if_pos hisr, hrc]
    have hisp : Ud.isp T S c = Md.prim T (C.mem S) r.1 := by unfold Ud.isp; rw [hisr, hrc]; rfl
    unfold Ud.RetFind
    rw [hisr, hrmp, hfl, hisp]
    have him := (List.getElem?_eq_some_iff.1 hi).1
    have hle : (Ud.mr T).length ≤ T.length := List.length_filter_le _ _
    obtain ⟨a, ha⟩ : ∃ a, es[i]? = some a := ⟨_, List.getElem?_eq_getElem (by rw [hents.1]; exact him)⟩
    obtain ⟨hs1, hs2⟩ := hents.2.2 i r a hi ha
    obtain ⟨g1, g2, g3⟩ := Ud.flE_get T (C.mem S) (Ud.mr T) es i r a hi ha
    have hfl3 := Ud.flE_len T (C.mem S) (Ud.mr T) es hents.1
    obtain ⟨eb, eo, rfl, heb, hec⟩ := hents.2.1 (by rw [hfl3]; omega)
    have y0 := hec (i * 3) (by rw [hfl3]; omega)
    have y1 := hec (i * 3 + 1) (by rw [hfl3]; omega)
    have y2 := hec (i * 3 + 2) (by rw [hfl3]; omega)
    rw [g1] at y0
    rw [g2] at y1
    rw [g3] at y2
    rw [hget] at hG
    rw [← Nat.add_assoc] at y1 y2
    obtain ⟨mn, hmn⟩ : ∃ n, (Ud.mr T).length = n := ⟨_, rfl⟩
    rw [hmn] at him hle hata
    have HMN := Lib.hid hmn
    obtain ⟨fn, hfn⟩ : ∃ n, (Ud.full T r.1).length = n := ⟨_, rfl⟩
    obtain ⟨rn, hrn⟩ : ∃ n, r.2.2.length = n := ⟨_, rfl⟩
    obtain ⟨pb, hpb⟩ : ∃ n, Md.prim T (C.mem S) r.1 = n := ⟨_, rfl⟩
    rw [hfn, hrn, hpb]
    rw [hfn] at y1
    rw [hrn] at y0
    rw [hpb] at y2
    have hiI : (i : Int) < mn := by omega
    have hi0 : (0 : Int) ≤ i := by omega
    have hiw : IntKind.u16.wrap ((i : Int) + 1 - 1) = i := by
      show ((i : Int) + 1 - 1) % 65536 = i
      omega
    have hiw2 : IntKind.u16.wrap (i : Int) = i := by
      show (i : Int) % 65536 = i
      omega
    have hne : ((i : Int) + 1 == 0) = false := by simp; omega
    have hne2 : decide ((i : Int) + 1 = 0) = false := by simp; omega
    have HS1 := Lib.hid hs1
    have HS2 := Lib.hid hs2
    clear hs1 hs2 g1 g2 g3 hec hents hpp hat hfind hget hisr hisp hrmp hfl hi ha hfl3 hata hatE hba hmn hfn hrn hpb hle hlen h hpos hrc
    go_enter Tryz.func39, Tryz.ntmps39
    go_wp2_with fail
    refine hG.mono ?_
    rintro e w1 ⟨rfl, hb1⟩
    have HB1 := Lib.hid (HB.out.trans (hb1.mono HB.out.size))
    have hat1 := HAT.out.below hb1
    have hE1 := HE.out.below hb1
    have q4 := hat1.cell 4 rfl
    rw [HMN.out] at q4
    have q0 := (HB1.out.cell (p := ⟨eb, eo + i * 3, none⟩) heb).trans y0
    have q1 := (HB1.out.cell (p := ⟨eb, eo + i * 3 + 1, none⟩) heb).trans y1
    have q2 := (HB1.out.cell (p := ⟨eb, eo + i * 3 + 2, none⟩) heb).trans y2
    have hb1l := hat1.lt
    have hebl : eb < w1.heap.size := Nat.lt_of_lt_of_le heb HB1.out.size
    have hEl := hE1.lt
    obtain ⟨_, _, _, f0, f1, f2⟩ := hE1.three
    have HE1 := Lib.hid hE1
    clear hb1 z3 y0 y1 y2 hG hat1 hE1
    go_wp2_with fail
    have k1 := HE1.out.set 0 (.slice a.m rn a.mc)
    have k2 := k1.set 1 (.slice a.f fn a.fc)
    have k3 := k2.set 2 (.bool pb)
    have hbw := ((HB1.out.setCell (p := ⟨w.heap.size, 0, none⟩) (Nat.le_refl _) (.slice a.m rn a.mc)).setCell (p := ⟨w.heap.size, 1, none⟩) (Nat.le_refl _) (.slice a.f fn a.fc)).setCell (p := ⟨w.heap.size, 2, none⟩) (Nat.le_refl _) (.bool pb)
    exact bodyPost_ret (results_cell_row2 rfl _ _ w.heap.size _ _ _ _ rfl k3 Tryz.underlying81 rfl (by kernel_rfl)) rfl ⟨a.m, a.mc, a.f, a.fc, rfl, HS1.out.below hbw hbw.size, HS2.out.below hbw hbw.size, hbw⟩
  · have hisr : Ud.isr T c = false := by unfold Ud.isr; rw [hrm]; rfl
    have hfl : Ud.fl T c = [] := by unfold Ud.fl; rw [if_neg (by rw [hisr]; simp)]
    have hisp : Ud.isp T S c = false := by unfold Ud.isp; rw [hisr]; rfl
    unfold Ud.RetFind
    rw [hisr, hrm, hfl, hisp]
    rw [hget] at hG
    clear hents hpp hat hget hisr hisp hfl hata hatE hba hlen h hrm
    go_enter Tryz.func39, Tryz.ntmps39
    go_wp2_with fail
    refine hG.mono ?_
    rintro e w1 ⟨rfl, hb1⟩
    have HB1 := Lib.hid (HB.out.trans (hb1.mono HB.out.size))
    have hE1 := HE.out.below hb1
    have hEl := hE1.lt
    obtain ⟨_, _, _, f0, f1, f2⟩ := hE1.three
    have HE1 := Lib.hid hE1
    clear hb1 z3 hG hE1
    go_wp2_with fail
    have k1 := HE1.out.set 0 (.slice none 0 0)
    have k2 := k1.set 1 (.slice none 0 0)
    have k3 := k2.set 2 (.bool false)
    have hbw := ((HB1.out.setCell (p := ⟨w.heap.size, 0, none⟩) (Nat.le_refl _) (.slice none 0 0)).setCell (p := ⟨w.heap.size, 1, none⟩) (Nat.le_refl _) (.slice none 0 0)).setCell (p := ⟨w.heap.size, 2, none⟩) (Nat.le_refl _) (.bool false)
    exact bodyPost_ret (results_cell_row2 rfl _ _ w.heap.size _ _ _ _ rfl k3 Tryz.underlying81 rfl (by kernel_rfl)) rfl ⟨none, 0, none, 0, rfl, Sl.nil _ _ _, Sl.nil _ _ _, hbw⟩

set_option maxRecDepth 100000 in
set_option maxHeartbeats 1000000 in
theorem Ud.class_any (v : Value) (T : List Rw.Row) (S : List Int) (c : Int) (w : World) (ok : Ud.Ok T S) (h : Ud.Is w v T S) :
    Calls Tryz.prog 10 #[v, .int .i32 c] w fun e w' => e = .returned (.int .i64 (Md.cls T c)) ∧ Below w.heap.size w w' := by
  obtain ⟨b, A0, c0, XA, xc, pc, pp, A3, c3, mb, jb, A4, c4, A5, c5, A6, c6, es, rfl, hat, _, _, hpc, hpp, hents, _⟩ := h.is
  have z2 := hat.cell 2 rfl
  have hbl := hat.lt
  have hG := Pg.get_any pc _ c _ hpc
  rw [Ud.get_cls ok] at hG
  have hbd := Ud.cls_bd ok c
  obtain ⟨k, hk⟩ : ∃ k, Md.cls T c = k := ⟨_, rfl⟩
  rw [hk] at hbd hG ⊢
  have hw : IntKind.i64.wrap k = k := by rw [IntKind.wrap_i64]; omega
  clear hents hpp hpc hat h hk ok
  go_enter Tryz.func10, Tryz.ntmps10
  go_wp2_with fail
  refine hG.mono ?_
  rintro e w1 ⟨rfl, hb1⟩
  clear hG z2
  go_wp2_with fail
  go_ret
  exact ⟨rfl, hb1⟩

set_option maxRecDepth 100000 in
set_option maxHeartbeats 1000000 in
theorem Ud.plain_any (v : Value) (T : List Rw.Row) (S : List Int) (c : Int) (w : World) (ok : Ud.Ok T S) (h : Ud.Is w v T S) (h3 : -2147483648 ≤ c) (h4 : c ≤ 2147483647) :
    Calls Tryz.prog 17 #[v, .int .i32 c] w fun e w' => e = .returned (.bool (decide (Md.mp T c = []))) ∧ Below w.heap.size w w' := by
  have hF := Ud.find_any v T S c w ok h
  obtain ⟨q, hq⟩ : ∃ q, decide (Md.mp T c = []) = q := ⟨_, rfl⟩
  obtain ⟨k, hk⟩ : ∃ k, Hg.ofK c = k := ⟨_, rfl⟩
  have hQ : q = (!Ud.isr T c && decide (k < 4)) := by
    rw [← hq, ← hk, Bool.eq_iff_iff, decide_eq_true_iff, ← Ud.plain_mp, Bool.and_eq_true, decide_eq_true_iff]
    unfold Ud.isr
    cases Md.rmp T c <;> simp
  have hK := Ud.kind_le c
  have HO := Lib.hid (fun W => Hg.of_any c W h3 h4)
  rw [hk] at HO hK
  rw [hq, hQ]
  unfold Ud.RetFind at hF
  obtain ⟨z, hz⟩ : ∃ z, Ud.isr T c = z := ⟨_, rfl⟩
  obtain ⟨fn, hfn⟩ : ∃ z, (Ud.fl T c).length = z := ⟨_, rfl⟩
  obtain ⟨rn, hrn⟩ : ∃ z, (Md.rmp T c).length = z := ⟨_, rfl⟩
  obtain ⟨pb, hpb⟩ : ∃ z, Ud.isp T S c = z := ⟨_, rfl⟩
  rw [hz, hfn, hrn, hpb] at hF
  rw [hz]
  clear hz hfn hrn hpb hQ hq hk h ok h3 h4
  have HF := Lib.hid hF
  clear hF
  go_enter Tryz.func17, Tryz.ntmps17
  go_wp2_with fail
  refine HF.out.mono ?_
  rintro e w1 ⟨m, mc, f, fc, rfl, _, _, hb1⟩
  have HB := Lib.hid (hb1.alloc hb1.size (.cells #[.slice m rn mc, .slice f fn fc, .bool pb] 81))
  clear hb1
  cases z
  · by_cases hk4 : k < 4
    · go_wp2_with (go_at_call 42; refine (HO.out _).mono ?_; rintro e w' ⟨rfl, rfl⟩)
      go_ret
      exact ⟨by simp [hk4], HB.out⟩
    · go_wp2_with (go_at_call 42; refine (HO.out _).mono ?_; rintro e w' ⟨rfl, rfl⟩)
      go_ret
      exact ⟨by simp [hk4], HB.out⟩
  · go_wp2_with (fail)
    go_ret
    exact ⟨rfl, HB.out⟩

set_option maxRecDepth 100000 in
set_option maxHeartbeats 1000000 in
theorem Ud.primary_any (v : Value) (T : List Rw.Row) (S : List Int) (c : Int) (w : World) (ok : Ud.Ok T S) (h : Ud.Is w v T S) (h3 : -2147483648 ≤ c) (h4 : c ≤ 2147483647) :
    Calls Tryz.prog 15 #[v, .int .i32 c] w fun e w' => e = .returned (.bool (Md.prim T (C.mem S) c)) ∧ Below w.heap.size w w' := by
  have hF := Ud.find_any v T S c w ok h
  obtain ⟨q, hq⟩ : ∃ q, Md.prim T (C.mem S) c = q := ⟨_, rfl⟩
  obtain ⟨k, hk⟩ : ∃ k, Hg.ofK c = k := ⟨_, rfl⟩
  have hQ : q = (Ud.isp T S c || decide (4 ≤ k)) := by
    rw [← hq, ← hk]
    unfold Ud.isp
    cases hz : Ud.isr T c with
    | true => rw [Bool.true_and, Ud.prim_or]
    | false =>
      have : Md.rmp T c = [] := by
        unfold Ud.isr at hz
        rw [decide_eq_false_iff_not] at hz
        exact List.eq_nil_of_length_eq_zero (by omega)
      rw [Ud.none_prim this]
      rfl
  have hK := Ud.kind_le c
  have HO := Lib.hid (fun W => Hg.of_any c W h3 h4)
  rw [hk] at HO hK
  rw [hq, hQ]
  unfold Ud.RetFind at hF
  obtain ⟨z, hz⟩ : ∃ z, Ud.isr T c = z := ⟨_, rfl⟩
  obtain ⟨fn, hfn⟩ : ∃ z, (Ud.fl T c).length = z := ⟨_, rfl⟩
  obtain ⟨rn, hrn⟩ : ∃ z, (Md.rmp T c).length = z := ⟨_, rfl⟩
  obtain ⟨pb, hpb⟩ : ∃ z, Ud.isp T S c = z := ⟨_, rfl⟩
  rw [hz, hfn, hrn, hpb] at hF
  rw [hpb]
  clear hz hfn hrn hpb hQ hq hk h ok h3 h4
  have HF := Lib.hid hF
  clear hF
  go_enter Tryz.func15, Tryz.ntmps15
  go_wp2_with fail
  refine HF.out.mono ?_
  rintro e w1 ⟨m, mc, f, fc, rfl, _, _, hb1⟩
  have HB := Lib.hid (hb1.alloc hb1.size (.cells #[.slice m rn mc, .slice f fn fc, .bool pb] 81))
  have hn := Rw.At.new w1 81 [.slice m rn mc, .slice f fn fc, .bool pb]
  have y2 := hn.cell 2 rfl
  clear hb1 hn
  cases pb
  · by_cases hk4 : 4 ≤ k
    · go_wp2_with (go_at_call 42; refine (HO.out _).mono ?_; rintro e w' ⟨rfl, rfl⟩)
      go_ret
      exact ⟨by simp [hk4], HB.out⟩
    · go_wp2_with (go_at_call 42; refine (HO.out _).mono ?_; rintro e w' ⟨rfl, rfl⟩)
      go_ret
      exact ⟨by simp [hk4], HB.out⟩
  · go_wp2_with (fail)
    go_ret
    exact ⟨rfl, HB.out⟩
end Go.Proofs.YtkmfegamblmpeaaGreatDoor
