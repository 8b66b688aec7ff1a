/- ucd.Load of two texts that are a table, by walking its text. -/
import Derived.Test.YtkmfegamblmpeaaGreatDoorUdOf
import Derived.Test.YtkmfegamblmpeaaGreatDoorExWalk
import Derived.Test.YtkmfegamblmpeaaGreatDoorUdBad
import Derived.Test.YtkmfegamblmpeaaGreatDoorHangul
import Derived.Test.YtkmfegamblmpeaaGreatDoorClone
import Derived.Test.YtkmfegamblmpeaaGreatDoorCpIsPlain
import Derived.Test.YtkmfegamblmpeaaGreatDoorCpUtf
import Derived.Test.YtkmfegamblmpeaaGreatDoorUdMap
namespace Go.Proofs.YtkmfegamblmpeaaGreatDoor
open Go.RowKit
set_option linter.unusedSimpArgs false
set_option linter.unusedVariables false
theorem Rw.Laid.max {w : World} (h : Rw.Laid w) : Fi.LaidM w := h.1.1
set_option maxRecDepth 100000 in
set_option maxHeartbeats 2000000 in
theorem Ud.load_any (u x : ByteArray) (hu : u.size ≤ 1000000) (hxs : x.size ≤ 300000) (T : List Rw.Row) (cs : List Int) (hp : Rw.parse u.data.toList = some T) (hx : Ex.parse x.data.toList = some cs) (ok : Ud.Ok T (C.chars cs)) (hbd : Md.bd T) (w : World) (hL : Rw.Laid w) :
    Calls Tryz.prog 29 #[.string u, .string x] w (Ud.RetOf T (C.chars cs) w) := by
  have hP := Rw.parse_any u hu T hp w hL
  have HX := Lib.hid (fun W (hW : Below w.heap.size w W) => Ex.parse_any x hxs cs hx W (hL.next hW).max)
  have HO := Lib.hid (fun v W h => Ud.of_any v T (C.chars cs) W h ok hbd)
  unfold Ex.RetParse at HX
  obtain ⟨S, hS⟩ : ∃ S, C.chars cs = S := ⟨_, rfl⟩
  rw [hS] at HX HO ⊢
  clear hp hx ok hbd hS hu hxs hL
  go_enter Tryz.func29, Tryz.ntmps29
  go_wp2_with fail
  refine hP.mono ?_
  rintro e w1 ⟨A, c, rfl, htab, hb1⟩
  have hX1 := HX.out w1 hb1
  have HT := Lib.hid htab.sees
  have HB1 := Lib.hid hb1
  clear hP HX htab hb1
  go_wp2_with fail
  refine hX1.mono ?_
  rintro e w2 ⟨A2, c2, rfl, hsl, hb2⟩
  have hbn : Below w2.heap.size w2 (w2.alloc (.cells #[.slice A2 S.length c2] 41)) := (Below.refl _ _).alloc (Nat.le_refl _) _
  have hn := Rw.At.new w2 41 [.slice A2 S.length c2]
  have z0 := hn.cell 0 rfl
  have hIs : Md.Is (w2.alloc (.cells #[.slice A2 S.length c2] 41)) (Md.tv A T.length c A2 S.length c2) T S := ⟨A, c, A2, c2, rfl, (HT.out.below hb2).below hbn, hsl.sl.below hbn hbn.size⟩
  have hOF := HO.out _ _ hIs
  have HB3 := Lib.hid ((HB1.out.trans (hb2.mono HB1.out.size)).trans (hbn.mono (Nat.le_trans HB1.out.size hb2.size)))
  unfold Md.tv at hOF
  clear hX1 hsl hb2 hbn hn hIs HO
  go_wp2_with fail
  refine hOF.mono ?_
  rintro e w3 ⟨p, rfl, his, hb3⟩
  have HI := Lib.hid his
  have HB4 := Lib.hid (HB3.out.trans (hb3.mono HB3.out.size))
  clear hOF his hb3
  go_wp2_with fail
  go_ret2
  exact ⟨p, rfl, HI.out, HB4.out⟩
end Go.Proofs.YtkmfegamblmpeaaGreatDoor

/- The lookups of a loaded table, by walking their texts. -/
namespace Go.Proofs.YtkmfegamblmpeaaGreatDoor
open Go.RowKit
set_option linter.unusedSimpArgs false
set_option linter.unusedVariables false
def Ud.isr (T : List Rw.Row) (c : Int) : Bool := decide (0 < (Md.rmp T c).length)
def Ud.fl (T : List Rw.Row) (c : Int) : List Int := if Ud.isr T c = true then Ud.full T c else []
def Ud.isp (T : List Rw.Row) (S : List Int) (c : Int) : Bool := Ud.isr T c && Md.prim T (C.mem S) c
def Ud.RetFind (T : List Rw.Row) (S : List Int) (c : Int) (w : World) (e : Ending) (w' : World) : Prop :=
  ∃ m mc f fc, e = .returned (.tuple #[.agg #[.slice m (Md.rmp T c).length mc, .slice f (Ud.fl T c).length fc, .bool (Ud.isp T S c)], .bool (Ud.isr T c)]) ∧ Sl w' w'.heap.size m (Ud.ints (Md.rmp T c)) ∧ Sl w' w'.heap.size f (Ud.ints (Ud.fl T c)) ∧ Below w.heap.size w w'

set_option maxRecDepth 100000 in
set_option maxHeartbeats 2000000 in
theorem Ud.find_any (v : Value) (T : List Rw.Row) (S : List Int) (c : Int) (w : World) (ok : Ud.Ok T S) (h : Ud.Is w v T S) :
    Calls Tryz.prog 39 #[v, .int .i32 c] w (Ud.RetFind T S c w) := by
  obtain ⟨b, A0, c0, XA, xc, pc, pp, A3, c3, mb, jb, A4, c4, A5, c5, A6, c6, es, rfl, hat, _, _, _, hpp, hents, _⟩ := h.is
  have hlen := ok.len
  have hba : Below w.heap.size w (w.alloc (.cells #[.slice none 0 0, .slice none 0 0, .bool false] 81)) := (Below.refl _ _).alloc (Nat.le_refl _) _
  have hata := hat.below hba
  have hatE := Rw.At.new w 81 [.slice none 0 0, .slice none 0 0, .bool false]
  have z3 := hata.cell 3 rfl
  have hbl := hata.lt
  have hG := Pg.get_any pp _ c _ (hpp.below hba)
  have HAT := Lib.hid hata
  have HE := Lib.hid hatE
  have HB := Lib.hid hba
  rcases Ud.get_pl ok c with ⟨i, r, hi, hrc, hfind, hpos, hget⟩ | ⟨hget, hrm⟩
  · have hisr : Ud.isr T c = true := by
      unfold Ud.isr Md.rmp
      rw [hfind]
      exact decide_eq_true hpos
    have hrmp : Md.rmp T c = r.2.2 := by unfold Md.rmp; rw [hfind]; rfl
    have hfl : Ud.fl T c = Ud.full T r.1 := by unfold Ud.fl; rw [if_pos hisr, hrc]
    have hisp : Ud.isp T S c = Md.prim T (C.mem S) r.1 := by unfold Ud.isp; rw [hisr, hrc]; rfl
    unfold Ud.RetFind
    rw [hisr, hrmp, hfl, hisp]
    have him := (List.getElem?_eq_some_iff.1 hi).1
    have hle : (Ud.mr T).length ≤ T.length := List.length_filter_le _ _
    obtain ⟨a, ha⟩ : ∃ a, es[i]? = some a := ⟨_, List.getElem?_eq_getElem (by rw [hents.1]; exact him)⟩
    obtain ⟨hs1, hs2⟩ := hents.2.2 i r a hi ha
    obtain ⟨g1, g2, g3⟩ := Ud.flE_get T (C.mem S) (Ud.mr T) es i r a hi ha
    have hfl3 := Ud.flE_len T (C.mem S) (Ud.mr T) es hents.1
    obtain ⟨eb, eo, rfl, heb, hec⟩ := hents.2.1 (by rw [hfl3]; omega)
    have y0 := hec (i * 3) (by rw [hfl3]; omega)
    have y1 := hec (i * 3 + 1) (by rw [hfl3]; omega)
    have y2 := hec (i * 3 + 2) (by rw [hfl3]; omega)
    rw [g1] at y0
    rw [g2] at y1
    rw [g3] at y2
    rw [hget] at hG
    rw [← Nat.add_assoc] at y1 y2
    obtain ⟨mn, hmn⟩ : ∃ n, (Ud.mr T).length = n := ⟨_, rfl⟩
    rw [hmn] at him hle hata
    have HMN := Lib.hid hmn
    obtain ⟨fn, hfn⟩ : ∃ n, (Ud.full T r.1).length = n := ⟨_, rfl⟩
    obtain ⟨rn, hrn⟩ : ∃ n, r.2.2.length = n := ⟨_, rfl⟩
    obtain ⟨pb, hpb⟩ : ∃ n, Md.prim T (C.mem S) r.1 = n := ⟨_, rfl⟩
    rw [hfn, hrn, hpb]
    rw [hfn] at y1
    rw [hrn] at y0
    rw [hpb] at y2
    have hiI : (i : Int) < mn := by omega
    have hi0 : (0 : Int) ≤ i := by omega
    have hiw : IntKind.u16.wrap ((i : Int) + 1 - 1) = i := by
      show ((i : Int) + 1 - 1) % 65536 = i
      omega
    have hiw2 : IntKind.u16.wrap (i : Int) = i := by
      show (i : Int) % 65536 = i
      omega
    have hne : ((i : Int) + 1 == 0) = false := by simp; omega
    have hne2 : decide ((i : Int) + 1 = 0) = false := by simp; omega
    have HS1 := Lib.hid hs1
    have HS2 := Lib.hid hs2
    clear hs1 hs2 g1 g2 g3 hec hents hpp hat hfind hget hisr hisp hrmp hfl hi ha hfl3 hata hatE hba hmn hfn hrn hpb hle hlen h hpos hrc
    go_enter Tryz.func39, Tryz.ntmps39
    go_wp2_with fail
    refine hG.mono ?_
    rintro e w1 ⟨rfl, hb1⟩
    have HB1 := Lib.hid (HB.out.trans (hb1.mono HB.out.size))
    have hat1 := HAT.out.below hb1
    have hE1 := HE.out.below hb1
    have q4 := hat1.cell 4 rfl
    rw [HMN.out] at q4
    have q0 := (HB1.out.cell (p := ⟨eb, eo + i * 3, none⟩) heb).trans y0
    have q1 := (HB1.out.cell (p := ⟨eb, eo + i * 3 + 1, none⟩) heb).trans y1
    have q2 := (HB1.out.cell (p := ⟨eb, eo + i * 3 + 2, none⟩) heb).trans y2
    have hb1l := hat1.lt
    have hebl : eb < w1.heap.size := Nat.lt_of_lt_of_le heb HB1.out.size
    have hEl := hE1.lt
    obtain ⟨_, _, _, f0, f1, f2⟩ := hE1.three
    have HE1 := Lib.hid hE1
    clear hb1 z3 y0 y1 y2 hG hat1 hE1
    go_wp2_with fail
    have k1 := HE1.out.set 0 (.slice a.m rn a.mc)
    have k2 := k1.set 1 (.slice a.f fn a.fc)
    have k3 := k2.set 2 (.bool pb)
    have hbw := ((HB1.out.setCell (p := ⟨w.heap.size, 0, none⟩) (Nat.le_refl _) (.slice a.m rn a.mc)).setCell (p := ⟨w.heap.size, 1, none⟩) (Nat.le_refl _) (.slice a.f fn a.fc)).setCell (p := ⟨w.heap.size, 2, none⟩) (Nat.le_refl _) (.bool pb)
    exact bodyPost_ret (results_cell_row2 rfl _ _ w.heap.size _ _ _ _ rfl k3 Tryz.underlying81 rfl (by kernel_rfl)) rfl ⟨a.m, a.mc, a.f, a.fc, rfl, HS1.out.below hbw hbw.size, HS2.out.below hbw hbw.size, hbw⟩
  · have hisr : Ud.isr T c = false := by unfold Ud.isr; rw [hrm]; rfl
    have hfl : Ud.fl T c = [] := by unfold Ud.fl; rw [if_neg (by rw [hisr]; simp)]
    have hisp : Ud.isp T S c = false := by unfold Ud.isp; rw [hisr]; rfl
    unfold Ud.RetFind
    rw [hisr, hrm, hfl, hisp]
    rw [hget] at hG
    clear hents hpp hat hget hisr hisp hfl hata hatE hba hlen h hrm
    go_enter Tryz.func39, Tryz.ntmps39
    go_wp2_with fail
    refine hG.mono ?_
    rintro e w1 ⟨rfl, hb1⟩
    have HB1 := Lib.hid (HB.out.trans (hb1.mono HB.out.size))
    have hE1 := HE.out.below hb1
    have hEl := hE1.lt
    obtain ⟨_, _, _, f0, f1, f2⟩ := hE1.three
    have HE1 := Lib.hid hE1
    clear hb1 z3 hG hE1
    go_wp2_with fail
    have k1 := HE1.out.set 0 (.slice none 0 0)
    have k2 := k1.set 1 (.slice none 0 0)
    have k3 := k2.set 2 (.bool false)
    have hbw := ((HB1.out.setCell (p := ⟨w.heap.size, 0, none⟩) (Nat.le_refl _) (.slice none 0 0)).setCell (p := ⟨w.heap.size, 1, none⟩) (Nat.le_refl _) (.slice none 0 0)).setCell (p := ⟨w.heap.size, 2, none⟩) (Nat.le_refl _) (.bool false)
    exact bodyPost_ret (results_cell_row2 rfl _ _ w.heap.size _ _ _ _ rfl k3 Tryz.underlying81 rfl (by kernel_rfl)) rfl ⟨none, 0, none, 0, rfl, Sl.nil _ _ _, Sl.nil _ _ _, hbw⟩

set_option maxRecDepth 100000 in
set_option maxHeartbeats 1000000 in
theorem Ud.class_any (v : Value) (T : List Rw.Row) (S : List Int) (c : Int) (w : World) (ok : Ud.Ok T S) (h : Ud.Is w v T S) :
    Calls Tryz.prog 10 #[v, .int .i32 c] w fun e w' => e = .returned (.int .i64 (Md.cls T c)) ∧ Below w.heap.size w w' := by
  obtain ⟨b, A0, c0, XA, xc, pc, pp, A3, c3, mb, jb, A4, c4, A5, c5, A6, c6, es, rfl, hat, _, _, hpc, hpp, hents, _⟩ := h.is
  have z2 := hat.cell 2 rfl
  have hbl := hat.lt
  have hG := Pg.get_any pc _ c _ hpc
  rw [Ud.get_cls ok] at hG
  have hbd := Ud.cls_bd ok c
  obtain ⟨k, hk⟩ : ∃ k, Md.cls T c = k := ⟨_, rfl⟩
  rw [hk] at hbd hG ⊢
  have hw : IntKind.i64.wrap k = k := by rw [IntKind.wrap_i64]; omega
  clear hents hpp hpc hat h hk ok
  go_enter Tryz.func10, Tryz.ntmps10
  go_wp2_with fail
  refine hG.mono ?_
  rintro e w1 ⟨rfl, hb1⟩
  clear hG z2
  go_wp2_with fail
  go_ret
  exact ⟨rfl, hb1⟩

set_option maxRecDepth 100000 in
set_option maxHeartbeats 1000000 in
theorem Ud.plain_any (v : Value) (T : List Rw.Row) (S : List Int) (c : Int) (w : World) (ok : Ud.Ok T S) (h : Ud.Is w v T S) (h3 : -2147483648 ≤ c) (h4 : c ≤ 2147483647) :
    Calls Tryz.prog 17 #[v, .int .i32 c] w fun e w' => e = .returned (.bool (decide (Md.mp T c = []))) ∧ Below w.heap.size w w' := by
  have hF := Ud.find_any v T S c w ok h
  obtain ⟨q, hq⟩ : ∃ q, decide (Md.mp T c = []) = q := ⟨_, rfl⟩
  obtain ⟨k, hk⟩ : ∃ k, Hg.ofK c = k := ⟨_, rfl⟩
  have hQ : q = (!Ud.isr T c && decide (k < 4)) := by
    rw [← hq, ← hk, Bool.eq_iff_iff, decide_eq_true_iff, ← Ud.plain_mp, Bool.and_eq_true, decide_eq_true_iff]
    unfold Ud.isr
    cases Md.rmp T c <;> simp
  have hK := Ud.kind_le c
  have HO := Lib.hid (fun W => Hg.of_any c W h3 h4)
  rw [hk] at HO hK
  rw [hq, hQ]
  unfold Ud.RetFind at hF
  obtain ⟨z, hz⟩ : ∃ z, Ud.isr T c = z := ⟨_, rfl⟩
  obtain ⟨fn, hfn⟩ : ∃ z, (Ud.fl T c).length = z := ⟨_, rfl⟩
  obtain ⟨rn, hrn⟩ : ∃ z, (Md.rmp T c).length = z := ⟨_, rfl⟩
  obtain ⟨pb, hpb⟩ : ∃ z, Ud.isp T S c = z := ⟨_, rfl⟩
  rw [hz, hfn, hrn, hpb] at hF
  rw [hz]
  clear hz hfn hrn hpb hQ hq hk h ok h3 h4
  have HF := Lib.hid hF
  clear hF
  go_enter Tryz.func17, Tryz.ntmps17
  go_wp2_with fail
  refine HF.out.mono ?_
  rintro e w1 ⟨m, mc, f, fc, rfl, _, _, hb1⟩
  have HB := Lib.hid (hb1.alloc hb1.size (.cells #[.slice m rn mc, .slice f fn fc, .bool pb] 81))
  clear hb1
  cases z
  · by_cases hk4 : k < 4
    · go_wp2_with (go_at_call 42; refine (HO.out _).mono ?_; rintro e w' ⟨rfl, rfl⟩)
      go_ret
      exact ⟨by simp [hk4], HB.out⟩
    · go_wp2_with (go_at_call 42; refine (HO.out _).mono ?_; rintro e w' ⟨rfl, rfl⟩)
      go_ret
      exact ⟨by simp [hk4], HB.out⟩
  · go_wp2_with (fail)
    go_ret
    exact ⟨rfl, HB.out⟩

end Go.Proofs.YtkmfegamblmpeaaGreatDoor
