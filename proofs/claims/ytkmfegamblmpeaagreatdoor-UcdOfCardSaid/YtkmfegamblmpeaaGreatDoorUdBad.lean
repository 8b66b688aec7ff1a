/- The layer fault: Line, Notes, by walking their texts. -/
import Derived.Test.YtkmfegamblmpeaaGreatDoorFaChain
import Derived.Test.YtkmfegamblmpeaaGreatDoorUdIs
import Derived.Test.YtkmfegamblmpeaaGreatDoorUdOf
namespace Go.Proofs.YtkmfegamblmpeaaGreatDoor
open Go.RowKit Go.Stop
set_option linter.unusedSimpArgs false
set_option linter.unusedVariables false

def F.notes : List (Int × Int × ByteArray) → List ByteArray
  | [] => []
  | x :: t => if x.2.2 = ⟨#[]⟩ then F.notes t else x.2.2 :: F.notes t
theorem F.notes_app : ∀ a b, F.notes (a ++ b) = F.notes a ++ F.notes b
  | [], b => rfl
  | x :: t, b => by
    show F.notes (x :: (t ++ b)) = F.notes (x :: t) ++ F.notes b
    simp only [F.notes, F.notes_app t b]
    split <;> rfl
theorem F.lk_get {q : List (Nat × Int × Int × ByteArray)} {i b : Nat} {c n : Int} {s : ByteArray} (h : q[i]? = some (b, c, n, s)) : (F.lk q)[i]? = some (c, n, s) := by
  unfold F.lk; rw [List.getElem?_map, h]; rfl
theorem F.lk_len (q : List (Nat × Int × Int × ByteArray)) : (F.lk q).length = q.length := by unfold F.lk; simp
theorem F.ba_nonempty (s : ByteArray) (h : ¬ s = ⟨#[]⟩) : s.toList.isEmpty = false := by
  rw [ByteArray.toList_eq s]
  rcases s with ⟨⟨l⟩⟩
  rcases l with _ | ⟨x, t⟩
  · exact absurd rfl h
  · rfl
/-- A pointer out of the row that chain has made. -/
theorem F.ptr_get {w : World} {B : Nat} {A : Option Addr} {q : List (Nat × Int × Int × ByteArray)} (h : Sl w B A (q.map F.ptr)) {i b : Nat} {c n : Int} {s : ByteArray} (hi : q[i]? = some (b, c, n, s)) :
    ∃ g o, A = some ⟨g, o, none⟩ ∧ g < B ∧ w.cell? ⟨g, o + i, none⟩ = some (.pointer (some ⟨b, 0, none⟩)) := by
  have hlt := (List.getElem?_eq_some_iff.1 hi).1
  obtain ⟨g, o, hA, hg, hc⟩ := h (by rw [List.length_map]; omega)
  refine ⟨g, o, hA, hg, ?_⟩
  rw [hc i (by rw [List.length_map]; exact hlt), List.getElem?_map, hi]
  rfl

def F.RetStrs (l : List ByteArray) (w : World) (e : Ending) (w' : World) : Prop :=
  ∃ A c, e = .returned (.slice A l.length c) ∧ w'.ownsRow w.heap.size 9 1 (.slice A l.length c) l.length (l.map Value.string) ∧ Below w.heap.size w w'

set_option maxRecDepth 100000 in
set_option maxHeartbeats 2000000 in
theorem F.notes_any (B : Nat) (q : List (Nat × Int × Int × ByteArray)) (v : Value) (w : World) (hB : B ≤ w.heap.size) (hq : F.Ch w B q v) (hlen : q.length ≤ 1000000) :
    Calls Tryz.prog 25 #[v] w (F.RetStrs (F.notes (F.lk q)) w) := by
  have HCH := Lib.hid (F.chain_any B q v w hB hq hlen)
  obtain ⟨j0, hj0, hy0, hy1, hy2⟩ := info_parts infoStr
  obtain ⟨N, hN⟩ : ∃ N, q.length = N := ⟨_, rfl⟩
  rw [hN] at hlen
  have HN := Lib.hid hN
  have HQ := Lib.hid hq
  clear hN hq
  go_enter Tryz.func25, Tryz.ntmps25
  go_wp2_with fail
  refine HCH.out.mono ?_
  rintro e w1 ⟨A1, c1, rfl, hown, hb1⟩
  rw [HN.out] at hown ⊢
  have HP := Lib.hid (Sl.of_own hown)
  have HQ1 := Lib.hid (HQ.out.below hb1 hB hB)
  have hs1 := hb1.size
  clear hown
  go_wp2
  go_loopw [9, 3] (fun vi vo wr => ∃ (i : Nat) (acc : List ByteArray) (m : Nat), i ≤ N ∧ vi = .int .i64 i ∧ acc = F.notes ((F.lk q).take i) ∧ acc.length = m ∧ m ≤ i ∧ wr.ownsRow w1.heap.size 9 1 vo m (acc.map Value.string) ∧ Below w1.heap.size w1 wr) (fun vi _ _ => N - (intOf vi).toNat)
  case atStart => exact ⟨0, [], 0, by omega, rfl, rfl, rfl, Nat.le_refl _, World.ownsRow_nil _ _ _ _, Below.refl _ _⟩
  case round =>
    obtain ⟨i, acc, m, hi, rfl, hacc, hm, hmi, hown, hbr⟩ := hrel
    obtain ⟨w2, rfl⟩ : ∃ w2 : World, w2 = wr := ⟨_, rfl⟩
    obtain ⟨A2, c2, rfl⟩ := own_form hown
    have hs2 := hbr.size
    have HACC := Lib.hid hacc
    have HM := Lib.hid hm
    clear hacc hm
    by_cases hlt : (i : Int) < N
    · obtain ⟨⟨b, c, n, s⟩, hx⟩ : ∃ x, q[i]? = some x := ⟨_, List.getElem?_eq_getElem (by rw [HN.out]; omega)⟩
      have htk : F.notes ((F.lk q).take (i + 1)) = acc ++ F.notes [(c, n, s)] := by rw [List.take_add_one, F.lk_get hx, F.notes_app, ← HACC.out]; rfl
      obtain ⟨g, o, rfl, hg, hc⟩ := F.ptr_get HP.out hx
      obtain ⟨hb, e, hbl⟩ := F.Ch.get HQ1.out hx
      rw [← (bcell hbr).1 _ _ hg] at hc
      have hbl2 := (hbr.block b (by omega)).trans hbl
      obtain ⟨d2, _⟩ := blk_cell hbl2 2
      simp only [List.getElem?_toArray, List.getElem?_cons_zero, List.getElem?_cons_succ] at d2
      have n0 : (0 : Int) ≤ (i : Int) := by omega
      by_cases hs : s = ⟨#[]⟩
      · have htk2 : F.notes ((F.lk q).take (i + 1)) = acc := by rw [htk]; simp [F.notes, hs]
        have HT := Lib.hid htk2
        subst hs
        clear htk htk2 hx hbl hbl2
        go_wp2
        exact ⟨⟨i + 1, acc, m, by omega, by go_num, HT.out.symm, HM.out, by omega, hown, hbr⟩, by simp [intOf]; omega⟩
      · have htk2 : F.notes ((F.lk q).take (i + 1)) = acc ++ [s] := by rw [htk]; simp [F.notes, hs]
        have HT := Lib.hid htk2
        have hse := F.ba_nonempty s hs
        clear htk htk2 hx hbl hbl2
        have hZ := Lib.hid (Sl.lit (w := w2.alloc (.cells #[.string s] 9)) (A := some ⟨w2.heap.size, 0, none⟩) (xs := [.string s]) rfl 9 (0, 0) (heap_alloc_new w2 _))
        have hba : Below w2.heap.size w2 (w2.alloc (.cells #[.string s] 9)) := (Below.refl _ _).alloc (Nat.le_refl _) _
        have hown2 := Lib.hid (own_below hown hba (Nat.le_refl _))
        have hs3 : w1.heap.size ≤ (w2.alloc (.cells #[.string s] 9)).heap.size := by simp; omega
        have HBA : Hid (Below w1.heap.size w1 (w2.alloc (.cells #[.string s] 9))) := Lib.hid (hbr.trans (hba.mono hs2))
        clear hown hba hbr
        go_wp2_with (at_builtin; refine wpList_appendSl _ rfl _ _ _ rfl w1.heap.size 9 j0 _ 1 16 Tryz.underlying53 hj0 hy0 hy1 hy2 rfl (by omega) _ m _ rfl hown2.out _ (some ⟨w2.heap.size, 0, none⟩) 1 1 [.string s] rfl rfl hZ.out (by simp [Value.oneCell']) (by simp only [maxLen]; omega) (by omega) hs3 ?_; intro v1 w5 hown3 hb2 _; have hbz := HBA.out.trans hb2; have HO3 := Lib.hid hown3; clear hown3)
        exact ⟨⟨i + 1, acc ++ [s], m + 1, by omega, by go_num, HT.out.symm, by rw [List.length_append, HM.out]; rfl, by omega, by rw [List.map_append]; exact HO3.out, hbz⟩, by simp [intOf]; omega⟩
    · obtain rfl : i = N := by omega
      have hf : acc = F.notes (F.lk q) := by rw [HACC.out, List.take_of_length_le (by rw [F.lk_len, HN.out]; exact Nat.le_refl _)]
      have HF := Lib.hid hf
      clear hf
      go_wp2
      go_ret
      refine ⟨A2, c2, by rw [← HF.out, HM.out]; rfl, ?_, hb1.trans (hbr.mono hs1)⟩
      rw [← HF.out, HM.out]
      exact own_base hown hs1
end Go.Proofs.YtkmfegamblmpeaaGreatDoor

/- Loaded tables in plain words: what the pages and sets tell. -/
namespace Go.Proofs.YtkmfegamblmpeaaGreatDoor
set_option linter.unusedSimpArgs false
set_option linter.unusedVariables false
theorem Ud.good_bd {r : Rw.Row} (h : Md.good r) : 0 ≤ r.1 ∧ r.1 ≤ 1114111 := by
  have := h.1
  unfold C.isC at this
  simp only [decide_eq_true_eq] at this
  exact ⟨this.1, this.2.1⟩
theorem Ud.Ok.bd {T : List Rw.Row} {S : List Int} (h : Ud.Ok T S) : Md.bd T := by
  intro r hr
  have hg := h.good r hr
  have h1 := Ud.good_bd hg
  refine ⟨by omega, fun c hc => ?_⟩
  have := (hg.2.2.2.2.2 c hc).1
  unfold C.isC at this
  simp only [decide_eq_true_eq] at this
  omega
/-- The class that the pages tell. -/
theorem Ud.get_cls {T : List Rw.Row} {S : List Int} (h : Ud.Ok T S) (c : Int) : Pg.get (Pg.last (Ud.cl T)) c = Md.cls T c := by
  unfold Pg.get
  rw [Ud.cls_last h.rises (fun r hr => (h.good r hr).2.1)]
  split
  · rfl
  · rename_i hc
    unfold Md.cls
    cases hf : Md.find T c with
    | none => rfl
    | some r =>
      obtain ⟨h1, h2⟩ := Md.find_some hf
      have := Ud.good_bd (h.good r h1)
      omega
theorem Ud.cls_bd {T : List Rw.Row} {S : List Int} (h : Ud.Ok T S) (c : Int) : 0 ≤ Md.cls T c ∧ Md.cls T c ≤ 254 := by
  unfold Md.cls
  cases hf : Md.find T c with
  | none => simp
  | some r =>
    have := h.good r (Md.find_some hf).1
    exact ⟨this.2.1, this.2.2.1⟩
/-- The place that the pages tell. -/
theorem Ud.get_pl {T : List Rw.Row} {S : List Int} (h : Ud.Ok T S) (c : Int) : (∃ (i : Nat) (r : Rw.Row), (Ud.mr T)[i]? = some r ∧ r.1 = c ∧ Md.find T c = some r ∧ 0 < r.2.2.length ∧ Pg.get (Pg.last (Ud.pl T)) c = (i : Int) + 1) ∨ (Pg.get (Pg.last (Ud.pl T)) c = 0 ∧ Md.rmp T c = []) := by
  rcases Ud.mr_find h.rises c with ⟨i, r, h1, h2, h3, h4⟩ | ⟨h1, h2⟩
  · refine .inl ⟨i, r, h1, h2, h3, h4, ?_⟩
    have hb := Ud.good_bd (h.good r (Md.find_some h3).1)
    unfold Pg.get
    rw [if_pos (by omega), ← h2, Ud.place_at h.rises h1]
  · refine .inr ⟨?_, h2⟩
    unfold Pg.get
    rw [Ud.place_no h1]
    simp
/-- A character that is plain has no mapping. -/
theorem Ud.plain_mp {T : List Rw.Row} (c : Int) : (Md.rmp T c = [] ∧ Hg.ofK c < 4) ↔ Md.mp T c = [] := by
  have hk := Ud.kind_le c
  unfold Md.mp
  rw [Ud.pair_kind]
  by_cases h4 : 4 ≤ Hg.ofK c
  · rw [decide_eq_true h4, if_pos rfl]
    simp
    omega
  · rw [decide_eq_false h4, if_neg (by simp)]
    constructor
    · exact fun h => h.1
    · exact fun h => ⟨h, by omega⟩
end Go.Proofs.YtkmfegamblmpeaaGreatDoor

/- What ucd.Of tells of a table that may not be; what an error wraps; the rows that were kept. -/
namespace Go.Proofs.YtkmfegamblmpeaaGreatDoor
open Go.RowKit
set_option linter.unusedSimpArgs false
set_option linter.unusedVariables false
set_option maxRecDepth 100000 in
set_option maxHeartbeats 1000000 in
theorem Ud.bad_any (x : Nat × Int × Int × ByteArray) (q : List (Nat × Int × Int × ByteArray)) (v : Value) (s : ByteArray) (w : World) (hq : F.Ch w w.heap.size (x :: q) v) :
    Calls Tryz.prog 52 #[v, .string s] w fun e w' => ∃ b v', e = .returned v' ∧ F.Ch w' w'.heap.size ((b, 8, 0, s) :: x :: q) v' ∧ Below w.heap.size w w' := by
  obtain ⟨b, c, n, s'⟩ := x
  have hq' := hq
  obtain ⟨rfl, hb, e, hbl, hch⟩ := hq
  clear hbl hch
  go_enter Tryz.func52, Tryz.ntmps52
  go_wp2
  go_ret
  have hal : Below w.heap.size w (w.alloc (.cells #[.int .i64 8, .int .i64 0, .string s, .iface 112 (.pointer (some ⟨b, 0, none⟩))] 114)) := (Below.refl _ _).alloc (Nat.le_refl _) _
  exact ⟨w.heap.size, _, rfl, ⟨rfl, by simp, _, heap_alloc_new w _, hq'.below hal (Nat.le_refl _) (by simp)⟩, hal⟩
/-- What Of tells of a table that may not be. -/
def Ud.RetBad (k : Nat) (w : World) (e : Ending) (w' : World) : Prop :=
  ∃ b x q v, e = .returned (.tuple #[.pointer none, v]) ∧ F.Ch w' w'.heap.size ((b, 8, 0, ⟨#[116, 97, 98, 108, 101]⟩) :: x :: q) v ∧ F.lk (x :: q) = [(8, 0, Md.note k)] ∧ Below w.heap.size w w'
set_option maxRecDepth 100000 in
set_option maxHeartbeats 2000000 in
theorem Ud.of_bad (v : Value) (T : List Rw.Row) (S : List Int) (w : World) (hIs : Md.Is w v T S) (hTn : T.length ≤ 1000000) (hbd : Md.bd T) (hml : ∀ r ∈ T, r.2.2.length ≤ 1000000) (hS : C.srt S) (hSn : S.length ≤ 1000000) (k : Nat) (hk : Md.chk T (C.mem S) = k) (hk0 : k ≠ 0) :
    Calls Tryz.prog 22 #[v] w (Ud.RetBad k w) := by
  have hCHK : ∀ v W, Md.Is W v T S → Calls Tryz.prog 51 #[v] W (F.RetCh [(8, 0, Md.note k)] W) := fun v W h => by
    have := Md.check_any v T S W hTn hbd hml h hS hSn
    rw [hk] at this
    unfold Md.err at this
    rw [if_neg hk0] at this
    exact this
  have hIs' := hIs
  obtain ⟨A, c, XA, xc, rfl, hsee, hX⟩ := hIs'
  obtain ⟨n, hn⟩ : ∃ k, T.length = k := ⟨_, rfl⟩
  obtain ⟨xn, hxn⟩ : ∃ k, S.length = k := ⟨_, rfl⟩
  rw [hn, hxn] at hIs ⊢
  unfold Md.tv at hIs ⊢
  obtain ⟨wa, hwa⟩ : ∃ wa, w.alloc (.cells #[.slice A n c, .slice XA xn xc] 50) = wa := ⟨_, rfl⟩
  have hba : Below w.heap.size w wa := by rw [← hwa]; exact (Below.refl _ _).alloc (Nat.le_refl _) _
  have hat : Rw.At wa w.heap.size 50 [.slice A n c, .slice XA xn xc] := by rw [← hwa]; exact Rw.At.new w 50 [.slice A n c, .slice XA xn xc]
  have HWA := Lib.hid hwa
  have HBA := Lib.hid hba
  have hC := hCHK _ wa (hIs.below hba)
  have hlta := hat.lt
  have z0 := hat.cell 0 rfl
  have z1 := hat.cell 1 rfl
  clear hwa hba hat hIs hsee hX hCHK hn hxn hbd hml hS hSn hk hk0 hTn
  go_enter Tryz.func22, Tryz.ntmps22
  go_upto_region 1 with (fail)
  rw [HWA.out]
  go_wp2_with fail
  refine hC.mono ?_
  rintro e w1 ⟨q, v1, rfl, hlk, hch, hb1⟩
  cases q with
  | nil => simp [F.lk] at hlk
  | cons x q =>
    have HB1 := Lib.hid (HBA.out.trans (hb1.mono HBA.out.size))
    have HLK := Lib.hid hlk
    have hBD := fun s => Ud.bad_any x q v1 s w1 hch
    obtain ⟨xb, x1, x2, x3⟩ := x
    obtain ⟨rfl, _⟩ := id hch
    clear hch hlk hb1 hC z0 z1
    go_wp2_with fail
    refine (hBD _).mono ?_
    rintro e w2 ⟨b, v', rfl, hch2, hb2⟩
    have HCH := Lib.hid hch2
    have HB2 := Lib.hid (HB1.out.trans (hb2.mono HB1.out.size))
    clear hch2 hb2 hBD
    go_wp2_with fail
    go_ret2
    exact ⟨b, (xb, x1, x2, x3), q, v', rfl, HCH.out, HLK.out, HB2.out⟩
set_option maxRecDepth 100000 in
set_option maxHeartbeats 1000000 in
theorem Ud.innerE_any (b : Nat) (c n : Int) (s : ByteArray) (q : List (Nat × Int × Int × ByteArray)) (v : Value) (w : World) (hL : F.LaidE w) (hq : F.Ch w w.heap.size ((b, c, n, s) :: q) v) (hc : 0 ≤ F.code (F.lk q) ∧ F.code (F.lk q) ≤ 1000) :
    Calls Tryz.prog 27 #[v] w fun e w' => e = .returned (.int .i64 (F.code (F.lk q))) ∧ Below w.heap.size w w' := by
  obtain ⟨rfl, hb, e, hbl, hch⟩ := hq
  have hI := F.isFault
  have hCO := F.codeE_any w.heap.size q e w hL (Nat.le_refl _) hch
  obtain ⟨k, hk⟩ : ∃ k, F.code (F.lk q) = k := ⟨_, rfl⟩
  rw [hk] at hCO hc ⊢
  have hw : IntKind.i64.wrap k = k := by rw [IntKind.wrap_i64]; omega
  obtain ⟨d3, _⟩ := blk_cell hbl 3
  simp only [List.getElem?_toArray, List.getElem?_cons_zero, List.getElem?_cons_succ] at d3
  have hU : Calls Tryz.prog 63 #[.pointer (some ⟨b, 0, none⟩)] w fun r w' => r = .returned e ∧ w = w' := by
    go_enter Tryz.func63, Tryz.ntmps63
    go_wp2
    go_ret
    exact ⟨rfl, rfl⟩
  have HU := Lib.hid hU
  clear hU hk hbl hch d3
  go_enter Tryz.func27, Tryz.ntmps27
  go_wp2_with fail
  refine HU.out.mono ?_
  rintro r w1 ⟨rfl, rfl⟩
  go_wp2_with fail
  refine hCO.mono ?_
  rintro r w2 ⟨rfl, hb2⟩
  clear hCO
  go_wp2_with fail
  go_ret
  exact ⟨rfl, hb2⟩
end Go.Proofs.YtkmfegamblmpeaaGreatDoor
