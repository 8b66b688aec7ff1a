/- Where a box of two slices is stored to, what is read elsewhere stays. -/
import Derived.Test.YtkmfegamblmpeaaGreatDoorMdRef5
import Derived.Test.YtkmfegamblmpeaaGreatDoorMdTable
import Derived.Test.YtkmfegamblmpeaaGreatDoorCpChPlain3
import Derived.Test.YtkmfegamblmpeaaGreatDoorUdLook
import Derived.Test.YtkmfegamblmpeaaGreatDoorRwOpen
import Derived.Test.YtkmfegamblmpeaaGreatDoorMdRight
import Derived.BigRegion
namespace Go.Proofs.YtkmfegamblmpeaaGreatDoor
open Go.RowKit
set_option linter.unusedSimpArgs false
set_option linter.unusedVariables false

theorem Md.mem_chars {E : List Int} (h : ∀ c ∈ E, C.isC c = true) : C.mem (C.chars E) = Md.xs E := by
  funext d
  rw [(C.chars_spec _).2 d]
  unfold Md.xs
  by_cases hd : d ∈ E
  · rw [h d hd, Bool.and_true]
  · rw [decide_eq_false hd, Bool.false_and]
theorem Sl.setAt {w : World} {B : Nat} {A : Option Addr} {xs cs : List Value} {b : Nat} {t : TypeId} (h : Sl w B A xs) (hat : Rw.At w b t cs) (hd : ∀ x, xs[0]? = some x → x ∉ cs) (i : Nat) (v : Value) : Sl (w.setCell ⟨b, i, none⟩ v) B A xs := by
  intro hx
  obtain ⟨g, o, hA, hg, hc⟩ := h hx
  have hne : g ≠ b := fun e => by
    subst e
    have h0 := hc 0 hx
    rw [List.getElem?_eq_getElem hx] at h0
    refine hd _ (List.getElem?_eq_getElem hx) ?_
    unfold Rw.At at hat
    simp [World.cell?, hat] at h0
    exact List.mem_of_getElem? h0
  refine ⟨g, o, hA, hg, fun j hj => ?_⟩
  rw [← hc j hj]
  have he := Below.heap_setCell w ⟨b, i, none⟩ v g hne
  unfold World.cell?
  simp only [he]
theorem Md.Doc.setAt {w : World} {v : Value} {T : List Rw.Row} {E : List Int} (h : Md.Doc w v T E) {b : Nat} {A0 A1 : Option Addr} {n0 c0 n1 c1 : Nat} {t : TypeId} (hat : Rw.At w b t [.slice A0 n0 c0, .slice A1 n1 c1]) (i : Nat) (u : Value) : Md.Doc (w.setCell ⟨b, i, none⟩ u) v T E := by
  have hi : ∀ (l : List Int) x, (l.map (Value.int .i64))[0]? = some x → x ∉ [Value.slice A0 n0 c0, Value.slice A1 n1 c1] := by
    intro l x hx hm
    cases l with
    | nil => simp at hx
    | cons y l => simp at hx; subst hx; simp at hm
  obtain ⟨A, c, XA, xc, rfl, ⟨ads, hl, hs, hm⟩, hx⟩ := h
  refine ⟨A, c, XA, xc, rfl, ⟨ads, hl, ?_, fun j r a h1 h2 => ?_⟩, ?_⟩
  · rw [World.size_setCell]
    refine hs.setAt hat (fun x hx hm => ?_) i u
    cases T with
    | nil => simp [Rw.flI] at hx
    | cons r T =>
      cases ads with
      | nil => simp at hl
      | cons a ads => simp [Rw.flI] at hx; subst hx; simp at hm
  · rw [World.size_setCell]
    exact (hm j r a h1 h2).setAt hat (hi _) i u
  · rw [World.size_setCell]
    exact hx.setAt hat (hi _) i u
end Go.Proofs.YtkmfegamblmpeaaGreatDoor

/- cedillalaw14.Loaded: some right table, and it is loaded. -/
namespace Go.Proofs.YtkmfegamblmpeaaGreatDoor
open Go.RowKit
set_option linter.unusedSimpArgs false
set_option linter.unusedVariables false
/-- The tables that the laws load. -/
structure Ud.Right (T : List Rw.Row) (E S : List Int) : Prop where
  tl : T.length ≤ 20
  el : E.length ≤ 30
  rok : ∀ r ∈ T, Md.rok r
  ec : ∀ c ∈ E, C.isC c = true
  ok : Ud.Ok T S
  mem : C.mem S = Md.xs E
  sl : S.length ≤ 60
theorem Ud.isC_bd {c : Int} (h : C.isC c = true) : 0 ≤ c ∧ c ≤ 1114111 := by
  unfold C.isC at h
  simp only [decide_eq_true_eq] at h
  exact ⟨h.1, h.2.1⟩
theorem Ud.good_right {r : Rw.Row} (h : Md.good r) : Rw.right r :=
  ⟨(Ud.isC_bd h.1).1, (Ud.isC_bd h.1).2, h.2.1, h.2.2.1, h.2.2.2.1, fun c hc => Ud.isC_bd (h.2.2.2.2.2 c hc).1⟩
theorem Ud.rise_of : ∀ (T : List Rw.Row) (c : Int), Md.rises T → (∀ r ∈ T, c < r.1) → Rw.rise c T
  | [], _, _, _ => trivial
  | r :: T, c, h, hc => by
    unfold Md.rises at h
    rw [List.pairwise_cons] at h
    exact ⟨hc r List.mem_cons_self, Ud.rise_of T r.1 h.2 h.1⟩
theorem Ud.right_of {T : List Rw.Row} {E : List Int} (h1 : T.length ≤ 20) (h2 : E.length ≤ 30) (h3 : ∀ r ∈ T, Md.rok r) (h4 : ∀ c ∈ E, C.isC c = true) (h5 : Md.chk T (Md.xs E) = 0) : Ud.Right T E (C.chars (Ud.uniq E)) := by
  have hm : C.mem (C.chars (Ud.uniq E)) = Md.xs E := by
    rw [Md.mem_chars fun c hc => h4 c ((Ud.uniq_mem _ _).1 hc)]
    funext d
    unfold Md.xs
    rw [Bool.eq_iff_iff, decide_eq_true_iff, decide_eq_true_iff, Ud.uniq_mem]
  have hl : (C.chars (Ud.uniq E)).length ≤ 60 := by
    have g1 := C.chars_len (Ud.uniq E)
    have g2 := Ud.uniq_len E
    omega
  exact ⟨h1, h2, h3, h4, ⟨by rw [hm]; exact h5, (C.chars_spec _).1.1, by omega, by omega⟩, hm, hl⟩
theorem Ud.parse_txt {T : List Rw.Row} {E S : List Int} (h : Ud.Right T E S) : Rw.parse (Rw.txt T) = some T := by
  rw [Rw.parse_txt T (fun r hr => ⟨Ud.good_right (h.ok.good r hr), .inl (h.ok.good r hr).1⟩) (Ud.rise_of T (-1) h.ok.rises fun r hr => by have := (Ud.isC_bd (h.ok.good r hr).1).1; omega) (by have := h.tl; omega)]
  congr 1
  rw [List.filter_eq_self]
  intro r hr
  have hl := (h.rok r hr).2.2.2.2
  unfold Rw.quiet
  simp only [Bool.not_eq_true', Bool.and_eq_false_iff, decide_eq_false_iff_not]
  by_cases h0 : r.2.1 = 0
  · exact .inr fun e => hl h0 (List.eq_nil_of_length_eq_zero e)
  · exact .inl h0
theorem Ud.parse_btxt {T : List Rw.Row} {E S : List Int} (h : Ud.Right T E S) : Ex.parse (Ex.btxt (Ud.uniq E)) = some (Ud.uniq E) :=
  Ex.parse_btxt _ (fun c hc => h.ec c ((Ud.uniq_mem _ _).1 hc)) (Ud.uniq_nodup E) (by have := Ud.uniq_len E; have := h.el; omega)

/-! ### A store into a box of two slices -/
theorem Sl.setAtK {w : World} {B : Nat} {A : Option Addr} {xs cs : List Value} {b : Nat} {t : TypeId} (h : Sl w B A xs) (hat : Rw.At w b t cs) (k : Nat) (hd : ∀ x, xs[k]? = some x → x ∉ cs) (hk : xs ≠ [] → k < xs.length) (i : Nat) (v : Value) : Sl (w.setCell ⟨b, i, none⟩ v) B A xs := by
  intro hx
  obtain ⟨g, o, hA, hg, hc⟩ := h hx
  have hkx := hk (List.length_pos_iff.1 hx)
  have hne : g ≠ b := fun e => by
    subst e
    have h0 := hc k hkx
    rw [List.getElem?_eq_getElem hkx] at h0
    refine hd _ (List.getElem?_eq_getElem hkx) ?_
    unfold Rw.At at hat
    simp [World.cell?, hat] at h0
    exact List.mem_of_getElem? h0
  refine ⟨g, o, hA, hg, fun j hj => ?_⟩
  rw [← hc j hj]
  have he := Below.heap_setCell w ⟨b, i, none⟩ v g hne
  unfold World.cell?
  simp only [he]
theorem Sl.setInts {k : IntKind} {w : World} {B : Nat} {A : Option Addr} {l : List Int} {b : Nat} {t : TypeId} {A0 A1 : Option Addr} {n0 c0 n1 c1 : Nat} (h : Sl w B A (l.map (Value.int k))) (hat : Rw.At w b t [.slice A0 n0 c0, .slice A1 n1 c1]) (i : Nat) (u : Value) : Sl (w.setCell ⟨b, i, none⟩ u) B A (l.map (Value.int k)) := by
  refine h.setAtK hat 0 (fun x hx hm => ?_) (fun hne => List.length_pos_iff.2 hne) i u
  cases l with
  | nil => simp at hx
  | cons y l => simp at hx; subst hx; simp at hm
theorem Rw.At.setAt {w : World} {b b' : Nat} {t t' : TypeId} {cs cs' : List Value} (h : Rw.At w b' t' cs') (hat : Rw.At w b t cs) (hl : cs.length ≠ cs'.length) (i : Nat) (u : Value) : Rw.At (w.setCell ⟨b, i, none⟩ u) b' t' cs' := by
  refine h.other (fun e => ?_) u
  subst e
  have := h.symm.trans hat
  simp only [Option.some.injEq, Obj.cells.injEq] at this
  have h2 := congrArg Array.size this.1
  simp at h2
  omega
theorem Pg.Is.setAt {w : World} {v : Value} {idx : List Int} {bl : List (List Int)} (h : Pg.Is w v idx bl) (hx : 2 ≤ idx.length) {b : Nat} {t : TypeId} {A0 A1 : Option Addr} {n0 c0 n1 c1 : Nat} (hat : Rw.At w b t [.slice A0 n0 c0, .slice A1 n1 c1]) (i : Nat) (u : Value) : Pg.Is (w.setCell ⟨b, i, none⟩ u) v idx bl := by
  obtain ⟨g, A, c, h1, h2, h3⟩ := h
  refine ⟨g, A, c, h1, h2.setAt hat (by simp; omega) i u, ?_⟩
  rw [World.size_setCell]
  exact h3.setInts hat i u
theorem Mp.Is.setAt {k : TypeId} {w : World} {m : Nat} {F : Value → Option Value} (h : Mp.Is Tryz.prog k w m F) {b : Nat} {t : TypeId} {cs : List Value} (hat : Rw.At w b t cs) (i : Nat) (u : Value) : Mp.Is Tryz.prog k (w.setCell ⟨b, i, none⟩ u) m F := by
  refine h.same (Below.heap_setCell w ⟨b, i, none⟩ u m fun e => ?_)
  subst e
  exact h.notcells hat
theorem Rw.Sees.setAt {w : World} {A : Option Addr} {T : List Rw.Row} (h : Rw.Sees w A T) {b : Nat} {t : TypeId} {A0 A1 : Option Addr} {n0 c0 n1 c1 : Nat} (hat : Rw.At w b t [.slice A0 n0 c0, .slice A1 n1 c1]) (i : Nat) (u : Value) : Rw.Sees (w.setCell ⟨b, i, none⟩ u) A T := by
  obtain ⟨ads, hl, hs, hm⟩ := h
  refine ⟨ads, hl, ?_, fun j r a h1 h2 => ?_⟩
  · rw [World.size_setCell]
    refine hs.setAtK hat 0 (fun x hx hm => ?_) (fun hne => List.length_pos_iff.2 hne) i u
    cases T with
    | nil => simp [Rw.fl] at hx
    | cons r T =>
      cases ads with
      | nil => simp at hl
      | cons a ads => simp [Rw.fl] at hx; subst hx; simp at hm
  · rw [World.size_setCell]
    exact (hm j r a h1 h2).setInts hat i u
theorem Ud.Ents.setAt {w : World} {T : List Rw.Row} {X : Int → Bool} {A : Option Addr} {es : List Ud.At} (h : Ud.Ents w T X A es) {b : Nat} {t : TypeId} {A0 A1 : Option Addr} {n0 c0 n1 c1 : Nat} (hat : Rw.At w b t [.slice A0 n0 c0, .slice A1 n1 c1]) (i : Nat) (u : Value) : Ud.Ents (w.setCell ⟨b, i, none⟩ u) T X A es := by
  refine ⟨h.1, ?_, fun j r a h1 h2 => ?_⟩
  · rw [World.size_setCell]
    have hl := Ud.flE_len T X (Ud.mr T) es h.1
    refine h.2.1.setAtK hat 2 (fun x hx hm => ?_) (fun hne => ?_) i u
    · cases hmr : Ud.mr T with
      | nil => rw [hmr] at hx; cases es <;> simp [Ud.flE] at hx
      | cons r l =>
        rw [hmr] at hx
        cases es with
        | nil => simp [Ud.flE] at hx
        | cons a es => simp [Ud.flE] at hx; subst hx; simp at hm
    · have := List.length_pos_iff.2 hne
      rw [hl] at this ⊢
      omega
  · rw [World.size_setCell]
    exact ⟨(h.2.2 j r a h1 h2).1.setInts hat i u, (h.2.2 j r a h1 h2).2.setInts hat i u⟩
theorem Pg.idx_len2 (f : Int → Int) : 2 ≤ (Pg.idx f 4352).length := by rw [Pg.idx_len]; decide
theorem Ud.Is.setAt {w : World} {v : Value} {T : List Rw.Row} {S : List Int} (h : Ud.Is w v T S) {b : Nat} {t : TypeId} {B0 B1 : Option Addr} {n0 d0 n1 d1 : Nat} (hat : Rw.At w b t [.slice B0 n0 d0, .slice B1 n1 d1]) (i : Nat) (u : Value) : Ud.Is (w.setCell ⟨b, i, none⟩ u) v T S := by
  obtain ⟨g, A0, c0, XA, xc, pc, pp, A3, c3, mb, jb, A4, c4, A5, c5, A6, c6, es, h1, h2, h3, h4, h5, h6, h7, ⟨F, hF, hF2⟩, ⟨J, hJ, hJ2⟩, h10, h11, h12⟩ := h.is
  refine ⟨g, A0, c0, XA, xc, pc, pp, A3, c3, mb, jb, A4, c4, A5, c5, A6, c6, es, h1, h2.setAt hat (by simp) i u, h3.setAt hat i u, ?_, h5.setAt (Pg.idx_len2 _) hat i u, h6.setAt (Pg.idx_len2 _) hat i u, h7.setAt hat i u, ⟨F, hF.setAt hat i u, fun c => ?_⟩, ⟨J, hJ.setAt hat i u, hJ2⟩, ?_, ?_, ?_⟩
  · rw [World.size_setCell]; exact h4.setInts hat i u
  · rcases hF2 c with hh | ⟨A, cap, g1, g2⟩
    · exact .inl hh
    · refine .inr ⟨A, cap, g1, ?_⟩
      rw [World.size_setCell]; exact g2.setInts hat i u
  · rw [World.size_setCell]; exact h10.setInts hat i u
  · rw [World.size_setCell]; exact h11.setInts hat i u
  · rw [World.size_setCell]; exact h12.setInts hat i u

theorem results_tmp_cell {P : Program} {fn : Func} {p u : Tmp} {ty : TypeId} (h : fn.results = #[.tmp u, .cell p ty]) (tmps : Array Value) (w : World) (g : Nat) (t : TypeId) (cs : Array Value) (fr : Nat × Nat) (d : TypeDesc)
    (hp : tmps.getD p undef = .pointer (some ⟨g, 0, none⟩)) (hg : w.heap[g]? = some (.cells cs t fr))
    (hu : P.underlying ty = some d) (hd : (match d with | .struct _ | .array _ _ => true | _ => false) = true) (hi : (P.info? ty).map (·.size) = some cs.size) :
    (results fn tmps).run P w = .ok (.tuple #[tmps.getD u undef, .agg cs]) w := by
  have hp' : tmps[p]?.getD undef = .pointer (some ⟨g, 0, none⟩) := by simpa using hp
  simp [results, h, hp', asAddr, run_loadVar_row w g t ty cs fr d hg hu hd hi]
/-- What Loaded answers. -/
def Ud.RetLoaded (w : World) (e : Ending) (w' : World) : Prop :=
  ∃ p v T E S, e = .returned (.tuple #[p, v]) ∧ Ud.Is w' p T S ∧ Md.Doc w' v T E ∧ Ud.Right T E S ∧ Below w.heap.size w w'
set_option maxRecDepth 100000 in
set_option maxHeartbeats 4000000 in
theorem Ud.loaded_any (A XA : Option Addr) (n c xn xc : Nat) (T0 : List Rw.Row) (E0 : List Int) (w : World) (hn : T0.length = n) (hxn : E0.length = xn) (hnb : n ≤ maxLen) (hxb : xn ≤ maxLen) (hbd : ∀ r ∈ T0, Rw.bounds r) (h2 : Rw.SeesI w A T0) (hX : Sl w w.heap.size XA (E0.map (Value.int .i64))) (hL : Rw.Laid w) :
    Calls Tryz.prog 6 #[.agg #[.slice A n c, .slice XA xn xc]] w (Ud.RetLoaded w) := by
  have HRIGHT : Hid (∀ W, Below w.heap.size w W → Calls Tryz.prog 32 #[.agg #[.slice A n c, .slice XA xn xc]] W (Md.RetRight W)) := Lib.hid fun W hW =>
    Md.right_any A XA n c xn xc T0 E0 W hn hxn hnb hxb hbd (h2.below hW) (hX.below hW hW.size)
  have HL := Lib.hid hL
  have hat := Rw.At.new w 25 [.slice A n c, .slice XA xn xc]
  have hba : Below w.heap.size w (w.alloc (.cells #[.slice A n c, .slice XA xn xc] 25)) := (Below.refl _ _).alloc (Nat.le_refl _) _
  have hat3 := Rw.At.new (w.alloc (.cells #[.slice A n c, .slice XA xn xc] 25)) 25 [.slice none 0 0, .slice none 0 0]
  rw [show (w.alloc (.cells #[.slice A n c, .slice XA xn xc] 25)).heap.size = w.heap.size + 1 by simp] at hat3
  obtain ⟨wa, hwa⟩ : ∃ wa, (w.alloc (.cells #[.slice A n c, .slice XA xn xc] 25)).alloc (.cells #[.slice none 0 0, .slice none 0 0] 25) = wa := ⟨_, rfl⟩
  have hba2 : Below w.heap.size w wa := by rw [← hwa]; exact hba.alloc hba.size _
  have hata : Rw.At wa w.heap.size 25 [.slice A n c, .slice XA xn xc] := by rw [← hwa]; exact hat.alloc _
  have hat3a : Rw.At wa (w.heap.size + 1) 25 [.slice none 0 0, .slice none 0 0] := by
    rw [← hwa]
    exact hat3
  have HWA := Lib.hid hwa
  have HB := Lib.hid hba2
  have HAT := Lib.hid hata
  have HAT3 := Lib.hid hat3a
  have x0 := hata.cell 0 rfl
  have x1 := hata.cell 1 rfl
  have xl := hata.lt
  clear hn hxn hnb hxb hbd h2 hX hL hat hba hat3 hwa hba2 hata hat3a
  go_enter Tryz.func6, Tryz.ntmps6
  go_upto_region 1 with (fail)
  rw [HWA.out]
  go_wp2_with fail
  refine (HRIGHT.out wa HB.out).mono ?_
  rintro e w2 ⟨v2, T, E, rfl, hdo, hcap, hTl, hEl, hrok, hEc, hchk, hb2⟩
  have hR := Ud.right_of hTl hEl hrok hEc hchk
  obtain ⟨A2, c2, XA2, xc2, rfl, hdo2⟩ := id hdo
  have hcx := (hcap A2 T.length c2 XA2 E.length xc2 rfl).2
  obtain ⟨n2, hn2⟩ : ∃ k, T.length = k := ⟨_, rfl⟩
  obtain ⟨xn2, hxn2⟩ : ∃ k, E.length = k := ⟨_, rfl⟩
  rw [hn2] at hdo hTl ⊢
  rw [hxn2] at hdo hEl hcx ⊢
  unfold Md.tv at hdo ⊢
  have hat2 := HAT.out.below hb2
  have h32 := HAT3.out.below hb2
  have y2 := hat2.frozen 0
  have y3 := hat2.frozen 1
  have yl := hat2.lt
  have y0 := hat2.cell 0 rfl
  have y1 := hat2.cell 1 rfl
  have hs1 := hat2.set 0 (.slice A2 n2 c2)
  have hs2 := hs1.set 1 (.slice XA2 xn2 xc2)
  have hd2 := (hdo.setAt hat2 0 (.slice A2 n2 c2)).setAt hs1 1 (.slice XA2 xn2 xc2)
  have h33 := (h32.other (show w.heap.size + 1 ≠ w.heap.size by omega) (i := 0) (.slice A2 n2 c2)).other (show w.heap.size + 1 ≠ w.heap.size by omega) (i := 1) (.slice XA2 xn2 xc2)
  have hb3 : Below w.heap.size w ((w2.setCell ⟨w.heap.size, 0, none⟩ (.slice A2 n2 c2)).setCell ⟨w.heap.size, 1, none⟩ (.slice XA2 xn2 xc2)) :=
    ((HB.out.trans (hb2.mono HB.out.size)).setCell (p := ⟨w.heap.size, 0, none⟩) (Nat.le_refl _) _).setCell (p := ⟨w.heap.size, 1, none⟩) (Nat.le_refl _) _
  obtain ⟨w3, hw3⟩ : ∃ w3, (w2.setCell ⟨w.heap.size, 0, none⟩ (.slice A2 n2 c2)).setCell ⟨w.heap.size, 1, none⟩ (.slice XA2 xn2 xc2) = w3 := ⟨_, rfl⟩
  rw [hw3] at hs2 hd2 hb3 h33
  have hTX : Calls Tryz.prog 33 #[.agg #[.slice A2 n2 c2, .slice XA2 xn2 xc2]] w3 fun e w' => e = .returned (.tuple #[.string ⟨(Rw.txt T).toArray⟩, .string ⟨(Ex.btxt (Ud.uniq E)).toArray⟩]) ∧ Below w3.heap.size w3 w' := by
    obtain ⟨A9, c9, X9, d9, he, hse, hsx⟩ := hd2
    simp only [Md.tv, Value.agg.injEq, Array.mk.injEq, List.cons.injEq, Value.slice.injEq, and_true] at he
    obtain ⟨⟨rfl, _, rfl⟩, rfl, _, rfl⟩ := he
    exact Ud.texts_any A2 n2 c2 XA2 xn2 xc2 T E w3 hn2 (by omega) hxn2 (by omega) hcx (fun r hr => Ud.good_right (hR.ok.good r hr)) (fun x hx => Ud.isC_bd (hEc x hx)) hse hsx
  have hLD : ∀ W, Below w.heap.size w W → Calls Tryz.prog 29 #[.string ⟨(Rw.txt T).toArray⟩, .string ⟨(Ex.btxt (Ud.uniq E)).toArray⟩] W (Ud.RetOf T (C.chars (Ud.uniq E)) W) := fun W hW => by
    refine Ud.load_any _ _ ?_ ?_ T (Ud.uniq E) ?_ ?_ hR.ok hR.ok.bd W (HL.out.next hW)
    · rw [Rw.ba_size]
      have := Rw.txt_len T (fun r hr => Ud.good_right (hR.ok.good r hr))
      omega
    · rw [Rw.ba_size]
      have h1 := Ex.btxt_len (Ud.uniq E) (fun d hd => Ud.isC_bd (hEc d ((Ud.uniq_mem _ _).1 hd)))
      have h2 := Ud.uniq_len E
      omega
    · exact Ud.parse_txt hR
    · exact Ud.parse_btxt hR
  obtain ⟨s1, hs1e⟩ : ∃ y : ByteArray, ⟨(Rw.txt T).toArray⟩ = y := ⟨_, rfl⟩
  obtain ⟨s2, hs2e⟩ : ∃ y : ByteArray, ⟨(Ex.btxt (Ud.uniq E)).toArray⟩ = y := ⟨_, rfl⟩
  rw [hs1e, hs2e] at hTX
  simp only [hs1e, hs2e] at hLD
  obtain ⟨S, hS⟩ : ∃ S, C.chars (Ud.uniq E) = S := ⟨_, rfl⟩
  rw [hS] at hR hLD
  have HW3 := Lib.hid hw3
  have HS2 := Lib.hid hs2
  have HD2 := Lib.hid hd2
  have HB3 := Lib.hid hb3
  have H33 := Lib.hid h33
  have HLD := Lib.hid hLD
  have HR := Lib.hid hR
  have hl3 := hs2.lt
  have z0 := hs2.cell 0 rfl
  have z1 := hs2.cell 1 rfl
  clear hdo hdo2 hs1 hs2 hd2 hb3 hw3 hat2 h32 h33 hn2 hxn2 hb2 hcap hTl hEl hrok hEc hchk hcx hR hLD hS hs1e hs2e x0 x1
  go_upto_region 2 with (fail)
  rw [HW3.out]
  clear y0 y1 y2 y3 yl
  go_wp2_with fail
  refine hTX.mono ?_
  rintro e w4 ⟨rfl, hb4⟩
  have HB4 := Lib.hid (HB3.out.trans (hb4.mono HB3.out.size))
  have HD4 := Lib.hid (HD2.out.below hb4)
  have HS4 := Lib.hid (HS2.out.below hb4)
  have H34 := Lib.hid (H33.out.below hb4)
  clear hb4 hTX z0 z1
  go_wp2_with fail
  refine (HLD.out w4 HB4.out).mono ?_
  rintro e w5 ⟨p, rfl, his, hb5⟩
  have HB5 := Lib.hid (HB4.out.trans (hb5.mono HB4.out.size))
  have HD5 := Lib.hid (HD4.out.below hb5)
  have hs5 := HS4.out.below hb5
  have h35 := H34.out.below hb5
  have HIS := Lib.hid his
  have z0 := hs5.cell 0 rfl
  have z1 := hs5.cell 1 rfl
  have zl := hs5.lt
  have k0 := h35.frozen 0
  have k1 := h35.frozen 1
  have kl := h35.lt
  have k2 := h35.cell 0 rfl
  have k3 := h35.cell 1 rfl
  have H35 := Lib.hid h35
  clear his hb5 hs5 h35 HLD HL HS4 H34 HD4 HRIGHT
  go_wp2_with fail
  go_region
  go_wp2_with fail
  have h1 := H35.out.set 0 (.slice A2 n2 c2)
  have h2 := h1.set 1 (.slice XA2 xn2 xc2)
  have hi2 := (HIS.out.setAt H35.out 0 (.slice A2 n2 c2)).setAt h1 1 (.slice XA2 xn2 xc2)
  have hd6 := (HD5.out.setAt H35.out 0 (.slice A2 n2 c2)).setAt h1 1 (.slice XA2 xn2 xc2)
  have hb6 : Below w.heap.size w ((w5.setCell ⟨w.heap.size + 1, 0, none⟩ (.slice A2 n2 c2)).setCell ⟨w.heap.size + 1, 1, none⟩ (.slice XA2 xn2 xc2)) :=
    (HB5.out.setCell (p := ⟨w.heap.size + 1, 0, none⟩) (Nat.le_succ _) _).setCell (p := ⟨w.heap.size + 1, 1, none⟩) (Nat.le_succ _) _
  obtain ⟨w6, hw6⟩ : ∃ w6, (w5.setCell ⟨w.heap.size + 1, 0, none⟩ (.slice A2 n2 c2)).setCell ⟨w.heap.size + 1, 1, none⟩ (.slice XA2 xn2 xc2) = w6 := ⟨_, rfl⟩
  rw [hw6] at h2 hi2 hd6 hb6 ⊢
  refine bodyPost_ret (results_tmp_cell rfl _ _ (w.heap.size + 1) _ _ _ _ rfl (show w6.drew.heap[w.heap.size + 1]? = _ from h2) Tryz.underlying25 rfl (by kernel_rfl)) rfl ?_
  exact ⟨p, .agg #[.slice A2 n2 c2, .slice XA2 xn2 xc2], T, E, S, rfl, hi2.below (Below.refl _ _).drew, hd6.below (Below.refl _ _).drew, HR.out, hb6.drew⟩
end Go.Proofs.YtkmfegamblmpeaaGreatDoor
