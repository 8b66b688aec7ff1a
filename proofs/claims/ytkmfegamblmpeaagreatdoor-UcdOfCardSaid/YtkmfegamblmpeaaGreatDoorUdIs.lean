/- The law's Is in plain Lean, more: the ranges that are made, mark by mark; what does not change between marks. -/
import Derived.Test.YtkmfegamblmpeaaGreatDoorCpIsPlain
import Derived.Lib.SlicesCompact
import Derived.Test.YtkmfegamblmpeaaGreatDoorUdPlain
import Derived.Test.YtkmfegamblmpeaaGreatDoorPgLib
namespace Go.Proofs.YtkmfegamblmpeaaGreatDoor
set_option linter.unusedSimpArgs false
set_option linter.unusedVariables false

theorem C.step_new {p : Int → Bool} {acc : List Int} {a b : Int} (hp : p a = true) (h : acc.getLast? ≠ some a) : C.step p acc a b = acc ++ [a, b] := by
  unfold C.step
  rw [if_pos hp, if_neg h]
theorem C.step_no {p : Int → Bool} {acc : List Int} {a b : Int} (hp : p a = false) : C.step p acc a b = acc := by
  unfold C.step
  rw [if_neg (by simp [hp])]
end Go.Proofs.YtkmfegamblmpeaaGreatDoor

/- The law's Is in plain Lean, its end: the ranges that are made are the set's. -/
namespace Go.Proofs.YtkmfegamblmpeaaGreatDoor
set_option linter.unusedSimpArgs false
set_option linter.unusedVariables false

end Go.Proofs.YtkmfegamblmpeaaGreatDoor

/- The law's Is in plain Lean: what its walk asks, out of a set and a test that changes at marks alone. -/
namespace Go.Proofs.YtkmfegamblmpeaaGreatDoor
set_option linter.unusedSimpArgs false
set_option linter.unusedVariables false

theorem C.step_mem {p : Int → Bool} {acc : List Int} {a b x : Int} (h : x ∈ C.step p acc a b) : x ∈ acc ∨ x = a ∨ x = b := by
  unfold C.step at h
  split at h
  · split at h
    · rcases List.mem_append.1 h with h | h
      · exact .inl (List.dropLast_subset _ h)
      · simp at h; exact .inr (.inr h)
    · rcases List.mem_append.1 h with h | h
      · exact .inl h
      · simp at h
        rcases h with h | h
        · exact .inr (.inl h)
        · exact .inr (.inr h)
  · exact .inl h
end Go.Proofs.YtkmfegamblmpeaaGreatDoor

/- The layer cpset: a set of characters that rise, in plain Lean. -/
namespace Go.Proofs.YtkmfegamblmpeaaGreatDoor
set_option linter.unusedSimpArgs false
set_option linter.unusedVariables false

theorem C.upto_mono {p : Int → Bool} {acc : List Int} {a c : Int} (h : C.upto p acc a) (hac : a ≤ c) (hp : ∀ d, a ≤ d → d < c → p d = false) : C.upto p acc c := by
  obtain ⟨h1, h2, h3, h4⟩ := h
  refine ⟨h1, h2, fun x hx => by have := h3 x hx; omega, fun d => ?_⟩
  rw [h4 d]
  by_cases h : d < a
  · rw [decide_eq_true h, decide_eq_true (by omega)]
  · by_cases h' : d < c
    · rw [hp d (by omega) h']; rfl
    · rw [decide_eq_false h, decide_eq_false h']
theorem C.step_isC {p : Int → Bool} {acc : List Int} {c b : Int} (h : p c = C.isC c) : C.step p acc c b = C.step C.isC acc c b := by
  unfold C.step; rw [h]
theorem C.step_bd {acc : List Int} {c : Int} (h : ∀ x ∈ acc, 0 ≤ x ∧ x ≤ 1114112) : ∀ x ∈ C.step C.isC acc c (c + 1), 0 ≤ x ∧ x ≤ 1114112 := by
  intro x hx
  cases hc : C.isC c
  · rw [C.step_no hc] at hx; exact h x hx
  · have hb : 0 ≤ c ∧ c ≤ 1114111 := by simp [C.isC] at hc; omega
    rcases C.step_mem hx with hx | rfl | rfl
    · exact h x hx
    · omega
    · omega
/-- Of numbers that rise: those that are characters. -/
def C.chF (cs acc : List Int) : List Int := cs.foldl (fun o c => C.step C.isC o c (c + 1)) acc
theorem C.ch_go {p : Int → Bool} : ∀ (cs acc : List Int) (a : Int), C.srt cs → (∀ c ∈ cs, a ≤ c) → (∀ d, a ≤ d → p d = (decide (d ∈ cs) && C.isC d)) → (∀ x ∈ acc, 0 ≤ x ∧ x ≤ 1114112) → C.upto p acc a →
    (∀ x ∈ C.chF cs acc, 0 ≤ x ∧ x ≤ 1114112) ∧ ∃ b, C.upto p (C.chF cs acc) b ∧ ∀ d, b ≤ d → p d = false
  | [], acc, a, _, _, hp, hb, h => ⟨hb, a, h, fun d hd => by rw [hp d hd]; simp⟩
  | c :: t, acc, a, hs, hc, hp, hb, h => by
    have hac := hc c (by simp)
    have hct : ∀ z ∈ t, c < z := C.srt_head hs
    have h1 := C.upto_mono h hac (fun d d1 d2 => by
      rw [hp d d1]
      have : d ∉ c :: t := by
        intro hm
        rcases List.mem_cons.1 hm with rfl | hm
        · omega
        · have := hct d hm; omega
      rw [decide_eq_false this]; rfl)
    have hpc : p c = C.isC c := by rw [hp c hac, decide_eq_true (by simp)]; rfl
    have h2 := C.upto_step h1 (show c < c + 1 by omega) (fun d d1 d2 => by rw [show d = c by omega])
    rw [C.step_isC hpc] at h2
    show (∀ x ∈ C.chF t (C.step C.isC acc c (c + 1)), 0 ≤ x ∧ x ≤ 1114112) ∧ ∃ b, C.upto p (C.chF t (C.step C.isC acc c (c + 1))) b ∧ ∀ d, b ≤ d → p d = false
    refine C.ch_go t _ (c + 1) (C.srt_tail hs) (fun z hz => by have := hct z hz; omega) (fun d hd => ?_) (C.step_bd hb) h2
    rw [hp d (by omega)]
    congr 1
    rw [decide_eq_decide]
    constructor
    · intro hm
      rcases List.mem_cons.1 hm with rfl | hm
      · omega
      · exact hm
    · intro hm; simp [hm]
/-- The set of numbers that rise has just the characters of them. -/
theorem C.ch_spec (cs : List Int) (hs : C.srt cs) : C.ok (C.chF cs []) ∧ ∀ d, C.mem (C.chF cs []) d = (decide (d ∈ cs) && C.isC d) := by
  obtain ⟨a, ha⟩ : ∃ a : Int, ∀ c ∈ cs, a ≤ c := by
    cases cs with
    | nil => exact ⟨0, by simp⟩
    | cons c t => exact ⟨c, fun z hz => by
        rcases List.mem_cons.1 hz with rfl | hz
        · exact Int.le_refl _
        · have := C.srt_head hs z hz; omega⟩
  have h0 : C.upto (fun d => decide (d ∈ cs) && C.isC d) [] a := by
    refine ⟨List.Pairwise.nil, rfl, by simp, fun d => ?_⟩
    by_cases hd : d < a
    · have : d ∉ cs := fun hm => by have := ha d hm; omega
      show false = ((decide (d ∈ cs) && C.isC d) && decide (d < a))
      rw [decide_eq_false this]; rfl
    · show false = ((decide (d ∈ cs) && C.isC d) && decide (d < a))
      rw [decide_eq_false hd, Bool.and_false]
  obtain ⟨hb, b, ⟨u1, u2, u3, u4⟩, hz⟩ := C.ch_go cs [] a hs ha (fun d _ => rfl) (by simp) h0
  refine ⟨⟨u1, hb, u2⟩, fun d => ?_⟩
  rw [u4 d]
  by_cases hd : d < b
  · rw [decide_eq_true hd, Bool.and_true]
  · have := hz d (by omega)
    rw [this]
    show ((decide (d ∈ cs) && C.isC d) && decide (d < b)) = false
    rw [this]; rfl
end Go.Proofs.YtkmfegamblmpeaaGreatDoor

/- A row that is in order, each number once: it rises, and has the same numbers. -/
namespace Go.Proofs.YtkmfegamblmpeaaGreatDoor
set_option linter.unusedSimpArgs false
set_option linter.unusedVariables false

theorem C.arr_get {l : List Int} {j : Nat} (h : j < l.length) : l.toArray[j]! = l[j] := by
  rw [getElem!_pos l.toArray j (by simpa using h)]; simp
theorem C.le_of {l : List Int} (hs : l.Pairwise (· ≤ ·)) {i j : Nat} (hij : i ≤ j) (hj : j < l.length) : l[i]'(by omega) ≤ l[j] := by
  rcases Nat.lt_or_ge i j with h | h
  · exact List.pairwise_iff_getElem.1 hs i j (by omega) hj h
  · obtain rfl : i = j := by omega
    exact Int.le_refl _
theorem C.cmp_spec (l : List Int) (hs : l.Pairwise (· ≤ ·)) : ∀ m, m ≤ l.length → C.srt (Lib.compactUpTo l.toArray m) ∧ ∀ z, z ∈ Lib.compactUpTo l.toArray m ↔ z ∈ l.take m
  | 0, _ => ⟨by simp [Lib.compactUpTo, C.srt], by simp [Lib.compactUpTo]⟩
  | m + 1, hm => by
    obtain ⟨h1, h2⟩ := C.cmp_spec l hs m (by omega)
    have hlt : m < l.length := by omega
    have et : l.take (m + 1) = l.take m ++ [l[m]] := by rw [List.take_succ_eq_append_getElem hlt]
    have eg := C.arr_get hlt
    rw [Lib.compactUpTo_succ]
    by_cases hk : m = 0 ∨ l[m] ≠ l[m - 1]'(by omega)
    · have hkk : Lib.keeps l.toArray m = true := by
        unfold Lib.keeps
        rw [decide_eq_true_iff, eg, C.arr_get (show m - 1 < l.length by omega)]
        exact hk
      rw [if_pos hkk, eg]
      refine ⟨C.srt_snoc h1 fun y hy => ?_, fun z => by rw [List.mem_append, h2, et, List.mem_append]⟩
      obtain ⟨j, hj, rfl⟩ := List.getElem_of_mem ((h2 y).1 hy)
      have hjm : j < m := by rw [List.length_take] at hj; omega
      rw [List.getElem_take]
      rcases hk with rfl | hk
      · omega
      · have a1 := C.le_of hs (i := j) (j := m - 1) (by omega) (by omega)
        have a2 := C.le_of hs (i := m - 1) (j := m) (by omega) hlt
        omega
    · have h0 : m ≠ 0 := fun h => hk (.inl h)
      have he : l[m] = l[m - 1]'(by omega) := by
        rcases Int.decEq l[m] (l[m - 1]'(by omega)) with h | h
        · exact absurd (.inr h) hk
        · exact h
      have hkk : Lib.keeps l.toArray m = false := by
        unfold Lib.keeps
        rw [decide_eq_false_iff_not, eg, C.arr_get (show m - 1 < l.length by omega)]
        exact hk
      rw [hkk]
      refine ⟨by simpa using h1, fun z => ?_⟩
      rw [et]
      simp only [Bool.false_eq_true, if_false, List.append_nil]
      rw [h2, List.mem_append]
      constructor
      · exact .inl
      · rintro (h | h)
        · exact h
        · rw [List.mem_singleton] at h
          subst h
          rw [he]
          have : l[m - 1]'(by omega) = (l.take m)[m - 1]'(by rw [List.length_take]; omega) := by rw [List.getElem_take]
          rw [this]
          exact List.getElem_mem _
/-- The characters of any numbers: put in order, each once. -/
def C.once (l : List Int) : List Int := Lib.compactUpTo (l.mergeSort fun x y => decide (x ≤ y)).toArray l.length
theorem C.once_spec (l : List Int) : C.srt (C.once l) ∧ ∀ z, z ∈ C.once l ↔ z ∈ l := by
  have hs : (l.mergeSort fun x y => decide (x ≤ y)).Pairwise (· ≤ ·) := by
    have h := List.pairwise_mergeSort (le := fun x y : Int => decide (x ≤ y)) (by intro a b c h1 h2; simp at *; omega) (by intro a b; simp; omega) l
    exact h.imp (by intro a b h; simpa using h)
  obtain ⟨h1, h2⟩ := C.cmp_spec _ hs l.length (by simp)
  refine ⟨h1, fun z => ?_⟩
  unfold C.once
  rw [h2, List.take_of_length_le (by simp)]
  exact (List.mergeSort_perm l _).mem_iff
def C.chars (l : List Int) : List Int := C.chF (C.once l) []
theorem C.chars_spec (l : List Int) : C.ok (C.chars l) ∧ ∀ d, C.mem (C.chars l) d = (decide (d ∈ l) && C.isC d) := by
  obtain ⟨h1, h2⟩ := C.once_spec l
  obtain ⟨h3, h4⟩ := C.ch_spec (C.once l) h1
  refine ⟨h3, fun d => ?_⟩
  show C.mem (C.chF (C.once l) []) d = _
  rw [h4 d]
  congr 1
  rw [decide_eq_decide]
  exact h2 d
end Go.Proofs.YtkmfegamblmpeaaGreatDoor

/- What a loaded table looks like in memory. -/
namespace Go.Proofs.YtkmfegamblmpeaaGreatDoor
open Go.RowKit
set_option linter.unusedSimpArgs false
set_option linter.unusedVariables false
/-- Where an entry's two lists lie. -/
structure Ud.At where
  m : Option Addr
  mc : Nat
  f : Option Addr
  fc : Nat
def Ud.flE (T : List Rw.Row) (X : Int → Bool) : List Rw.Row → List Ud.At → List Value
  | r :: l, a :: es => .slice a.m r.2.2.length a.mc :: .slice a.f (Ud.full T r.1).length a.fc :: .bool (Md.prim T X r.1) :: Ud.flE T X l es
  | _, _ => []
theorem Ud.flE_len (T : List Rw.Row) (X : Int → Bool) : ∀ (l : List Rw.Row) (es : List Ud.At), es.length = l.length → (Ud.flE T X l es).length = l.length * 3
  | [], _, _ => by simp [Ud.flE]
  | r :: l, [], h => by simp at h
  | r :: l, a :: es, h => by simp [Ud.flE, Ud.flE_len T X l es (by simpa using h)]; omega
theorem Ud.flE_app (T : List Rw.Row) (X : Int → Bool) : ∀ (l : List Rw.Row) (es : List Ud.At) (r : Rw.Row) (a : Ud.At), es.length = l.length → Ud.flE T X (l ++ [r]) (es ++ [a]) = Ud.flE T X l es ++ [.slice a.m r.2.2.length a.mc, .slice a.f (Ud.full T r.1).length a.fc, .bool (Md.prim T X r.1)]
  | [], [], r, a, _ => rfl
  | [], _ :: _, _, _, h => by simp at h
  | _ :: _, [], _, _, h => by simp at h
  | q :: l, b :: es, r, a, h => by simp [Ud.flE, Ud.flE_app T X l es r a (by simpa using h)]
theorem Ud.flE_get (T : List Rw.Row) (X : Int → Bool) : ∀ (l : List Rw.Row) (es : List Ud.At) (i : Nat) (r : Rw.Row) (a : Ud.At), l[i]? = some r → es[i]? = some a →
    (Ud.flE T X l es)[i * 3]? = some (.slice a.m r.2.2.length a.mc) ∧ (Ud.flE T X l es)[i * 3 + 1]? = some (.slice a.f (Ud.full T r.1).length a.fc) ∧ (Ud.flE T X l es)[i * 3 + 2]? = some (.bool (Md.prim T X r.1))
  | [], _, _, _, _, h, _ => by simp at h
  | _ :: _, [], _, _, _, _, h => by simp at h
  | q :: l, b :: es, 0, r, a, h1, h2 => by
    simp at h1 h2
    subst h1; subst h2
    simp [Ud.flE]
  | q :: l, b :: es, i + 1, r, a, h1, h2 => by
    have := Ud.flE_get T X l es i r a (by simpa using h1) (by simpa using h2)
    rw [show (i + 1) * 3 = i * 3 + 3 by omega]
    simpa [Ud.flE] using this
def Ud.ints (l : List Int) : List Value := l.map (Value.int .i32)
/-- The entries, as a slice that is read. -/
def Ud.Ents (w : World) (T : List Rw.Row) (X : Int → Bool) (A : Option Addr) (es : List Ud.At) : Prop :=
  es.length = (Ud.mr T).length ∧ Sl w w.heap.size A (Ud.flE T X (Ud.mr T) es) ∧ ∀ (i : Nat) r a, (Ud.mr T)[i]? = some r → es[i]? = some a → Sl w w.heap.size a.m (Ud.ints r.2.2) ∧ Sl w w.heap.size a.f (Ud.ints (Ud.full T r.1))
theorem Ud.Ents.below {w w' : World} {T : List Rw.Row} {X : Int → Bool} {A : Option Addr} {es : List Ud.At} (h : Ud.Ents w T X A es) (hb : Below w.heap.size w w') : Ud.Ents w' T X A es :=
  ⟨h.1, h.2.1.below hb hb.size, fun i r a h1 h2 => ⟨(h.2.2 i r a h1 h2).1.below hb hb.size, (h.2.2 i r a h1 h2).2.below hb hb.size⟩⟩
/-- The map of what begins with a character. -/
def Ud.Beg (w : World) (T : List Rw.Row) (b : Nat) : Prop := ∃ F : Value → Option Value, Mp.Is Tryz.prog 21 w b F ∧
  ∀ c : Int, (Ud.beg T T c = [] ∧ F (.int .i32 c) = none) ∨ ∃ A cap, F (.int .i32 c) = some (.slice A (Ud.beg T T c).length cap) ∧ Sl w w.heap.size A (Ud.ints (Ud.beg T T c))
/-- The map of what two are composed to. -/
def Ud.Joi (w : World) (T : List Rw.Row) (X : Int → Bool) (b : Nat) : Prop := ∃ F : Value → Option Value, Mp.Is Tryz.prog 104 w b F ∧ ∀ a c : Int, F (.agg #[.int .i32 a, .int .i32 c]) = (Ud.joi T X T a c).map (Value.int .i32)
/-- Data: a loaded table. -/
structure Ud.Is (w : World) (v : Value) (T : List Rw.Row) (S : List Int) : Prop where
  is : ∃ b A0 c0 XA xc pc pp A3 c3 mb jb A4 c4 A5 c5 A6 c6 es,
    v = .pointer (some ⟨b, 0, none⟩) ∧
    Rw.At w b 76 [.slice A0 (Ud.keep T).length c0, .slice XA S.length xc, pc, pp, .slice A3 (Ud.mr T).length c3, .map (some mb), .map (some jb), .slice A4 (C.chars (Ud.inn T T)).length c4, .slice A5 (C.chars (Ud.sec T (C.mem S) T)).length c5, .slice A6 (C.chars (Ud.mpd T)).length c6] ∧
    Rw.Sees w A0 (Ud.keep T) ∧ Sl w w.heap.size XA (Ud.ints S) ∧ Pg.Of w pc (Pg.last (Ud.cl T)) ∧ Pg.Of w pp (Pg.last (Ud.pl T)) ∧ Ud.Ents w T (C.mem S) A3 es ∧ Ud.Beg w T mb ∧ Ud.Joi w T (C.mem S) jb ∧
    Sl w w.heap.size A4 (Ud.ints (C.chars (Ud.inn T T))) ∧ Sl w w.heap.size A5 (Ud.ints (C.chars (Ud.sec T (C.mem S) T))) ∧ Sl w w.heap.size A6 (Ud.ints (C.chars (Ud.mpd T)))
theorem Ud.Beg.below {w w' : World} {T : List Rw.Row} {b : Nat} (h : Ud.Beg w T b) (hb : Below w.heap.size w w') : Ud.Beg w' T b := by
  obtain ⟨F, h1, h2⟩ := h
  refine ⟨F, h1.below hb, fun c => ?_⟩
  rcases h2 c with h | ⟨A, cap, h3, h4⟩
  · exact .inl h
  · exact .inr ⟨A, cap, h3, h4.below hb hb.size⟩
theorem Ud.Joi.below {w w' : World} {T : List Rw.Row} {X : Int → Bool} {b : Nat} (h : Ud.Joi w T X b) (hb : Below w.heap.size w w') : Ud.Joi w' T X b := by
  obtain ⟨F, h1, h2⟩ := h
  exact ⟨F, h1.below hb, h2⟩
theorem Ud.Is.below {w w' : World} {v : Value} {T : List Rw.Row} {S : List Int} (h : Ud.Is w v T S) (hb : Below w.heap.size w w') : Ud.Is w' v T S := by
  obtain ⟨b, A0, c0, XA, xc, pc, pp, A3, c3, mb, jb, A4, c4, A5, c5, A6, c6, es, h1, h2, h3, h4, h5, h6, h7, h8, h9, h10, h11, h12⟩ := h.is
  exact ⟨b, A0, c0, XA, xc, pc, pp, A3, c3, mb, jb, A4, c4, A5, c5, A6, c6, es, h1, h2.below hb, h3.below hb, h4.below hb hb.size, h5.below hb, h6.below hb, h7.below hb, h8.below hb, h9.below hb, h10.below hb hb.size, h11.below hb hb.size, h12.below hb hb.size⟩
/-- Tables that may be. -/
structure Ud.Ok (T : List Rw.Row) (S : List Int) : Prop where
  chk : Md.chk T (C.mem S) = 0
  srt : C.srt S
  len : T.length ≤ 10000
  slen : S.length ≤ 1000000
theorem Ud.Ok.good {T : List Rw.Row} {S : List Int} (h : Ud.Ok T S) : ∀ r ∈ T, Md.good r := (Md.chk_none h.chk).1
theorem Ud.Ok.rises {T : List Rw.Row} {S : List Int} (h : Ud.Ok T S) : Md.rises T := (Md.chk_none h.chk).2.1
end Go.Proofs.YtkmfegamblmpeaaGreatDoor
