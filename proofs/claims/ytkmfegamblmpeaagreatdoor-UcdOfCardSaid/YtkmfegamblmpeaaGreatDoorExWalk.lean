/- The layer rows: each, Parse, by walking their texts. -/
import Derived.Test.YtkmfegamblmpeaaGreatDoorMdFind
import Derived.Test.YtkmfegamblmpeaaGreatDoorRwLine
import Derived.Test.YtkmfegamblmpeaaGreatDoorRwPlain
import Derived.Test.YtkmfegamblmpeaaGreatDoorClone
import Derived.Test.YtkmfegamblmpeaaGreatDoorRwLines
import Derived.Test.YtkmfegamblmpeaaGreatDoorFiPlain2
import Derived.Test.YtkmfegamblmpeaaGreatDoorCpUtf
import Derived.Test.YtkmfegamblmpeaaGreatDoorCpChars
namespace Go.Proofs.YtkmfegamblmpeaaGreatDoor
open Go.RowKit
set_option linter.unusedSimpArgs false
set_option linter.unusedVariables false

theorem Rw.steps_take {st0 stf st : Rw.St} {L : List (List UInt8)} {k : Nat} {x : List UInt8} (h : Rw.steps st0 L = some stf) (hx : L[k]? = some x) (hs : Rw.steps st0 (L.take k) = some st) :
    ∃ st', Rw.step st x = some st' ∧ Rw.steps st0 (L.take (k + 1)) = some st' := by
  have hk := (List.getElem?_eq_some_iff.1 hx).1
  have e : L.take k ++ x :: L.drop (k + 1) = L := by
    have := List.take_append_drop k L
    rw [List.drop_eq_getElem_cons hk] at this
    rw [List.getElem?_eq_getElem hk, Option.some.injEq] at hx
    rw [hx] at this
    exact this
  rw [← e, Rw.steps_app, hs, Option.bind_some, Rw.steps] at h
  rcases hst : Rw.step st x with _ | st'
  · rw [hst] at h; cases h
  · refine ⟨st', rfl, ?_⟩
    rw [List.take_add_one, hx, Rw.steps_app, hs]
    show Rw.steps st [x] = some st'
    rw [Rw.steps, hst]
    rfl
theorem Rw.step_len {st st' : Rw.St} {x : List UInt8} (h : Rw.step st x = some st') : st'.1.length ≤ st.1.length + 1 := by
  obtain ⟨r, o, _, _, _, _, rfl⟩ := Rw.step_some h
  show (if Rw.quiet r = true then st.1 else st.1 ++ [r]).length ≤ _
  split
  · omega
  · simp
theorem Rw.steps_len : ∀ (L : List (List UInt8)) {st st' : Rw.St}, Rw.steps st L = some st' → st'.1.length ≤ st.1.length + L.length
  | [], st, st', h => by
    rw [Rw.steps, Option.some.injEq] at h
    subst h
    simp
  | x :: L, st, st', h => by
    rw [Rw.steps] at h
    rcases hs : Rw.step st x with _ | s
    · rw [hs] at h; cases h
    · rw [hs, Option.bind_some] at h
      have h1 := Rw.step_len hs
      have h2 := Rw.steps_len L h
      simp
      omega

/-- What each answers where all lines may be. -/
def Rw.RetEach (b : Nat) (st : Rw.St) (w : World) (e : Ending) (w' : World) : Prop := e = .returned (.tuple #[.int .i64 0, .string ⟨#[]⟩]) ∧ Rw.Rd w' b st ∧ Below b w w'
def Rw.Inv (w : World) (b : Nat) (st0 : Rw.St) (L : List (List UInt8)) (k : Nat) (wr : World) : Prop := ∃ st, Rw.steps st0 (L.take k) = some st ∧ Rw.Rd wr b st ∧ Below b w wr

set_option maxRecDepth 100000 in
set_option maxHeartbeats 4000000 in
theorem Rw.each_any (b : Nat) (st0 stf : Rw.St) (L : List (List UInt8)) (A : Option Addr) (n cp : Nat) (w0 w : World) (hL : Rw.Laid w0) (h0 : w0.heap.size ≤ b) (hB0 : Below w0.heap.size w0 w) (hI : Rw.Rd w b st0) (hlen : st0.1.length = 0)
    (hLn : L.length = n) (hn : n ≤ 100000) (hl : ∀ x ∈ L, x.length ≤ 1000) (hA : Sl w b A (L.map fun x => Value.string ⟨x.toArray⟩)) (hbl : b < w.heap.size)
    (hst : Rw.steps st0 L = some stf) : Calls Tryz.prog 92 #[.slice A n cp, .func (.func 93) #[.pointer (some ⟨b, 0, none⟩)] #[]] w (Rw.RetEach b stf w) := by
  have HL := Lib.hid hl
  have HN := Lib.hid hLn
  have HST := Lib.hid hst
  have HB := Lib.hid hB0
  have H0 := Lib.hid hlen
  have HA := Lib.hid hA
  clear hl hLn hst hB0 hlen hA
  go_enter Tryz.func92, Tryz.ntmps92
  go_wp2_with fail
  go_loopw [6, 7, 8, 11] (fun _ _ _ i wr => ∃ k : Nat, k ≤ n ∧ i = .int .i64 k ∧ Rw.Inv w b st0 L k wr) (fun _ _ _ i _ => n - (intOf i).toNat)
  case atStart => exact ⟨0, Nat.zero_le _, rfl, st0, rfl, hI, Below.refl _ _⟩
  case round =>
    obtain ⟨k, hk, rfl, st, hs, hR, hbel⟩ := hrel
    by_cases hlt : k < n
    · obtain ⟨x, hx⟩ : ∃ x, L[k]? = some x := ⟨_, List.getElem?_eq_getElem (by rw [HN.out]; exact hlt)⟩
      obtain ⟨st', h1, h2⟩ := Rw.steps_take HST.out hx hs
      obtain ⟨ab, ao, rfl, hab, hac⟩ := HA.out (by rw [List.length_map, HN.out]; omega)
      have hc := hac k (by rw [List.length_map, HN.out]; exact hlt)
      rw [List.getElem?_map, hx, Option.map_some, ← (bcell hbel).1 _ _ hab] at hc
      have hxl := HL.out x (List.mem_of_getElem? hx)
      obtain ⟨bx, hbx⟩ : ∃ bx : ByteArray, ⟨x.toArray⟩ = bx := ⟨_, rfl⟩
      rw [hbx] at hc
      have hsl := Rw.steps_len _ hs
      rw [H0.out, List.length_take] at hsl
      have hline := fun W (e : W = wr) => Rw.line_any b st st' bx w0 W hL h0 (by rw [e]; exact HB.out.trans (hbel.mono h0)) (by rw [e]; exact hR) (by rw [← hbx]; show x.toArray.size ≤ _; simpa using hxl) (by omega) (by rw [← hbx]; exact h1)
      have HX := Lib.hid h2
      have HBEL := Lib.hid hbel
      have hlt1 : (k : Int) < n := by omega
      clear hac hx hs hR h1 h2 hbel hbx hsl hxl
      go_wp2_with fail
      refine (hline _ rfl).mono ?_
      rintro e w2 ⟨rfl, hR2, hb2⟩
      have HR2 := Lib.hid hR2
      have HB2 := Lib.hid hb2
      clear hR2 hb2 hline
      go_wp2_with fail
      exact ⟨⟨k + 1, by omega, by go_num, st', HX.out, HR2.out, HBEL.out.trans HB2.out⟩, by simp [intOf]; omega⟩
    · obtain rfl : k = n := by omega
      have hkk : ¬ (k : Int) < k := by omega
      have hfin : st = stf := by
        rw [List.take_of_length_le (by rw [HN.out]; exact Nat.le_refl _), HST.out, Option.some.injEq] at hs
        exact hs.symm
      subst hfin
      have HR2 := Lib.hid hR
      have HB2 := Lib.hid hbel
      clear hs hR hbel
      go_wp2_with fail
      go_ret2
      exact ⟨rfl, HR2.out, HB2.out⟩

/-- What Parse answers of a text whose rows may be. -/
def Rw.RetParse (rs : List Rw.Row) (w : World) (e : Ending) (w' : World) : Prop :=
  ∃ A c, e = .returned (.tuple #[.slice A rs.length c, .nilIface]) ∧ Rw.Tab w' A rs ∧ Below w.heap.size w w'
theorem Rw.parse_some {s : List UInt8} {rs : List Rw.Row} (h : Rw.parse s = some rs) : (Rw.lns [] s).all Rw.okl = true ∧ (Rw.lns [] s).length ≤ 40000 ∧ ∃ c, Rw.steps ([], -1, []) (Rw.lns [] s) = some (rs, c, []) := by
  unfold Rw.parse at h
  split at h
  · rename_i h0
    obtain ⟨h0, h1⟩ := h0
    refine ⟨h0, h1, ?_⟩
    rcases hs : Rw.steps ([], -1, []) (Rw.lns [] s) with _ | ⟨rs', c, o⟩
    · rw [hs] at h; cases h
    · rw [hs, Option.bind_some] at h
      split at h
      · rename_i ho
        simp only at ho
        subst ho
        simp only [Option.some.injEq] at h
        subst h
        exact ⟨c, rfl⟩
      · cases h
  · cases h

set_option maxRecDepth 100000 in
set_option maxHeartbeats 4000000 in
theorem Rw.parse_any (s : ByteArray) (hs : s.size ≤ 1000000) (rs : List Rw.Row) (hp : Rw.parse s.data.toList = some rs) (w : World) (hL : Rw.Laid w) :
    Calls Tryz.prog 64 #[.string s] w (Rw.RetParse rs w) := by
  obtain ⟨hok, hmax, cN, hst⟩ := Rw.parse_some hp
  have hLn := Rw.lines_any s hs hok
  have hl : ∀ x ∈ Rw.lns [] s.data.toList, x.length ≤ 1000 := fun x hx => by
    rw [List.all_eq_true] at hok
    have := hok x hx
    unfold Rw.okl at this
    rw [Bool.and_eq_true, decide_eq_true_eq] at this
    exact this.1
  obtain ⟨L, hLe⟩ : ∃ L, Rw.lns [] s.data.toList = L := ⟨_, rfl⟩
  rw [hLe] at hst hLn hmax hl
  have hsl := Rw.steps_len _ hst
  simp only [List.length_nil, Nat.zero_add] at hsl
  have HST := Lib.hid hst
  have HLL := Lib.hid hl
  clear hok hp hLe hst hl
  go_enter Tryz.func64, Tryz.ntmps64
  go_wp2_with fail
  refine (hLn _).mono ?_
  rintro e w1 ⟨A, c, rfl, hA, hb1⟩
  have hL1 := hL.next hb1
  have hmx : ¬ (40000 : Int) < (L.length : Int) := by omega
  have hat := Rw.At.new w1 171 [.slice none 0 0, .int .i32 (-1), .string ⟨#[]⟩]
  have hea := fun W (e : W = w1.alloc (.cells #[.slice none 0 0, .int .i32 (-1), .string ⟨#[]⟩] 171)) => Rw.each_any w1.heap.size ([], -1, []) (rs, cN, []) L A L.length c w1 W hL1 (Nat.le_refl _)
    (by rw [e]; exact (Below.refl _ _).alloc (Nat.le_refl _) _) (by rw [e]; exact ⟨.slice none 0 0, [], hat, World.ownsRow_nil _ _ _ _, rfl, fun i r a h => by simp at h⟩) rfl rfl (by omega) HLL.out (by rw [e]; exact hA.below ((Below.refl _ _).alloc (Nat.le_refl _) _) (Nat.le_refl _)) (by rw [e]; simp) HST.out
  have HB1 := Lib.hid hb1
  clear hA hb1 hLn hat
  go_wp2_with fail
  refine (hea _ rfl).mono ?_
  rintro e w2 ⟨rfl, ⟨v, ads, hat, hown, has, hmaps⟩, hb2⟩
  simp only at hat hown has hmaps
  obtain ⟨Av, cv, rfl⟩ := own_form hown
  obtain ⟨d1, d2, d3, d4, d5, d6⟩ := hat.three
  have HOWN := Lib.hid hown
  have HMAPS := Lib.hid hmaps
  have HB2 := Lib.hid hb2
  clear hown hmaps hb2 hea
  go_wp2_with fail
  go_ret2
  exact ⟨Av, cv, rfl, ⟨ads, has, Slt.of_own HOWN.out, HMAPS.out⟩, HB1.out.trans ((((Below.refl w1.heap.size w1).alloc (Nat.le_refl _) _).trans HB2.out).mono HB1.out.size)⟩
end Go.Proofs.YtkmfegamblmpeaaGreatDoor

/- Layer excl, plain: characters of lines, with notes and blanks; no program in sight. -/
namespace Go.Proofs.YtkmfegamblmpeaaGreatDoor
open Go.RowKit Go.Stop
set_option linter.unusedSimpArgs false
set_option linter.unusedVariables false

/-- What a line adds. -/
def Ex.line (seen : List Int) (l : List UInt8) : Option (List Int) :=
  if Fi.strip l = [] then some seen else (Fi.hex (Fi.strip l)).bind fun c => if C.isC c = true ∧ c ∉ seen then some (seen ++ [c]) else none
def Ex.steps : List Int → List (List UInt8) → Option (List Int)
  | seen, [] => some seen
  | seen, l :: r => (Ex.line seen l).bind fun s => Ex.steps s r
def Ex.parse (s : List UInt8) : Option (List Int) := if (Rw.lns [] s).all Rw.okl = true ∧ (Rw.lns [] s).length ≤ 100000 then Ex.steps [] (Rw.lns [] s) else none
theorem Ex.steps_app : ∀ (a b : List (List UInt8)) (s : List Int), Ex.steps s (a ++ b) = (Ex.steps s a).bind fun s' => Ex.steps s' b
  | [], b, s => rfl
  | l :: a, b, s => by
    rw [List.cons_append, Ex.steps, Ex.steps]
    rcases Ex.line s l with _ | s'
    · rfl
    · exact Ex.steps_app a b s'
theorem Ex.steps_take {s0 sf s : List Int} {L : List (List UInt8)} {k : Nat} {x : List UInt8} (h : Ex.steps s0 L = some sf) (hx : L[k]? = some x) (hs : Ex.steps s0 (L.take k) = some s) :
    ∃ s', Ex.line s x = some s' ∧ Ex.steps s0 (L.take (k + 1)) = some s' := by
  have hk := (List.getElem?_eq_some_iff.1 hx).1
  have e : L.take k ++ x :: L.drop (k + 1) = L := by
    have := List.take_append_drop k L
    rw [List.drop_eq_getElem_cons hk] at this
    rw [List.getElem?_eq_getElem hk, Option.some.injEq] at hx
    rw [hx] at this
    exact this
  rw [← e, Ex.steps_app, hs, Option.bind_some, Ex.steps] at h
  rcases hst : Ex.line s x with _ | s'
  · rw [hst] at h; cases h
  · refine ⟨s', rfl, ?_⟩
    rw [List.take_add_one, hx, Ex.steps_app, hs]
    show Ex.steps s [x] = some s'
    rw [Ex.steps, hst]
    rfl
theorem Ex.line_some {s s' : List Int} {l : List UInt8} (h : Ex.line s l = some s') : (Fi.strip l = [] ∧ s' = s) ∨ ∃ c, Fi.strip l ≠ [] ∧ Fi.hex (Fi.strip l) = some c ∧ C.isC c = true ∧ c ∉ s ∧ s' = s ++ [c] := by
  unfold Ex.line at h
  split at h
  · rename_i h0
    simp only [Option.some.injEq] at h
    exact .inl ⟨h0, h.symm⟩
  · rename_i h0
    rcases hc : Fi.hex (Fi.strip l) with _ | c
    · rw [hc] at h; cases h
    · rw [hc, Option.bind_some] at h
      split at h
      · rename_i h1
        simp only [Option.some.injEq] at h
        exact .inr ⟨c, h0, rfl, h1.1, h1.2, h.symm⟩
      · cases h
theorem Ex.steps_len : ∀ (L : List (List UInt8)) {s s' : List Int}, Ex.steps s L = some s' → s'.length ≤ s.length + L.length
  | [], s, s', h => by
    rw [Ex.steps, Option.some.injEq] at h
    subst h
    simp
  | x :: L, s, s', h => by
    rw [Ex.steps] at h
    rcases hs : Ex.line s x with _ | q
    · rw [hs] at h; cases h
    · rw [hs, Option.bind_some] at h
      have h2 := Ex.steps_len L h
      rcases Ex.line_some hs with ⟨_, rfl⟩ | ⟨c, _, _, _, _, rfl⟩
      · simp; omega
      · simp at h2 ⊢; omega

/-- A character's line, with blanks and a note. -/
def Ex.ln (p : List UInt8) (i : Nat) (c : Int) : List UInt8 := (if i % 2 = 0 then [32, 32] else []) ++ (Fi.text c.toNat ++ ([32, 32, 35] ++ p))
def Ex.body (p : List UInt8) : Nat → List Int → List (List UInt8)
  | _, [] => []
  | i, c :: r => Ex.ln p i c :: [32, 32, 32] :: Ex.body p (i + 1) r
/-- The whole text's lines. -/
def Ex.all (p : List UInt8) (l : List Int) : List (List UInt8) := ([35, 32] ++ p) :: [] :: Ex.body p 0 l
end Go.Proofs.YtkmfegamblmpeaaGreatDoor

/- The layer excl: char, Parse, by walking their texts. -/
namespace Go.Proofs.YtkmfegamblmpeaaGreatDoor
open Go.RowKit
set_option linter.unusedSimpArgs false
set_option linter.unusedVariables false

set_option maxHeartbeats 1000000 in
/-- slices.Index of what is not there. -/
theorem Ex.index_any (A : Option Addr) (n cp B : Nat) (l : List Int) (c : Int) (w : World) (hn : l.length = n) (hN : n ≤ 1000000) (hB : B ≤ w.heap.size) (hA : Sl w B A (l.map (Value.int .i32))) (hc : c ∉ l) :
    Calls Tryz.prog 150 #[.slice A n cp, .int .i32 c] w fun e w' => e = .returned (.int .i64 (-1)) ∧ w' = w := by
  have HN := Lib.hid hn
  have HC := Lib.hid hc
  clear hn hc
  go_enter Tryz.func150, Tryz.ntmps150
  go_wp2_with fail
  go_loop [5, 8] (fun _ i => ∃ k : Nat, k ≤ n ∧ i = .int .i64 k) (fun _ i => n - (intOf i).toNat)
  case atStart => exact ⟨0, Nat.zero_le _, rfl⟩
  case round =>
    obtain ⟨k, hk, rfl⟩ := hrel
    by_cases hlt : k < n
    · obtain ⟨x, hx⟩ : ∃ x, l[k]? = some x := ⟨_, List.getElem?_eq_getElem (by rw [HN.out]; exact hlt)⟩
      obtain ⟨b, o, rfl, hb, hcell⟩ := hA (by rw [List.length_map, HN.out]; omega)
      have h1 := hcell k (by rw [List.length_map, HN.out]; exact hlt)
      rw [List.getElem?_map, hx, Option.map_some] at h1
      have hne : (c == x) = false := by
        have : c ≠ x := fun e => HC.out (by rw [e]; exact List.mem_of_getElem? hx)
        simpa using this
      have kI : (k : Int) < n := by omega
      have k0 : (0 : Int) ≤ (k : Int) := by omega
      clear hcell hx
      go_wp2_with fail
      exact ⟨⟨k + 1, by omega, by go_num⟩, by simp [intOf]; omega⟩
    · obtain rfl : k = n := by omega
      have kI : ¬ (k : Int) < k := by omega
      go_wp2_with fail
      go_ret
      exact ⟨rfl, rfl⟩
theorem Ex.contains_any (A : Option Addr) (n cp B : Nat) (l : List Int) (c : Int) (w : World) (hn : l.length = n) (hN : n ≤ 1000000) (hB : B ≤ w.heap.size) (hA : Sl w B A (l.map (Value.int .i32))) (hc : c ∉ l) :
    Calls Tryz.prog 127 #[.slice A n cp, .int .i32 c] w fun e w' => e = .returned (.bool false) ∧ w' = w := by
  have h := Ex.index_any A n cp B l c w hn hN hB hA hc
  clear hn hc hA
  go_enter Tryz.func127, Tryz.ntmps127
  go_wp2_with fail
  refine h.mono ?_
  rintro e w1 ⟨rfl, rfl⟩
  go_wp2_with fail
  go_ret
  exact ⟨rfl, rfl⟩

set_option maxHeartbeats 1000000 in
theorem Ex.char_any (s : ByteArray) (A : Option Addr) (n cp B : Nat) (l : List Int) (c : Int) (w : World) (hs : s.size ≤ 1000000) (hn : l.length = n) (hN : n ≤ 1000000) (hB : B ≤ w.heap.size) (hA : Sl w B A (l.map (Value.int .i32)))
    (hx : Fi.hex s.data.toList = some c) (hi : C.isC c = true) (hc : c ∉ l) :
    Calls Tryz.prog 95 #[.string s, .slice A n cp] w fun e w' => e = .returned (.tuple #[.int .i32 c, .string ⟨#[]⟩]) ∧ w' = w := by
  have h1 : ∀ W : World, Calls Tryz.prog 126 #[.string s] W fun e w' => e = .returned (.tuple #[.int .i32 c, .bool true]) ∧ w' = W := fun W => (Fi.hex_any s W).mono fun e w' h => ⟨by
    have := h.1
    unfold Fi.RetHex at this
    rw [this, hx]; rfl, h.2⟩
  have h2 := C.utfis_any c
  rw [hi] at h2
  have h3 := fun (W : World) (e : W = w) => Ex.contains_any A n cp B l c W hn hN (by rw [e]; exact hB) (by rw [e]; exact hA) hc
  clear hx hi hc hA hn
  go_enter Tryz.func95, Tryz.ntmps95
  go_wp2_with fail
  refine (h1 _).mono ?_
  rintro e w1 ⟨rfl, rfl⟩
  go_wp2_with fail
  refine (h2 _).mono ?_
  rintro e w1 ⟨rfl, rfl⟩
  go_wp2_with fail
  refine (h3 _ rfl).mono ?_
  rintro e w1 ⟨rfl, rfl⟩
  go_wp2_with fail
  go_ret2
  exact ⟨rfl, rfl⟩

theorem Ex.drop_le (c : UInt8) : ∀ l : List UInt8, (l.dropWhile (· == c)).length ≤ l.length
  | [] => Nat.le_refl _
  | b :: l => by
    rw [List.dropWhile_cons]
    split
    · have := Ex.drop_le c l; simp; omega
    · exact Nat.le_refl _
theorem Ex.strip_le (x : List UInt8) : (Lib.trimB (Lib.cut x [35]).1 32).length ≤ x.length := by
  have h1 : (Lib.cut x [35]).1.length ≤ x.length := by unfold Lib.cut; split <;> simp <;> omega
  rw [Fi.trim_comm]
  unfold Lib.trimRightB Lib.trimLeftB
  rw [List.length_reverse]
  have h2 := Ex.drop_le 32 ((Lib.cut x [35]).1.dropWhile (· == 32)).reverse
  have h3 := Ex.drop_le 32 (Lib.cut x [35]).1
  rw [List.length_reverse] at h2
  omega
/-- What Parse answers of a text whose characters may be. -/
def Ex.RetParse (cs : List Int) (w : World) (e : Ending) (w' : World) : Prop :=
  ∃ A c, e = .returned (.tuple #[.agg #[.slice A (C.chars cs).length c], .nilIface]) ∧ Slt w' 21 A ((C.chars cs).map (Value.int .i32)) ∧ Below w.heap.size w w'

set_option maxRecDepth 100000 in
set_option maxHeartbeats 4000000 in
theorem Ex.parse_any (s : ByteArray) (hs : s.size ≤ 300000) (cs : List Int) (hp : Ex.parse s.data.toList = some cs) (w : World) (hL : Fi.LaidM w) :
    Calls Tryz.prog 65 #[.string s] w (Ex.RetParse cs w) := by
  unfold Ex.parse at hp
  split at hp
  case isFalse => cases hp
  rename_i h0
  obtain ⟨hok, hmax⟩ := h0
  have hLn := Rw.lines_any s (by omega) hok
  have hl : ∀ x ∈ Rw.lns [] s.data.toList, x.length ≤ 1000 := fun x hx => by
    rw [List.all_eq_true] at hok
    have := hok x hx
    unfold Rw.okl at this
    rw [Bool.and_eq_true, decide_eq_true_eq] at this
    exact this.1
  obtain ⟨L, hLe⟩ : ∃ L, Rw.lns [] s.data.toList = L := ⟨_, rfl⟩
  rw [hLe] at hp hLn hmax hl
  obtain ⟨n, hn⟩ : ∃ n, L.length = n := ⟨_, rfl⟩
  have HP := Lib.hid hp
  have HLL := Lib.hid hl
  have HN := Lib.hid hn
  obtain ⟨i0, hi, hi0, hi1, hi2⟩ := info_parts infoRune
  rw [hn] at hmax
  unfold Rw.RetLines at hLn
  rw [hn] at hLn
  clear hok hp hLe hl hn
  go_enter Tryz.func65, Tryz.ntmps65
  go_wp2_with fail
  refine (hLn _).mono ?_
  rintro e w1 ⟨A, c, rfl, hA, hb1⟩
  have hw0 : Below w.heap.size w w1 := ((Below.refl _ _).alloc (Nat.le_refl _) _).trans (hb1.mono (by simp))
  have hat : Rw.At w1 w.heap.size 41 [.slice none 0 0] := (Rw.At.new w 41 [.slice none 0 0]).below hb1
  have HL1 := Lib.hid (hL.below hw0)
  have HA := Lib.hid hA
  have HW0 := Lib.hid hw0
  clear hA hb1 hL hLn hw0
  go_wp2_with fail
  go_loopw [6, 7, 8, 9, 10, 22] (fun v _ _ _ _ i wr => ∃ (k : Nat) (seen : List Int), k ≤ n ∧ i = .int .i64 k ∧ Ex.steps [] (L.take k) = some seen ∧ wr.ownsRow w1.heap.size 21 1 v seen.length (seen.map (Value.int .i32)) ∧ Below w1.heap.size w1 wr)
    (fun _ _ _ _ _ i _ => n - (intOf i).toNat)
  case atStart => exact ⟨0, [], Nat.zero_le _, rfl, rfl, World.ownsRow_nil _ _ _ _, Below.refl _ _⟩
  case round =>
    obtain ⟨k, seen, hk, rfl, hst, hown, hbel⟩ := hrel
    have hz := hbel.size
    have hsl := Ex.steps_len _ hst
    simp only [List.length_nil, Nat.zero_add] at hsl
    have hkl : (L.take k).length ≤ k := List.length_take_le _ _
    by_cases hlt : k < n
    · obtain ⟨x, hx⟩ : ∃ x, L[k]? = some x := ⟨_, List.getElem?_eq_getElem (by rw [HN.out]; exact hlt)⟩
      obtain ⟨seen', h1, h2⟩ := Ex.steps_take HP.out hx hst
      obtain ⟨ab, ao, rfl, hab, hac⟩ := HA.out (by rw [List.length_map, HN.out]; omega)
      have hc := hac k (by rw [List.length_map, HN.out]; exact hlt)
      rw [List.getElem?_map, hx, Option.map_some, ← (bcell hbel).1 _ _ hab] at hc
      have hxl := HLL.out x (List.mem_of_getElem? hx)
      have hS := Fi.strip_any ⟨x.toArray⟩ (by show x.toArray.size < _; simp; omega) wr (HL1.out.below hbel)
      rw [show (⟨x.toArray⟩ : ByteArray).data.toList = x from rfl] at hS
      obtain ⟨bx, hbx⟩ : ∃ bx : ByteArray, ⟨x.toArray⟩ = bx := ⟨_, rfl⟩
      rw [hbx] at hc hS
      obtain ⟨sx, hsx⟩ : ∃ sx : ByteArray, ⟨(Fi.strip x).toArray⟩ = sx := ⟨_, rfl⟩
      rw [hsx] at hS
      have hsd : sx.data.toList = Fi.strip x := by rw [← hsx]
      have kI : (k : Int) < n := by omega
      have habr : ab < wr.heap.size := by omega
      have HX := Lib.hid h2
      have HBEL := Lib.hid hbel
      have HOWN := Lib.hid hown
      have HH := Lib.hid h1
      have HSD := Lib.hid hsd
      have hss : sx.size ≤ 1000000 := by
        have h3 : sx.data.toList.length = sx.size := by simp
        have h4 : (Fi.strip x).length ≤ x.length := by
          unfold Fi.strip
          exact Ex.strip_le x
        rw [hsd] at h3
        omega
      clear hac hx h1 h2 hbel hbx hsx hown hst hsd
      go_wp2_with fail
      refine hS.mono ?_
      rintro e w2 ⟨rfl, hb2⟩
      have hown2 := own_below HOWN.out hb2 (Nat.le_refl _)
      have HB2 := Lib.hid (HBEL.out.trans (hb2.mono hz))
      have hz2 : w1.heap.size ≤ w2.heap.size := Nat.le_trans hz hb2.size
      clear hb2 hS
      rcases Ex.line_some HH.out with ⟨he, rfl⟩ | ⟨ch, hne, hhex, hisC, hnot, rfl⟩
      · have hemp : sx.toList.isEmpty = true := by rw [ByteArray.toList_eq sx, HSD.out, he]; rfl
        have HOWN2 := Lib.hid hown2
        clear he hown2
        go_wp2_with fail
        exact ⟨⟨k + 1, _, by omega, by go_num, HX.out, HOWN2.out, HB2.out⟩, by simp [intOf]; omega⟩
      · have hemp : sx.toList.isEmpty = false := by
          rw [ByteArray.toList_eq sx, HSD.out]
          rcases hl : Fi.strip x with _ | ⟨q, r⟩
          · exact absurd hl hne
          · rfl
        obtain ⟨Av, cv, rfl⟩ := own_form hown2
        have hCH := Ex.char_any sx Av seen.length cv w2.heap.size seen ch w2 hss rfl (by omega) (Nat.le_refl _) (Sl.of_own hown2) (by rw [HSD.out]; exact hhex) hisC hnot
        have HOWN2 := Lib.hid hown2
        clear hne hhex hisC hnot hown2
        go_wp2_with fail
        refine hCH.mono ?_
        rintro e w3 ⟨rfl, rfl⟩
        go_wp2_with (first | (at_builtin; refine wpList_push1 _ rfl _ _ _ rfl w1.heap.size 21 i0 _ 4 Tryz.underlying36 hi hi0 hi1 hi2 rfl _ seen.length _ rfl HOWN2.out _ rfl rfl (by simp only [maxLen]; omega) (by omega) hz2 ?_; intro v1 w4 hown4 hb4) | fail)
        exact ⟨⟨k + 1, _, by omega, by go_num, HX.out, by rw [List.length_append, List.map_append]; exact hown4, HB2.out.trans hb4⟩, by simp [intOf]; omega⟩
    · obtain rfl : k = n := by omega
      have kI : ¬ (k : Int) < k := by omega
      have hfin : seen = cs := by
        rw [List.take_of_length_le (by rw [HN.out]; exact Nat.le_refl _), HP.out, Option.some.injEq] at hst
        exact hst.symm
      subst hfin
      obtain ⟨Av, cv, rfl⟩ := own_form hown
      have hCH := C.chars_any Av seen.length cv wr.heap.size seen wr rfl (by omega) (Nat.le_refl _) (Sl.of_own hown)
      have hatr := hat.below hbel
      have HBEL := Lib.hid (HW0.out.trans (hbel.mono HW0.out.size))
      clear hst hown hbel
      go_wp2_with fail
      refine hCH.mono ?_
      rintro e w2 ⟨A2, c2, rfl, hown2, hb2⟩
      have hat2 := hatr.below hb2
      have z0 := hat2.cell 0 rfl
      have g0 := hat2.frozen 0
      have hS2 := Slt.of_own hown2
      have HB2 := Lib.hid (HBEL.out.trans (hb2.mono HBEL.out.size))
      have HS2 := Lib.hid hS2
      clear hS2 hown2 hb2 hCH hatr
      go_wp2_with fail
      have hat3 := hat2.set 0 (.slice A2 (C.chars seen).length c2)
      refine bodyPost_ret (Rw.results2 rfl _ _ w.heap.size _ _ _ _ rfl hat3 Tryz.underlying41 rfl (by kernel_rfl)) rfl ⟨A2, c2, rfl, ?_, ?_⟩
      · exact HS2.out.setAt hat2 (by decide) 0 _
      · exact HB2.out.setCell (p := ⟨w.heap.size, 0, none⟩) (Nat.le_refl _) _
end Go.Proofs.YtkmfegamblmpeaaGreatDoor
