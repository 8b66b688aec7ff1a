/- The layer rows: each, Parse, by walking their texts. -/
import Derived.Test.YtppmcnpjglackaaGreatDoorRwLine
namespace Go.Proofs.YtppmcnpjglackaaGreatDoor
open Go.RowKit
set_option linter.unusedSimpArgs false
set_option linter.unusedVariables false

theorem Rw.steps_take {st0 stf st : Rw.St} {L : List (List UInt8)} {k : Nat} {x : List UInt8} (h : Rw.steps st0 L = some stf) (hx : L[k]? = some x) (hs : Rw.steps st0 (L.take k) = some st) :
    ∃ st', Rw.step st x = some st' ∧ Rw.steps st0 (L.take (k + 1)) = some st' := by
  have hk := (List.getElem?_eq_some_iff.1 hx).1
  have e : L.take k ++ x :: L.drop (k + 1) = L := by
    have := List.take_append_drop k L
    rw [List.drop_eq_getElem_cons hk] at this
    rw [List.getElem?_eq_getElem hk, Option.some.injEq] at hx
    rw [hx] at this
    exact this
  rw [← e, Rw.steps_app, hs, Option.bind_some, Rw.steps] at h
  rcases hst : Rw.step st x with _ | st'
  · rw [hst] at h; cases h
  · refine ⟨st', rfl, ?_⟩
    rw [List.take_add_one, hx, Rw.steps_app, hs]
    show Rw.steps st [x] = some st'
    rw [Rw.steps, hst]
    rfl
theorem Rw.step_len {st st' : Rw.St} {x : List UInt8} (h : Rw.step st x = some st') : st'.1.length ≤ st.1.length + 1 := by
  obtain ⟨r, o, _, _, _, _, rfl⟩ := Rw.step_some h
  show (if Rw.quiet r = true then st.1 else st.1 ++ [r]).length ≤ _
  split
  · omega
  · simp
theorem Rw.steps_len : ∀ (L : List (List UInt8)) {st st' : Rw.St}, Rw.steps st L = some st' → st'.1.length ≤ st.1.length + L.length
  | [], st, st', h => by
    rw [Rw.steps, Option.some.injEq] at h
    subst h
    simp
  | x :: L, st, st', h => by
    rw [Rw.steps] at h
    rcases hs : Rw.step st x with _ | s
    · rw [hs] at h; cases h
    · rw [hs, Option.bind_some] at h
      have h1 := Rw.step_len hs
      have h2 := Rw.steps_len L h
      simp
      omega

/-- What each answers where all lines may be. -/
def Rw.RetEach (b : Nat) (st : Rw.St) (w : World) (e : Ending) (w' : World) : Prop := e = .returned (.tuple #[.int .i64 0, .string ⟨#[]⟩]) ∧ Rw.Rd w' b st ∧ Below b w w'
def Rw.Inv (w : World) (b : Nat) (st0 : Rw.St) (L : List (List UInt8)) (k : Nat) (wr : World) : Prop := ∃ st, Rw.steps st0 (L.take k) = some st ∧ Rw.Rd wr b st ∧ Below b w wr

set_option maxRecDepth 100000 in
set_option maxHeartbeats 4000000 in
theorem Rw.each_any (b : Nat) (st0 stf : Rw.St) (L : List (List UInt8)) (A : Option Addr) (n cp : Nat) (w0 w : World) (hL : Rw.Laid w0) (h0 : w0.heap.size ≤ b) (hB0 : Below w0.heap.size w0 w) (hI : Rw.Rd w b st0) (hlen : st0.1.length = 0)
    (hLn : L.length = n) (hn : n ≤ 100000) (hl : ∀ x ∈ L, x.length ≤ 1000) (hA : Sl w b A (L.map fun x => Value.string ⟨x.toArray⟩)) (hbl : b < w.heap.size)
    (hst : Rw.steps st0 L = some stf) : Calls Tryz.prog 27 #[.slice A n cp, .func (.func 28) #[.pointer (some ⟨b, 0, none⟩)] #[]] w (Rw.RetEach b stf w) := by
  have HL := Lib.hid hl
  have HN := Lib.hid hLn
  have HST := Lib.hid hst
  have HB := Lib.hid hB0
  have H0 := Lib.hid hlen
  have HA := Lib.hid hA
  clear hl hLn hst hB0 hlen hA
  go_enter Tryz.func27, Tryz.ntmps27
  go_wp2_with fail
  go_loopw [6, 7, 8, 11] (fun _ _ _ i wr => ∃ k : Nat, k ≤ n ∧ i = .int .i64 k ∧ Rw.Inv w b st0 L k wr) (fun _ _ _ i _ => n - (intOf i).toNat)
  case atStart => exact ⟨0, Nat.zero_le _, rfl, st0, rfl, hI, Below.refl _ _⟩
  case round =>
    obtain ⟨k, hk, rfl, st, hs, hR, hbel⟩ := hrel
    by_cases hlt : k < n
    · obtain ⟨x, hx⟩ : ∃ x, L[k]? = some x := ⟨_, List.getElem?_eq_getElem (by rw [HN.out]; exact hlt)⟩
      obtain ⟨st', h1, h2⟩ := Rw.steps_take HST.out hx hs
      obtain ⟨ab, ao, rfl, hab, hac⟩ := HA.out (by rw [List.length_map, HN.out]; omega)
      have hc := hac k (by rw [List.length_map, HN.out]; exact hlt)
      rw [List.getElem?_map, hx, Option.map_some, ← (bcell hbel).1 _ _ hab] at hc
      have hxl := HL.out x (List.mem_of_getElem? hx)
      obtain ⟨bx, hbx⟩ : ∃ bx : ByteArray, ⟨x.toArray⟩ = bx := ⟨_, rfl⟩
      rw [hbx] at hc
      have hsl := Rw.steps_len _ hs
      rw [H0.out, List.length_take] at hsl
      have hline := fun W (e : W = wr) => Rw.line_any b st st' bx w0 W hL h0 (by rw [e]; exact HB.out.trans (hbel.mono h0)) (by rw [e]; exact hR) (by rw [← hbx]; show x.toArray.size ≤ _; simpa using hxl) (by omega) (by rw [← hbx]; exact h1)
      have HX := Lib.hid h2
      have HBEL := Lib.hid hbel
      have hlt1 : (k : Int) < n := by omega
      clear hac hx hs hR h1 h2 hbel hbx hsl hxl
      go_wp2_with fail
      refine (hline _ rfl).mono ?_
      rintro e w2 ⟨rfl, hR2, hb2⟩
      have HR2 := Lib.hid hR2
      have HB2 := Lib.hid hb2
      clear hR2 hb2 hline
      go_wp2_with fail
      exact ⟨⟨k + 1, by omega, by go_num, st', HX.out, HR2.out, HBEL.out.trans HB2.out⟩, by simp [intOf]; omega⟩
    · obtain rfl : k = n := by omega
      have hkk : ¬ (k : Int) < k := by omega
      have hfin : st = stf := by
        rw [List.take_of_length_le (by rw [HN.out]; exact Nat.le_refl _), HST.out, Option.some.injEq] at hs
        exact hs.symm
      subst hfin
      have HR2 := Lib.hid hR
      have HB2 := Lib.hid hbel
      clear hs hR hbel
      go_wp2_with fail
      go_ret2
      exact ⟨rfl, HR2.out, HB2.out⟩

/-- Rows that lie in memory. -/
def Rw.Tab (w : World) (A : Option Addr) (rs : List Rw.Row) : Prop := ∃ ads, ads.length = rs.length ∧ Slt w 31 A (Rw.fl rs ads) ∧ Rw.Maps w rs ads
/-- What Parse answers of a text whose rows may be. -/
def Rw.RetParse (rs : List Rw.Row) (w : World) (e : Ending) (w' : World) : Prop :=
  ∃ A c, e = .returned (.tuple #[.slice A rs.length c, .nilIface]) ∧ Rw.Tab w' A rs ∧ Below w.heap.size w w'
theorem Rw.parse_some {s : List UInt8} {rs : List Rw.Row} (h : Rw.parse s = some rs) : (Rw.lns [] s).all Rw.okl = true ∧ (Rw.lns [] s).length ≤ 40000 ∧ ∃ c, Rw.steps ([], -1, []) (Rw.lns [] s) = some (rs, c, []) := by
  unfold Rw.parse at h
  split at h
  · rename_i h0
    obtain ⟨h0, h1⟩ := h0
    refine ⟨h0, h1, ?_⟩
    rcases hs : Rw.steps ([], -1, []) (Rw.lns [] s) with _ | ⟨rs', c, o⟩
    · rw [hs] at h; cases h
    · rw [hs, Option.bind_some] at h
      split at h
      · rename_i ho
        simp only at ho
        subst ho
        simp only [Option.some.injEq] at h
        subst h
        exact ⟨c, rfl⟩
      · cases h
  · cases h

set_option maxRecDepth 100000 in
set_option maxHeartbeats 4000000 in
theorem Rw.parse_any (s : ByteArray) (hs : s.size ≤ 1000000) (rs : List Rw.Row) (hp : Rw.parse s.data.toList = some rs) (w : World) (hL : Rw.Laid w) :
    Calls Tryz.prog 10 #[.string s] w (Rw.RetParse rs w) := by
  obtain ⟨hok, hmax, cN, hst⟩ := Rw.parse_some hp
  have hLn := Rw.lines_any s hs hok
  have hl : ∀ x ∈ Rw.lns [] s.data.toList, x.length ≤ 1000 := fun x hx => by
    rw [List.all_eq_true] at hok
    have := hok x hx
    unfold Rw.okl at this
    rw [Bool.and_eq_true, decide_eq_true_eq] at this
    exact this.1
  obtain ⟨L, hLe⟩ : ∃ L, Rw.lns [] s.data.toList = L := ⟨_, rfl⟩
  rw [hLe] at hst hLn hmax hl
  have hsl := Rw.steps_len _ hst
  simp only [List.length_nil, Nat.zero_add] at hsl
  have HST := Lib.hid hst
  have HLL := Lib.hid hl
  clear hok hp hLe hst hl
  go_enter Tryz.func10, Tryz.ntmps10
  go_wp2_with fail
  refine (hLn _).mono ?_
  rintro e w1 ⟨A, c, rfl, hA, hb1⟩
  have hL1 := hL.next hb1
  have hmx : ¬ (40000 : Int) < (L.length : Int) := by omega
  have hat := Rw.At.new w1 62 [.slice none 0 0, .int .i32 (-1), .string ⟨#[]⟩]
  have hea := fun W (e : W = w1.alloc (.cells #[.slice none 0 0, .int .i32 (-1), .string ⟨#[]⟩] 62)) => Rw.each_any w1.heap.size ([], -1, []) (rs, cN, []) L A L.length c w1 W hL1 (Nat.le_refl _)
    (by rw [e]; exact (Below.refl _ _).alloc (Nat.le_refl _) _) (by rw [e]; exact ⟨.slice none 0 0, [], hat, World.ownsRow_nil _ _ _ _, rfl, fun i r a h => by simp at h⟩) rfl rfl (by omega) HLL.out (by rw [e]; exact hA.below ((Below.refl _ _).alloc (Nat.le_refl _) _) (Nat.le_refl _)) (by rw [e]; simp) HST.out
  have HB1 := Lib.hid hb1
  clear hA hb1 hLn hat
  go_wp2_with fail
  refine (hea _ rfl).mono ?_
  rintro e w2 ⟨rfl, ⟨v, ads, hat, hown, has, hmaps⟩, hb2⟩
  simp only at hat hown has hmaps
  obtain ⟨Av, cv, rfl⟩ := own_form hown
  obtain ⟨d1, d2, d3, d4, d5, d6⟩ := hat.three
  have HOWN := Lib.hid hown
  have HMAPS := Lib.hid hmaps
  have HB2 := Lib.hid hb2
  clear hown hmaps hb2 hea
  go_wp2_with fail
  go_ret2
  exact ⟨Av, cv, rfl, ⟨ads, has, Slt.of_own HOWN.out, HMAPS.out⟩, HB1.out.trans ((((Below.refl w1.heap.size w1).alloc (Nat.le_refl _) _).trans HB2.out).mono HB1.out.size)⟩
end Go.Proofs.YtppmcnpjglackaaGreatDoor
