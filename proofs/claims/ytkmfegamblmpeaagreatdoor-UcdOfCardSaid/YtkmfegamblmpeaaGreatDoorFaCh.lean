/- The layer model: what is wrong with a row, by walking its text. -/
import Derived.Test.YtkmfegamblmpeaaGreatDoorCpUtf
import Derived.Test.YtkmfegamblmpeaaGreatDoorUdPlain
namespace Go.Proofs.YtkmfegamblmpeaaGreatDoor
open Go.RowKit
set_option linter.unusedSimpArgs false
set_option linter.unusedVariables false

/-- The notes: 1 row, 2 hangul, 3 target, 4 full, 5 pair. -/
def Md.note : Nat → ByteArray
  | 0 => ⟨#[]⟩
  | 1 => ⟨#[114, 111, 119]⟩
  | 2 => ⟨#[104, 97, 110, 103, 117, 108]⟩
  | 3 => ⟨#[116, 97, 114, 103, 101, 116]⟩
  | 4 => ⟨#[102, 117, 108, 108]⟩
  | _ => ⟨#[112, 97, 105, 114]⟩
def Md.tk (r : Rw.Row) (k : Nat) : Bool := (r.1 :: r.2.2.take k).any fun c => decide (Hg.ofK c ≠ 0)
def Md.st (r : Rw.Row) (k : Nat) : Bool := (r.2.2.take k).any fun c => !C.isC c
theorem Md.tk_zero (r : Rw.Row) : Md.tk r 0 = decide (Hg.ofK r.1 ≠ 0) := by simp [Md.tk]
theorem Md.tk_succ {r : Rw.Row} {k : Nat} {x : Int} (h : r.2.2[k]? = some x) : Md.tk r (k + 1) = (Md.tk r k || decide (Hg.ofK x ≠ 0)) := by
  unfold Md.tk
  rw [List.take_add_one, h, ← List.cons_append, List.any_append]
  simp
theorem Md.st_succ {r : Rw.Row} {k : Nat} {x : Int} (h : r.2.2[k]? = some x) : Md.st r (k + 1) = (Md.st r k || !C.isC x) := by
  unfold Md.st
  rw [List.take_add_one, h, List.any_append]
  simp
theorem Md.bad_of (last : Int) (r : Rw.Row) : Md.bad last r = if (!C.isC r.1 || decide (r.1 ≤ last) || decide (r.2.1 < 0) || decide (254 < r.2.1) || decide (2 < r.2.2.length)) = true then 1
    else if Md.tk r r.2.2.length = true then 2 else if Md.st r r.2.2.length = true then 3 else 0 := by
  unfold Md.bad Md.tk Md.st
  rw [List.take_length]

set_option maxRecDepth 100000 in
set_option maxHeartbeats 2000000 in
theorem Md.row_any (r : Rw.Row) (aA : Option Addr) (ac : Nat) (last : Int) (w : World) (hr : -2147483648 ≤ r.1 ∧ r.1 ≤ 2147483647) (hl0 : -2147483648 ≤ last ∧ last ≤ 2147483647) (hm : ∀ c ∈ r.2.2, -2147483648 ≤ c ∧ c ≤ 2147483647) (hl : r.2.2.length ≤ 1000000) (hM : Sl w w.heap.size aA (r.2.2.map (Value.int .i32))) :
    Calls Tryz.prog 79 #[Md.rv r (aA, ac), .int .i32 last] w fun e w' => e = .returned (.string (Md.note (Md.bad last r))) ∧ Below w.heap.size w w' := by
  rw [Md.bad_of]
  obtain ⟨ml, hml⟩ : ∃ k, r.2.2.length = k := ⟨_, rfl⟩
  have htk0 := Md.tk_zero r
  obtain ⟨tk0, h0⟩ : ∃ b, Md.tk r 0 = b := ⟨_, rfl⟩
  unfold Md.rv
  rw [hml] at hl ⊢
  have HML := Lib.hid hml
  obtain ⟨res, hres⟩ : ∃ n, (if (!C.isC r.1 || decide (r.1 ≤ last) || decide (r.2.1 < 0) || decide (254 < r.2.1) || decide (2 < ml)) = true then 1 else if Md.tk r ml = true then 2 else if Md.st r ml = true then 3 else 0) = n := ⟨_, rfl⟩
  rw [hres]
  have HRES := Lib.hid hres
  clear hres
  have hba : Below w.heap.size w (w.alloc (.cells #[.int .i32 r.1, .int .i64 r.2.1, .slice aA ml ac] 99)) := (Below.refl _ _).alloc (Nat.le_refl _) _
  have hat : Rw.At (w.alloc (.cells #[.int .i32 r.1, .int .i64 r.2.1, .slice aA ml ac] 99)) w.heap.size 99 [.int .i32 r.1, .int .i64 r.2.1, .slice aA ml ac] := Rw.At.new w 99 [.int .i32 r.1, .int .i64 r.2.1, .slice aA ml ac]
  have HAT := Lib.hid hat
  have HB := Lib.hid hba
  have hsl := hM.below hba hba.size
  have HS := Lib.hid hsl
  have HMB := Lib.hid hm
  have HTK0 := Lib.hid htk0
  obtain ⟨c0, c1, c2, _, _, _⟩ := hat.three
  obtain ⟨wa, hwa⟩ : ∃ wa, w.alloc (.cells #[.int .i32 r.1, .int .i64 r.2.1, .slice aA ml ac] 99) = wa := ⟨_, rfl⟩
  have hOF := Hg.of_any r.1 wa hr.1 hr.2
  have hU := C.utfis_any r.1 wa
  rw [hwa] at c0 c1 c2 hat
  have hlt := hat.lt
  have HWA := Lib.hid hwa
  have h32a := hr.1
  have h32b := hr.2
  obtain ⟨okk, hokk⟩ : ∃ k, Hg.ofK r.1 = k := ⟨_, rfl⟩
  rw [hokk] at hOF
  have htk : Md.tk r 0 = !(okk == 0) := by
    rw [htk0, hokk, Bool.eq_iff_iff]
    simp
  have HTK := Lib.hid htk
  clear hml htk0 hat hba hsl hM hm h0 hr hwa hokk htk
  go_enter Tryz.func79, Tryz.ntmps79
  go_upto_region 1 with (fail)
  rw [HWA.out]
  go_wp2_with fail
  refine hOF.mono ?_
  rintro e w0 ⟨rfl, rfl⟩
  go_wp2_with fail
  go_loop [5, 6, 16] (fun v5 v6 i => ∃ k : Nat, k ≤ ml ∧ i = .int .i64 k ∧ v5 = .bool (Md.tk r k) ∧ v6 = .bool (Md.st r k)) (fun _ _ i => ml - (intOf i).toNat)
  case atStart => exact ⟨0, Nat.zero_le _, rfl, by rw [HTK.out]; rfl, rfl⟩
  case round =>
    obtain ⟨k, hk, rfl, rfl, rfl⟩ := hrel
    by_cases hlt' : k < ml
    · obtain ⟨x, hx⟩ : ∃ x, r.2.2[k]? = some x := ⟨_, List.getElem?_eq_getElem (by rw [HML.out]; exact hlt')⟩
      have hxb := HMB.out x (List.mem_of_getElem? hx)
      obtain ⟨ab, ao, hA, hab, hac⟩ := HS.out (by rw [List.length_map, HML.out]; omega)
      have hc := hac k (by rw [List.length_map, HML.out]; exact hlt')
      rw [List.getElem?_map, hx, Option.map_some, HWA.out] at hc
      rw [HWA.out] at hab
      have h1 := Md.tk_succ hx
      have h2 := Md.st_succ hx
      have hO := Hg.of_any x wa hxb.1 hxb.2
      have hI := C.utfis_any x wa
      obtain ⟨ox, hox⟩ : ∃ k, Hg.ofK x = k := ⟨_, rfl⟩
      obtain ⟨ix, hix⟩ : ∃ k, C.isC x = k := ⟨_, rfl⟩
      obtain ⟨t, ht⟩ : ∃ b, Md.tk r k = b := ⟨_, rfl⟩
      obtain ⟨s, hs⟩ : ∃ b, Md.st r k = b := ⟨_, rfl⟩
      rw [hox] at hO h1
      rw [hix] at hI h2
      rw [ht] at h1 ⊢
      rw [hs] at h2 ⊢
      have hd : decide (ox ≠ 0) = !(ox == 0) := by rw [Bool.eq_iff_iff]; simp
      rw [hd] at h1
      have H1 := Lib.hid h1
      have H2 := Lib.hid h2
      subst hA
      clear hx hac hox hix ht hs h1 h2 hd
      have hltI : (k : Int) < ml := by omega
      cases t <;> cases s
      all_goals
        go_wp2_with (first | (go_at_call 42; refine hO.mono ?_; rintro e w' ⟨rfl, rfl⟩) | (go_at_call 49; refine hI.mono ?_; rintro e w' ⟨rfl, rfl⟩) | fail)
        go_round
        case rel => exact ⟨k + 1, by omega, by go_num, by rw [H1.out]; rfl, by rw [H2.out]; rfl⟩
        case measure => simp [intOf]; omega
    · obtain rfl : k = ml := by omega
      have hbl : Below w.heap.size w wa := by rw [← HWA.out]; exact HB.out
      have HBL := Lib.hid hbl
      obtain ⟨t, ht⟩ : ∃ b, Md.tk r k = b := ⟨_, rfl⟩
      obtain ⟨s, hs⟩ : ∃ b, Md.st r k = b := ⟨_, rfl⟩
      obtain ⟨ic, hic⟩ : ∃ b, C.isC r.1 = b := ⟨_, rfl⟩
      rw [ht, hs]
      rw [hic] at hU
      have hres := HRES.out
      rw [ht, hs, hic] at hres
      clear HRES
      have HRES := Lib.hid hres
      clear hbl ht hs hic hres
      cases ic
      · have he : 1 = res := HRES.out
        subst he
        go_wp2_with (first | (go_at_call 49; refine hU.mono ?_; rintro e w' ⟨rfl, rfl⟩) | fail)
        go_ret
        exact ⟨rfl, HBL.out⟩
      · rcases hb2 : decide (r.1 ≤ last) with _ | _
        · rcases hb3 : decide (r.2.1 < 0) with _ | _
          · rcases hb4 : decide (254 < r.2.1) with _ | _
            · rcases hb5 : decide (2 < (k : Int)) with _ | _
              · have h5 : decide (2 < k) = false := by simp at hb5 ⊢; omega
                cases t
                · cases s
                  · have he : 0 = res := by rw [← HRES.out, hb2, hb3, hb4, h5]; rfl
                    subst he
                    clear h5
                    go_wp2_with (first | (go_at_call 49; refine hU.mono ?_; rintro e w' ⟨rfl, rfl⟩) | fail)
                    go_ret
                    exact ⟨rfl, HBL.out⟩
                  · have he : 3 = res := by rw [← HRES.out, hb2, hb3, hb4, h5]; rfl
                    subst he
                    clear h5
                    go_wp2_with (first | (go_at_call 49; refine hU.mono ?_; rintro e w' ⟨rfl, rfl⟩) | fail)
                    go_ret
                    exact ⟨rfl, HBL.out⟩
                · have he : 2 = res := by rw [← HRES.out, hb2, hb3, hb4, h5]; rfl
                  subst he
                  clear h5
                  go_wp2_with (first | (go_at_call 49; refine hU.mono ?_; rintro e w' ⟨rfl, rfl⟩) | fail)
                  go_ret
                  exact ⟨rfl, HBL.out⟩
              · have h5 : decide (2 < k) = true := by simp at hb5 ⊢; omega
                have he : 1 = res := by rw [← HRES.out, hb2, hb3, hb4, h5]; rfl
                subst he
                clear h5
                go_wp2_with (first | (go_at_call 49; refine hU.mono ?_; rintro e w' ⟨rfl, rfl⟩) | fail)
                go_ret
                exact ⟨rfl, HBL.out⟩
            · have he : 1 = res := by rw [← HRES.out, hb2, hb3, hb4]; rfl
              subst he
              go_wp2_with (first | (go_at_call 49; refine hU.mono ?_; rintro e w' ⟨rfl, rfl⟩) | fail)
              go_ret
              exact ⟨rfl, HBL.out⟩
          · have he : 1 = res := by rw [← HRES.out, hb2, hb3]; rfl
            subst he
            go_wp2_with (first | (go_at_call 49; refine hU.mono ?_; rintro e w' ⟨rfl, rfl⟩) | fail)
            go_ret
            exact ⟨rfl, HBL.out⟩
        · have he : 1 = res := by rw [← HRES.out, hb2]; rfl
          subst he
          go_wp2_with (first | (go_at_call 49; refine hU.mono ?_; rintro e w' ⟨rfl, rfl⟩) | fail)
          go_ret
          exact ⟨rfl, HBL.out⟩
end Go.Proofs.YtkmfegamblmpeaaGreatDoor

/- The layer fault: errors that are a chain of faults; At, Of. -/
namespace Go.Proofs.YtkmfegamblmpeaaGreatDoor
open Go.RowKit Go.Stop
set_option linter.unusedSimpArgs false
set_option linter.unusedVariables false

/-- An error that is a chain of faults: the blocks, and what each bears: its number, its line, its note. -/
def F.Ch (w : World) (B : Nat) : List (Nat × Int × Int × ByteArray) → Value → Prop
  | [], v => v = .nilIface
  | (b, c, n, s) :: t, v => v = .iface 112 (.pointer (some ⟨b, 0, none⟩)) ∧ b < B ∧ ∃ e, w.heap[b]? = some (.cells #[.int .i64 c, .int .i64 n, .string s, e] 114 (0, 0)) ∧ F.Ch w B t e
theorem F.Ch.below {w w' : World} {B B0 B' : Nat} (hb : Below B0 w w') (h0 : B ≤ B0) (h1 : B ≤ B') : ∀ {q : List (Nat × Int × Int × ByteArray)} {v : Value}, F.Ch w B q v → F.Ch w' B' q v
  | [], v, h => h
  | (b, c, n, s) :: t, v, h => by
    obtain ⟨h2, h3, e, h4, h5⟩ := h
    exact ⟨h2, by omega, e, (hb.block b (by omega)).trans h4, F.Ch.below hb h0 h1 h5⟩
/-- What a chain's links bear. -/
def F.lk (q : List (Nat × Int × Int × ByteArray)) : List (Int × Int × ByteArray) := q.map (·.2)
theorem F.Ch.get {w : World} {B : Nat} : ∀ {q : List (Nat × Int × Int × ByteArray)} {v : Value}, F.Ch w B q v → ∀ {i b : Nat} {c n : Int} {s : ByteArray}, q[i]? = some (b, c, n, s) →
    b < B ∧ ∃ e, w.heap[b]? = some (.cells #[.int .i64 c, .int .i64 n, .string s, e] 114 (0, 0))
  | [], v, h, i, b, c, n, s, hq => by simp at hq
  | (b', c', n', s') :: t, v, h, 0, b, c, n, s, hq => by
    obtain ⟨h2, h3, e, h4, h5⟩ := h
    simp at hq
    obtain ⟨rfl, rfl, rfl, rfl⟩ := hq
    exact ⟨h3, e, h4⟩
  | (b', c', n', s') :: t, v, h, i + 1, b, c, n, s, hq => by
    obtain ⟨h2, h3, e, h4, h5⟩ := h
    exact F.Ch.get h5 (by simpa using hq)

def F.RetCh (l : List (Int × Int × ByteArray)) (w : World) (e : Ending) (w' : World) : Prop :=
  ∃ q v, e = .returned v ∧ F.lk q = l ∧ F.Ch w' w'.heap.size q v ∧ Below w.heap.size w w'

set_option maxRecDepth 100000 in
set_option maxHeartbeats 1000000 in
theorem F.at_any (c n : Int) (s : ByteArray) (w : World) :
    Calls Tryz.prog 91 #[.int .i64 c, .int .i64 n, .string s] w (F.RetCh (if c = 0 then [] else [(c, n, s)]) w) := by
  by_cases hc : c = 0
  · rw [if_pos hc]
    subst hc
    go_enter Tryz.func91, Tryz.ntmps91
    go_wp2
    go_ret
    exact ⟨[], .nilIface, rfl, rfl, rfl, Below.refl _ _⟩
  · rw [if_neg hc]
    go_enter Tryz.func91, Tryz.ntmps91
    go_wp2
    go_ret
    have hn := heap_alloc_new w (.cells #[.int .i64 c, .int .i64 n, .string s, .nilIface] 114)
    have hs : w.heap.size < (w.alloc (.cells #[.int .i64 c, .int .i64 n, .string s, .nilIface] 114)).heap.size := by simp
    have hal : Below w.heap.size w (w.alloc (.cells #[.int .i64 c, .int .i64 n, .string s, .nilIface] 114)) := (Below.refl _ _).alloc (Nat.le_refl _) _
    exact ⟨[(w.heap.size, c, n, s)], _, rfl, rfl, ⟨rfl, hs, .nilIface, hn, rfl⟩, hal⟩
def F.code : List (Int × Int × ByteArray) → Int
  | [] => 0
  | x :: _ => x.1

end Go.Proofs.YtkmfegamblmpeaaGreatDoor
