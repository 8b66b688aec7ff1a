/- The document's Marks, by walking its text. -/
import Derived.Test.YtgfkcbckddpbaaaCpRef
namespace Go.Proofs.Ytgfkcbckddpbaaa
open Go.RowKit
set_option linter.unusedSimpArgs false
set_option linter.unusedVariables false

/-- A number put in where it belongs. -/
def C.ins (x : Int) : List Int → List Int
  | [] => [x]
  | y :: t => if x < y then x :: y :: t else if x = y then y :: t else y :: C.ins x t
theorem C.ins_len (x : Int) : ∀ l, (C.ins x l).length ≤ l.length + 1
  | [] => Nat.le_refl _
  | y :: t => by
    unfold C.ins
    split
    · simp
    · split
      · simp
      · have := C.ins_len x t; simp; omega
def C.insF (l : List Int) : List Int := l.foldl (fun o x => C.ins x o) []
theorem C.insF_succ {l : List Int} {i : Nat} {x : Int} (h : l[i]? = some x) : C.insF (l.take (i + 1)) = C.ins x (C.insF (l.take i)) := by
  unfold C.insF
  rw [List.take_add_one, h, List.foldl_append]
  rfl
theorem C.insF_len (l : List Int) : (C.insF l).length ≤ l.length := by
  have : ∀ (l acc : List Int), (l.foldl (fun o x => C.ins x o) acc).length ≤ acc.length + l.length := by
    intro l
    induction l with
    | nil => intro acc; simp
    | cons x t ih => intro acc; have := ih (C.ins x acc); have := C.ins_len x acc; simp at *; omega
  unfold C.insF
  simpa using this l []
/-- What is still to come of it. -/
def C.insR (x : Int) (d : Bool) (l : List Int) : List Int := if d = true then l else C.ins x l
/-- All places that are asked. -/
def C.ends : List (Int × Int) → List Int
  | [] => []
  | (x, y) :: t => x :: (y + 1) :: C.ends t
theorem C.ends_app : ∀ a b, C.ends (a ++ b) = C.ends a ++ C.ends b
  | [], b => rfl
  | (x, y) :: t, b => by show x :: (y + 1) :: C.ends (t ++ b) = _; rw [C.ends_app t b]; rfl
theorem C.ends_len : ∀ a, (C.ends a).length = 2 * a.length
  | [] => rfl
  | (x, y) :: t => by show (C.ends t).length + 1 + 1 = 2 * (t.length + 1); rw [C.ends_len t]; omega
def C.asked (rs : List (Int × Int)) : List Int := C.all ++ C.ends rs
def C.marks (rs : List (Int × Int)) : List Int := C.insF (C.asked rs)

set_option maxRecDepth 100000 in
set_option maxHeartbeats 4000000 in
theorem C.marks_any (A : Option Addr) (cap m B : Nat) (rs : List (Int × Int)) (w : World) (hl : rs.length = m) (hm : m ≤ 100000) (hbd : ∀ r ∈ rs, -9223372036854775808 ≤ r.2 ∧ r.2 < 9223372036854775807) (hB : B ≤ w.heap.size) (hA : Sl w B A (C.fl .i64 rs)) :
    Calls Try.prog 7 #[.slice A m cap] w (RetInts .i64 (C.marks rs) w) := by
  have HL := Lib.hid hl
  have HBD := Lib.hid hbd
  clear hl hbd
  obtain ⟨i0, hi0, hz0, hz1, hz2⟩ := info_parts infoInt
  have hown0 : (w.alloc (.cells #[.int .i64 0, .int .i64 55296, .int .i64 57344, .int .i64 1114112] 3)).ownsRow w.heap.size 3 1 (.slice (some ⟨w.heap.size, 0, none⟩) 4 4) 4 (C.all.map (Value.int .i64)) := ⟨rfl, .inr ⟨w.heap.size, 4, _, rfl, Nat.le_refl _, heap_alloc_new w _, Nat.le_refl _, by decide, rfl, rfl⟩⟩
  have hal : Below w.heap.size w (w.alloc (.cells #[.int .i64 0, .int .i64 55296, .int .i64 57344, .int .i64 1114112] 3)) := (Below.refl _ _).alloc (Nat.le_refl _) _
  go_enter Try.func7, Try.ntmps7
  go_wp2
  go_loopw [16, 3] (fun vi v wrm => ∃ i : Nat, i ≤ m ∧ vi = .int .i64 i ∧ wrm.ownsRow w.heap.size 3 1 v (4 + 2 * i) ((C.asked (rs.take i)).map (Value.int .i64)) ∧ Below w.heap.size w wrm) (fun vi _ _ => m - (intOf vi).toNat)
  case atStart => exact ⟨0, by omega, rfl, hown0, hal⟩
  case round =>
    obtain ⟨wrm, hwrm⟩ : ∃ q, q = wr := ⟨_, rfl⟩
    subst hwrm
    obtain ⟨i, hi, rfl, hown, hbel⟩ := hrel
    have hsz : w.heap.size ≤ wrm.heap.size := hbel.size
    by_cases hlt : (i : Int) < m
    · obtain ⟨r, hr⟩ : ∃ r, rs[i]? = some r := ⟨_, List.getElem?_eq_getElem (by rw [HL.out]; omega)⟩
      obtain ⟨b, o, rfl, hlb, hc0, hc1⟩ := hA.pair hr
      rw [← (bcell hbel).1 _ _ (by omega)] at hc0 hc1
      obtain ⟨r1, r2⟩ := HBD.out r (List.mem_of_getElem? hr)
      have HR := Lib.hid hr
      have hn0 : (0 : Int) ≤ (i : Int) := by omega
      have hba : Below wrm.heap.size wrm (wrm.alloc (.cells #[.int .i64 r.1, .int .i64 r.2] 29)) := (Below.refl _ _).alloc (Nat.le_refl _) _
      have hbb := hba.alloc (by simp) (.cells #[.int .i64 r.1, .int .i64 (r.2 + 1)] 3)
      have hown' := Lib.hid (own_below hown hbb (Nat.le_refl _))
      have hnew := Lib.hid (Sl.lit (w := (wrm.alloc (.cells #[.int .i64 r.1, .int .i64 r.2] 29)).alloc (.cells #[.int .i64 r.1, .int .i64 (r.2 + 1)] 3)) (A := some ⟨wrm.heap.size + 1, 0, none⟩) (xs := [.int .i64 r.1, .int .i64 (r.2 + 1)]) rfl 3 (0, 0) (by
        have h := heap_alloc_new (wrm.alloc (.cells #[.int .i64 r.1, .int .i64 r.2] 29)) (.cells #[.int .i64 r.1, .int .i64 (r.2 + 1)] 3)
        rwa [show (wrm.alloc (.cells #[.int .i64 r.1, .int .i64 r.2] 29)).heap.size = wrm.heap.size + 1 by simp] at h))
      have hs3 := Nat.le_trans hsz hbb.size
      clear hr
      go_wp2_with (at_builtin; refine wpList_appendSl _ rfl _ _ _ rfl w.heap.size 3 i0 _ 1 8 Try.underlying31 hi0 hz0 hz1 hz2 rfl (by omega) _ (4 + 2 * i) _ rfl hown'.out _ (some ⟨wrm.heap.size + 1, 0, none⟩) 2 2 [.int .i64 r.1, .int .i64 (r.2 + 1)] rfl rfl hnew.out (by simp [Value.oneCell']) (by simp only [maxLen]; omega) (by omega) hs3 ?_; intro v1 w2 hown2 hb2 hgrow)
      refine ⟨⟨i + 1, by omega, by go_num, ?_, hbel.trans ((hbb.mono hsz).trans hb2)⟩, by simp [intOf]; omega⟩
      rw [List.take_add_one, HR.out]
      unfold C.asked at *
      rw [C.ends_app, ← List.append_assoc, List.map_append]
      exact hown2
    · obtain rfl : i = m := by omega
      have e0 : rs.take i = rs := List.take_of_length_le (by rw [HL.out]; omega)
      rw [e0] at hown
      obtain ⟨A3, c3, rfl⟩ := own_form hown
      have hal2 : (C.asked rs).length = 4 + 2 * i := by unfold C.asked; rw [List.length_append, C.ends_len, HL.out]; rfl
      obtain ⟨X, hX⟩ : ∃ X, C.asked rs = X := ⟨_, rfl⟩
      have hmk : C.marks rs = C.insF X := by unfold C.marks; rw [hX]
      rw [hX] at hown hal2
      obtain ⟨N, hN⟩ : ∃ N, 4 + 2 * i = N := ⟨_, rfl⟩
      rw [hN] at hown hal2
      have HMK := Lib.hid hmk
      have HXL := Lib.hid hal2
      have hN' : N ≤ 1000000 := by omega
      have hSX := Lib.hid (Sl.of_own hown)
      rw [hN]
      clear e0 hX hmk hal2 hN
      go_wp2
      go_loopw [32, 6] (fun vi vo wr => ∃ (k : Nat) (O : List Int), k ≤ N ∧ vi = .int .i64 k ∧ O = C.insF (X.take k) ∧ O.length ≤ k ∧ wr.ownsRow w.heap.size 3 1 vo O.length (O.map (Value.int .i64)) ∧ Below wrm.heap.size wrm wr) (fun vi _ _ => N - (intOf vi).toNat)
      case atStart =>
        refine ⟨0, [], by omega, rfl, rfl, Nat.le_refl _, ⟨rfl, .inr ⟨wrm.heap.size, 0, #[], rfl, hsz, heap_alloc_new wrm _, Nat.le_refl _, by decide, rfl, rfl⟩⟩, (Below.refl _ _).alloc (Nat.le_refl _) _⟩
      case round =>
        obtain ⟨wk, hwk⟩ : ∃ q, q = wr := ⟨_, rfl⟩
        subst hwk
        obtain ⟨k, O, hk, rfl, hO, hOl, hout, hbk⟩ := hrel
        have HO := Lib.hid hO
        obtain ⟨AO, cO, rfl⟩ := own_form hout
        obtain ⟨ol, hol⟩ : ∃ ol, O.length = ol := ⟨_, rfl⟩
        rw [hol] at hout hOl ⊢
        have HOL := Lib.hid hol
        clear hO hol
        have hzk : wrm.heap.size ≤ wk.heap.size := hbk.size
        by_cases hkn : (k : Int) < N
        · obtain ⟨x, hx⟩ : ∃ x, X[k]? = some x := ⟨_, List.getElem?_eq_getElem (by rw [HXL.out]; omega)⟩
          obtain ⟨bx, ox, rfl, hbx, hcx, _⟩ := hSX.out.ints hx
          rw [← (bcell hbk).1 _ _ (by omega)] at hcx
          have HX := Lib.hid hx
          have hSO := Lib.hid (Sl.of_own hout)
          have hk0 : (0 : Int) ≤ (k : Int) := by omega
          have hown2 : (wk.alloc (.cells #[] 3)).ownsRow wk.heap.size 3 1 (.slice (some ⟨wk.heap.size, 0, none⟩) 0 0) 0 [] := ⟨rfl, .inr ⟨wk.heap.size, 0, #[], rfl, Nat.le_refl _, heap_alloc_new wk _, Nat.le_refl _, by decide, rfl, rfl⟩⟩
          clear hx
          go_wp2
          go_loopw [39, 9, 10] (fun vj vn vd wi => ∃ (j : Nat) (d : Bool) (pre : List Int), j ≤ ol ∧ vj = .int .i64 j ∧ vd = .bool d ∧ C.ins x O = pre ++ C.insR x d (O.drop j) ∧ pre.length ≤ 2 * j ∧ wi.ownsRow wk.heap.size 3 1 vn pre.length (pre.map (Value.int .i64)) ∧ Below wk.heap.size wk wi) (fun vj _ _ _ => ol - (intOf vj).toNat)
          case atStart =>
            exact ⟨0, false, [], by omega, rfl, rfl, rfl, Nat.le_refl _, hown2, (Below.refl _ _).alloc (Nat.le_refl _) _⟩
          case round =>
            obtain ⟨wi, hwi⟩ : ∃ q, q = wr := ⟨_, rfl⟩
            subst hwi
            obtain ⟨j, d, pre, hj, rfl, rfl, hins, hpl, hnx, hbi⟩ := hrel
            have HINS := Lib.hid hins
            clear hins
            have hsi : wk.heap.size ≤ wi.heap.size := hbi.size
            obtain ⟨An, cn, rfl⟩ := own_form hnx
            by_cases hjn : (j : Int) < ol
            · obtain ⟨y, hy⟩ : ∃ y, O[j]? = some y := ⟨_, List.getElem?_eq_getElem (by rw [HOL.out]; omega)⟩
              obtain ⟨by', oy, rfl, hby, hcy, _⟩ := hSO.out.ints hy
              rw [← (bcell hbi).1 _ _ hby] at hcy
              obtain ⟨t, ht⟩ : ∃ t, O.drop (j + 1) = t := ⟨_, rfl⟩
              have hdr : O.drop j = y :: t := by
                rw [List.drop_eq_getElem_cons (by rw [HOL.out]; omega), ht]
                rw [List.getElem?_eq_getElem (by rw [HOL.out]; omega)] at hy
                simp only [Option.some.injEq] at hy
                rw [hy]
              have HDR := Lib.hid hdr
              have HDN := Lib.hid ht
              have hj0 : (0 : Int) ≤ (j : Int) := by omega
              clear hy hdr ht
              rcases d with _ | _
              · by_cases hxy : x < y
                · have t1 : decide (x < y) = true := decide_eq_true hxy
                  have t2 : decide (x ≤ y) = true := decide_eq_true (by omega)
                  go_wp2_with (first
                    | (at_builtin; refine wpList_push1 _ rfl _ _ _ rfl wk.heap.size 3 i0 _ 8 Try.underlying31 hi0 hz0 hz1 hz2 rfl _ pre.length _ rfl hnx _ rfl rfl (by simp only [maxLen]; omega) (by omega) hsi ?_; intro v1 u2 hn2 hb2; obtain ⟨A1, c1, rfl⟩ := own_form hn2; have hs2 := Nat.le_trans hsi hb2.size)
                    | (at_builtin; refine wpList_push1 _ rfl _ _ _ rfl wk.heap.size 3 i0 _ 8 Try.underlying31 hi0 hz0 hz1 hz2 rfl _ (pre.length + 1) _ rfl hn2 _ rfl rfl (by simp only [maxLen]; omega) (by omega) hs2 ?_; intro v2 u3 hn3 hb3)
                    | fail)
                  refine ⟨⟨j + 1, true, pre ++ [x, y], by omega, by go_num, rfl, ?_, by simp; omega, by simpa using hn3, (hbi.trans hb2).trans hb3⟩, by simp [intOf]; omega⟩
                  rw [HINS.out, HDR.out, HDN.out, List.append_assoc]
                  show _ = pre ++ (x :: y :: t)
                  show pre ++ (if x < y then _ else _) = _
                  rw [if_pos hxy]
                · by_cases hxe : x = y
                  · subst hxe
                    have t1 : decide (x < x) = false := decide_eq_false hxy
                    have t2 : decide (x ≤ x) = true := decide_eq_true (by omega)
                    go_wp2_with (at_builtin; refine wpList_push1 _ rfl _ _ _ rfl wk.heap.size 3 i0 _ 8 Try.underlying31 hi0 hz0 hz1 hz2 rfl _ pre.length _ rfl hnx _ rfl rfl (by simp only [maxLen]; omega) (by omega) hsi ?_; intro v1 u2 hn2 hb2)
                    refine ⟨⟨j + 1, true, pre ++ [x], by omega, by go_num, rfl, ?_, by simp; omega, by simpa using hn2, hbi.trans hb2⟩, by simp [intOf]; omega⟩
                    rw [HINS.out, HDR.out, HDN.out, List.append_assoc]
                    show pre ++ (if x < x then _ else if x = x then _ else _) = pre ++ (x :: t)
                    rw [if_neg hxy, if_pos rfl]
                  · have t1 : decide (x < y) = false := decide_eq_false hxy
                    have t2 : decide (x ≤ y) = false := decide_eq_false (by omega)
                    go_wp2_with (at_builtin; refine wpList_push1 _ rfl _ _ _ rfl wk.heap.size 3 i0 _ 8 Try.underlying31 hi0 hz0 hz1 hz2 rfl _ pre.length _ rfl hnx _ rfl rfl (by simp only [maxLen]; omega) (by omega) hsi ?_; intro v1 u2 hn2 hb2)
                    refine ⟨⟨j + 1, false, pre ++ [y], by omega, by go_num, rfl, ?_, by simp; omega, by simpa using hn2, hbi.trans hb2⟩, by simp [intOf]; omega⟩
                    rw [HINS.out, HDR.out, HDN.out, List.append_assoc]
                    show pre ++ (if x < y then _ else if x = y then _ else _) = pre ++ (y :: C.ins x t)
                    rw [if_neg hxy, if_neg (by omega)]
              · go_wp2_with (at_builtin; refine wpList_push1 _ rfl _ _ _ rfl wk.heap.size 3 i0 _ 8 Try.underlying31 hi0 hz0 hz1 hz2 rfl _ pre.length _ rfl hnx _ rfl rfl (by simp only [maxLen]; omega) (by omega) hsi ?_; intro v1 u2 hn2 hb2)
                refine ⟨⟨j + 1, true, pre ++ [y], by omega, by go_num, rfl, ?_, by simp; omega, by simpa using hn2, hbi.trans hb2⟩, by simp [intOf]; omega⟩
                rw [HINS.out, HDR.out, HDN.out, List.append_assoc]
                rfl
            · obtain rfl : j = ol := by omega
              have hd0 : O.drop j = [] := List.drop_of_length_le (by rw [HOL.out]; omega)
              have hnext := C.insF_succ HX.out
              rw [← HO.out] at hnext
              have HNEXT := Lib.hid hnext
              have HD0 := Lib.hid hd0
              clear hd0 hnext
              have hol2 := C.ins_len x O
              rw [HOL.out] at hol2
              rcases d with _ | _
              · have hpre : pre ++ [x] = C.ins x O := by rw [HINS.out, HD0.out]; rfl
                have HPRE := Lib.hid hpre
                have hpl2 : (pre ++ [x]).length ≤ k + 1 := by rw [hpre]; omega
                clear hpre
                go_wp2_with (at_builtin; refine wpList_push1 _ rfl _ _ _ rfl wk.heap.size 3 i0 _ 8 Try.underlying31 hi0 hz0 hz1 hz2 rfl _ pre.length _ rfl hnx _ rfl rfl (by simp only [maxLen]; omega) (by omega) hsi ?_; intro v1 u2 hn2 hb2; obtain ⟨A1, c1, rfl⟩ := own_form hn2)
                refine ⟨⟨k + 1, pre ++ [x], by omega, by go_num, ?_, hpl2, ?_, hbk.trans ((hbi.trans hb2).mono hzk)⟩, by simp [intOf]; omega⟩
                · rw [HNEXT.out, HPRE.out]
                · exact own_base (by simpa using hn2) (by omega)
              · have hpre : pre = C.ins x O := by rw [HINS.out, HD0.out]; simp [C.insR]
                have HPRE := Lib.hid hpre
                have hpl2 : pre.length ≤ k + 1 := by rw [hpre]; omega
                clear hpre
                go_wp2
                refine ⟨⟨k + 1, pre, by omega, by go_num, ?_, hpl2, ?_, hbk.trans (hbi.mono hzk)⟩, by simp [intOf]; omega⟩
                · rw [HNEXT.out, HPRE.out]
                · exact own_base hnx (by omega)
        · obtain rfl : k = N := by omega
          have hfull : O = C.insF X := by rw [HO.out, List.take_of_length_le (by rw [HXL.out]; omega)]
          have HFULL := Lib.hid hfull
          clear hfull
          go_wp2
          go_ret
          refine ⟨AO, cO, ?_, ?_, hbel.trans (hbk.mono hsz)⟩
          · rw [HMK.out, ← HFULL.out, HOL.out]; rfl
          · rw [HMK.out, ← HFULL.out]; exact Sl.of_own hout
end Go.Proofs.Ytgfkcbckddpbaaa
