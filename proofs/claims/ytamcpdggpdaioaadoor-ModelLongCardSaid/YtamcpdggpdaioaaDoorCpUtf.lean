/- The layer model: Primary, by walking its text. -/
import Derived.Test.YtamcpdggpdaioaaDoorMdPrim
import Derived.Test.YtamcpdggpdaioaaDoorRwRow
import Derived.Test.YtamcpdggpdaioaaDoorLib
namespace Go.Proofs.YtamcpdggpdaioaaDoor
open Go.RowKit
set_option linter.unusedSimpArgs false
set_option linter.unusedVariables false

set_option maxRecDepth 100000 in
set_option maxHeartbeats 2000000 in
theorem Md.prim_any (v : Value) (T : List Rw.Row) (S : List Int) (d : Int) (w : World) (ok : Md.Ok T) (h : Md.Is w v T S) (hS : C.srt S) (hSn : S.length ≤ 1000000) (h3 : -2147483648 ≤ d) (h4 : d ≤ 2147483647) :
    Calls Tryd.prog 14 #[v, .int .i32 d] w fun e w' => e = .returned (.bool (Md.prim T (C.mem S) d)) ∧ Below w.heap.size w w' := by
  obtain ⟨A, c, XA, xc, rfl, h2, hX⟩ := id h
  obtain ⟨xn, hxn⟩ : ∃ k, S.length = k := ⟨_, rfl⟩
  obtain ⟨n, hn⟩ : ∃ k, T.length = k := ⟨_, rfl⟩
  rw [hn, hxn] at h ⊢
  have hba : Below w.heap.size w (w.alloc (.cells #[.slice A n c, .slice XA xn xc] 34)) := (Below.refl _ _).alloc (Nat.le_refl _) _
  have hat : Rw.At (w.alloc (.cells #[.slice A n c, .slice XA xn xc] 34)) w.heap.size 34 [.slice A n c, .slice XA xn xc] := Rw.At.new w 34 [.slice A n c, .slice XA xn xc]
  have HF := Lib.hid (Md.find_is d ok (h.below hba) h3 h4)
  have HP := Lib.hid (Hg.pair_any d (w.alloc (.cells #[.slice A n c, .slice XA xn xc] 34)) h3 h4)
  have HCOMP : Hid (∀ (r : Rw.Row) (a : Option Addr × Nat) (W : World), Md.find T d = some r → Below w.heap.size w W → Sl W W.heap.size a.1 (r.2.2.map (Value.int .i32)) →
      Calls Tryd.prog 20 #[.agg #[.slice A n c, .slice XA xn xc], Md.rv r a] W fun e w' => e = .returned (.bool (Md.comp T (C.mem S) r)) ∧ Below W.heap.size W w') := Lib.hid fun r a W hr hW hsl => by
    have hm := (Md.find_some hr).1
    have hb := ok.2.2.1 r hm
    exact Md.comp_any _ T S r a.1 a.2 W ok (h.below hW) hS (by omega) hb.1 hb.2 (ok.2.2.2 r hm) hsl
  have z0 := hat.cell 0 rfl
  have z1 := hat.cell 1 rfl
  have HB := Lib.hid hba
  have HAT := Lib.hid hat
  rcases hpk : Hg.pairK d with ⟨x, y, is⟩
  have hp := HP.out
  rw [hpk] at hp
  have HPK := Lib.hid hpk
  obtain ⟨o, ho⟩ : ∃ o, Md.prim T (C.mem S) d = o := ⟨_, rfl⟩
  rw [ho]
  have HO := Lib.hid ho
  clear h h2 hX hxn hn hba hat hpk HP ho hS ok
  unfold Md.tv at HF ⊢
  cases is
  · go_enter Tryd.func14, Tryd.ntmps14
    go_wp2_with fail
    refine hp.mono ?_
    rintro e w0 ⟨rfl, rfl⟩
    go_wp2_with fail
    refine HF.out.mono ?_
    rintro e w1 ⟨a, rfl, hsl, hb1⟩
    have HB1 := Lib.hid (HB.out.trans (hb1.mono HB.out.size))
    have hat1 := HAT.out.below hb1
    have HAT1 := Lib.hid hat1
    have k0 := hat1.cell 0 rfl
    have k1 := hat1.cell 1 rfl
    have hlt := hat1.lt
    have HSL := Lib.hid hsl
    clear hb1 hsl z0 z1 hp hat1 HF
    rcases hfi : Md.find T d with _ | r
    · have hro : Md.rowOf T d = (0, 0, []) := by unfold Md.rowOf; rw [hfi]; rfl
      have hoo : o = false := by
        rw [← HO.out]
        unfold Md.prim
        rw [HPK.out, hfi]
        rfl
      have HOO := Lib.hid hoo
      rw [hro]
      clear hro hfi hoo
      unfold Md.rv
      go_wp2_with fail
      go_ret
      exact ⟨by rw [HOO.out]; rfl, HB1.out.alloc HB1.out.size _⟩
    · have hro : Md.rowOf T d = r := by unfold Md.rowOf; rw [hfi]; rfl
      rw [hro] at HSL
      have hoo : o = Md.comp T (C.mem S) r := by
        rw [← HO.out]
        unfold Md.prim
        rw [HPK.out, hfi]
        rfl
      have HOO := Lib.hid hoo
      have hbn : Below w1.heap.size w1 (w1.alloc (.cells #[.int .i32 r.1, .int .i64 r.2.1, .slice a.1 r.2.2.length a.2] 50)) := (Below.refl _ _).alloc (Nat.le_refl _) _
      have HC := Lib.hid (HCOMP.out r a _ hfi (HB1.out.trans (hbn.mono HB1.out.size)) (HSL.out.below hbn hbn.size))
      have HBN := Lib.hid (HB1.out.trans (hbn.mono HB1.out.size))
      rw [hro]
      obtain ⟨cr, hcr⟩ : ∃ b, Md.comp T (C.mem S) r = b := ⟨_, rfl⟩
      rw [hcr] at HC HOO
      clear hro hfi hoo hbn hcr HSL HCOMP
      unfold Md.rv at HC ⊢
      go_wp2_with fail
      refine HC.out.mono ?_
      rintro e wk ⟨rfl, hbc⟩
      have HBZ := Lib.hid (HBN.out.trans (hbc.mono HBN.out.size))
      clear hbc
      go_wp2_with fail
      go_ret
      exact ⟨by rw [HOO.out]; rfl, HBZ.out⟩
  · have hoo : o = true := by
      rw [← HO.out]
      unfold Md.prim
      rw [HPK.out]
      rfl
    have HOO := Lib.hid hoo
    clear hoo HF HCOMP
    go_enter Tryd.func14, Tryd.ntmps14
    go_wp2_with fail
    refine hp.mono ?_
    rintro e w0 ⟨rfl, rfl⟩
    go_wp2_with fail
    go_ret
    exact ⟨by rw [HOO.out]; rfl, HB.out⟩
end Go.Proofs.YtamcpdggpdaioaaDoor

/- utf.Is, by walking its text. -/
namespace Go.Proofs.YtamcpdggpdaioaaDoor
open Go.RowKit
set_option linter.unusedSimpArgs false
set_option linter.unusedVariables false

theorem C.utfis_any (c : Int) (w : World) : Calls Tryd.prog 33 #[.int .i32 c] w fun e w' => e = .returned (.bool (C.isC c)) ∧ w = w' := by
  have e : C.isC c = (decide (0 ≤ c) && decide (c ≤ 1114111) && (decide (c < 55296) || decide (57343 < c))) := by
    unfold C.isC
    rw [Bool.eq_iff_iff]
    simp
    omega
  rw [e]
  clear e
  by_cases h1 : 0 ≤ c <;> by_cases h2 : c ≤ 1114111 <;> by_cases h3 : c < 55296 <;> by_cases h4 : 57343 < c
  all_goals
    first
      | (exfalso; omega)
      | (go_enter Tryd.func33, Tryd.ntmps33
         go_wp2
         go_ret
         exact ⟨by simp [h1, h2, h3, h4], rfl⟩)
end Go.Proofs.YtamcpdggpdaioaaDoor
