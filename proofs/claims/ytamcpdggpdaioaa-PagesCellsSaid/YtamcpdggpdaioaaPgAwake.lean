/- Pages: the law's fixed fact, by walking its text. -/
import Derived.Test.YtamcpdggpdaioaaPgNew
import Derived.Test.YtamcpdggpdaioaaPgPlain3
namespace Go.Proofs.Ytamcpdggpdaioaa
open Go.RowKit
set_option linter.unusedSimpArgs false
set_option linter.unusedVariables false

set_option maxRecDepth 100000 in
set_option maxHeartbeats 4000000 in
theorem Pg.awake_any (w : World) : Calls Try.prog 7 #[] w fun e w' => e = .returned (.bool true) ∧ Below w.heap.size w w' := by
  have hls := Sl.lit (w := w.alloc (.cells #[.int .i32 65, .int .u16 1, .int .i32 321, .int .u16 1] 38)) (A := some ⟨w.heap.size, 0, none⟩) (xs := Pg.fl [(65, 1), (321, 1)]) rfl 38 (0, 0) (heap_alloc_new w _)
  have hb : Below w.heap.size w (w.alloc (.cells #[.int .i32 65, .int .u16 1, .int .i32 321, .int .u16 1] 38)) := (Below.refl _ _).alloc (Nat.le_refl _) _
  have hnew := Pg.new_any (some ⟨w.heap.size, 0, none⟩) 2 2 [(65, 1), (321, 1)] _ rfl (by intro x hx; simp only [List.mem_cons, List.not_mem_nil, or_false] at hx; rcases hx with rfl | rfl <;> decide) hls (by decide)
  obtain ⟨wa, hwa⟩ : ∃ wa, w.alloc (.cells #[.int .i32 65, .int .u16 1, .int .i32 321, .int .u16 1] 38) = wa := ⟨_, rfl⟩
  rw [hwa] at hb hnew
  have HWA := Lib.hid hwa
  have HB := Lib.hid hb
  have HNEW := Lib.hid hnew
  clear hls hb hnew hwa
  go_enter Try.func7, Try.ntmps7
  go_wp2_with fail
  rw [HWA.out]
  refine HNEW.out.mono ?_
  rintro e w1 ⟨v, rfl, hof, hb1⟩
  have hv := hof
  obtain ⟨g, A, c, rfl, _, _⟩ := hv
  have HB1 := Lib.hid (HB.out.trans (hb1.mono HB.out.size))
  have hbk := Pg.blocks_any _ _ w1 hof
  rw [Pg.awake_len] at hbk
  have g65 : Pg.get (Pg.last [(65, 1), (321, 1)]) 65 = 1 := by decide
  have g321 : Pg.get (Pg.last [(65, 1), (321, 1)]) 321 = 1 := by decide
  have g66 : Pg.get (Pg.last [(65, 1), (321, 1)]) 66 = 0 := by decide
  obtain ⟨f, hf⟩ : ∃ f, Pg.last [(65, 1), (321, 1)] = f := ⟨_, rfl⟩
  rw [hf] at hof g65 g321 g66
  have HOF := Lib.hid hof
  have HBK := Lib.hid hbk
  have HG1 : Hid (∀ W, Below w1.heap.size w1 W → Calls Try.prog 10 #[.pointer (some ⟨g, 0, none⟩), .int .i32 65] W fun e w' => e = .returned (.int .u16 1) ∧ Below W.heap.size W w') := Lib.hid fun W hW => by rw [← g65]; exact Pg.get_any _ f 65 W (Pg.Is.below HOF.out hW)
  have HG2 : Hid (∀ W, Below w1.heap.size w1 W → Calls Try.prog 10 #[.pointer (some ⟨g, 0, none⟩), .int .i32 321] W fun e w' => e = .returned (.int .u16 1) ∧ Below W.heap.size W w') := Lib.hid fun W hW => by rw [← g321]; exact Pg.get_any _ f 321 W (Pg.Is.below HOF.out hW)
  have HG3 : Hid (∀ W, Below w1.heap.size w1 W → Calls Try.prog 10 #[.pointer (some ⟨g, 0, none⟩), .int .i32 66] W fun e w' => e = .returned (.int .u16 0) ∧ Below W.heap.size W w') := Lib.hid fun W hW => by rw [← g66]; exact Pg.get_any _ f 66 W (Pg.Is.below HOF.out hW)
  clear hb1 hof hbk g65 g321 g66 hf
  go_wp2_with fail
  refine HBK.out.mono ?_
  rintro e w2 ⟨rfl, rfl⟩
  go_wp2_with fail
  refine (HG1.out w1 (Below.refl _ _)).mono ?_
  rintro e w2 ⟨rfl, hb2⟩
  have HB2 := Lib.hid hb2
  clear hb2
  go_wp2_with fail
  refine (HG2.out w2 HB2.out).mono ?_
  rintro e w3 ⟨rfl, hb3⟩
  have HB3 := Lib.hid (HB2.out.trans (hb3.mono HB2.out.size))
  clear hb3
  go_wp2_with fail
  refine (HG3.out w3 HB3.out).mono ?_
  rintro e w4 ⟨rfl, hb4⟩
  have HB4 := Lib.hid (HB1.out.trans ((HB3.out.trans (hb4.mono HB3.out.size)).mono HB1.out.size))
  clear hb4
  go_wp2_with fail
  go_ret
  exact ⟨rfl, HB4.out⟩
end Go.Proofs.Ytamcpdggpdaioaa
