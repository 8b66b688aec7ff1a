/- The law CpsetAlgebra: its two last function values, by walking their texts. -/
import Derived.Test.YtfobmgfmepoamaaCpAlgFn
namespace Go.Proofs.Ytfobmgfmepoamaa
open Go.RowKit
set_option linter.unusedSimpArgs false
set_option linter.unusedVariables false

theorem C.keepQ {W w' : World} {B b1 b2 : Nat} {v1 v2 : Value} (d1 : W.cell? ⟨b1, 0, none⟩ = some v1) (d2 : W.cell? ⟨b2, 0, none⟩ = some v2) (h1 : b1 < B) (h2 : b2 < B) (h : Below B W w') :
    w'.cell? ⟨b1, 0, none⟩ = some v1 ∧ w'.cell? ⟨b2, 0, none⟩ = some v2 ∧ Below B W w' :=
  ⟨((bcell h).1 _ _ h1).trans d1, ((bcell h).1 _ _ h2).trans d2, h⟩
theorem C.thirdQ {P Q : Prop} {W w' : World} {B : Nat} (h : P ∧ Q ∧ Below B W w') : Below B W w' := h.2.2

set_option maxRecDepth 100000 in
theorem C.alg6_is (f1 f2 : FuncId) (cap1 cap2 : Array Value) (p q : Int → Bool) (g8 g9 : Nat) (w : World) (e1 : Enters f1) (e2 : Enters f2) (h1 : FnIs f1 cap1 p w) (h2 : FnIs f2 cap2 q w)
    (c8 : w.cell? ⟨g8, 0, none⟩ = some (.func (.func f1) #[] cap1)) (c9 : w.cell? ⟨g9, 0, none⟩ = some (.func (.func f2) #[] cap2)) (l8 : g8 < w.heap.size) (l9 : g9 < w.heap.size) :
    FnIs 32 #[.pointer (some ⟨g8, 0, none⟩), .pointer (some ⟨g9, 0, none⟩)] (fun d => p d != q d) w := by
  intro d W hb
  have a8 := ((bcell hb).1 g8 0 l8).trans c8
  have a9 := ((bcell hb).1 g9 0 l9).trans c9
  have k8 : g8 < W.heap.size := Nat.lt_of_lt_of_le l8 hb.size
  have k9 : g9 < W.heap.size := Nat.lt_of_lt_of_le l9 hb.size
  have E1 := Lib.hid (show ∀ (args : Array Value) (w : World), (callFunc f1 args).run Try.prog w = .ok (.enter f1 args) w from e1)
  have E2 := Lib.hid (show ∀ (args : Array Value) (w : World), (callFunc f2 args).run Try.prog w = .ok (.enter f2 args) w from e2)
  have H1 := Lib.hid h1
  have H2 := Lib.hid h2
  obtain ⟨pd, hpd⟩ : ∃ pd, p d = pd := ⟨_, rfl⟩
  obtain ⟨qd, hqd⟩ : ∃ qd, q d = qd := ⟨_, rfl⟩
  simp only [hpd, hqd]
  have PD := Lib.hid hpd
  have QD := Lib.hid hqd
  have hxx : Below W.heap.size W W := Below.refl _ _
  clear e1 e2 h1 h2 hpd hqd c8 c9
  show Calls Try.prog 32 #[.int .i64 d, .pointer (some ⟨g8, 0, none⟩), .pointer (some ⟨g9, 0, none⟩)] W _
  go_enter Try.func32, Try.ntmps32
  go_wp2_with fail
  go_region_held3 (fun w' => w'.cell? ⟨g8, 0, none⟩ = some (.func (.func f1) #[] cap1) ∧ w'.cell? ⟨g9, 0, none⟩ = some (.func (.func f2) #[] cap2) ∧ Below W.heap.size W w')
    (first
      | exact C.keepQ a8 a9 k8 k9 hxx
      | exact C.keepQ a8 a9 k8 k9 hxx.drew
      | exact C.keepQ a8 a9 k8 k9 hbz
      | fail)
    (first
      | (go_simp; rw [E1.out, Oper.upon_enter]; refine (H1.out d _ (hb.trans ((C.thirdQ (W := W) (by assumption)).mono hb.size))).mono ?_; rw [PD.out]; rintro e W1 ⟨rfl, hbc⟩; have hbz := (C.thirdQ (W := W) (by assumption)).trans (hbc.mono (C.thirdQ (W := W) (by assumption)).size))
      | (go_simp; rw [E2.out, Oper.upon_enter]; refine (H2.out d _ (hb.trans ((C.thirdQ (W := W) (by assumption)).mono hb.size))).mono ?_; rw [QD.out]; rintro e W1 ⟨rfl, hbc⟩; have hbz := (C.thirdQ (W := W) (by assumption)).trans (hbc.mono (C.thirdQ (W := W) (by assumption)).size))
      | fail)
  all_goals
    go_wp2_with fail
    go_ret
    exact ⟨rfl, hbz⟩

set_option maxRecDepth 100000 in
theorem C.alg7_is (f2 : FuncId) (cap2 : Array Value) (q : Int → Bool) (g8 g9 m : Nat) (A : Option Addr) (c B : Nat) (l : List (Int × Int)) (w : World) (e2 : Enters f2) (h2 : FnIs f2 cap2 q w)
    (hl : l.length = m) (hm : m ≤ 1000000) (hB : B ≤ w.heap.size) (hA : Sl w B A (C.fl .i64 l))
    (c8 : w.cell? ⟨g8, 0, none⟩ = some (.slice A m c)) (c9 : w.cell? ⟨g9, 0, none⟩ = some (.func (.func f2) #[] cap2)) (l8 : g8 < w.heap.size) (l9 : g9 < w.heap.size) :
    FnIs 34 #[.pointer (some ⟨g8, 0, none⟩), .pointer (some ⟨g9, 0, none⟩)] (fun d => (C.inR l d && C.isC d) && !q d) w := by
  intro d W hb
  have a8 := ((bcell hb).1 g8 0 l8).trans c8
  have a9 := ((bcell hb).1 g9 0 l9).trans c9
  have k8 : g8 < W.heap.size := Nat.lt_of_lt_of_le l8 hb.size
  have k9 : g9 < W.heap.size := Nat.lt_of_lt_of_le l9 hb.size
  have E2 := Lib.hid (show ∀ (args : Array Value) (w : World), (callFunc f2 args).run Try.prog w = .ok (.enter f2 args) w from e2)
  have H2 := Lib.hid h2
  have HL := Lib.hid hl
  have HA := Lib.hid (hA.belowN hb hB (Nat.le_refl _))
  obtain ⟨pd, hpd⟩ : ∃ pd, (C.inR l d && C.isC d) = pd := ⟨_, rfl⟩
  obtain ⟨qd, hqd⟩ : ∃ qd, q d = qd := ⟨_, rfl⟩
  simp only [hpd, hqd]
  have PD := Lib.hid hpd
  have QD := Lib.hid hqd
  clear e2 h2 hpd hqd c8 c9 hl hA
  show Calls Try.prog 34 #[.int .i64 d, .pointer (some ⟨g8, 0, none⟩), .pointer (some ⟨g9, 0, none⟩)] W _
  cases pd <;> cases qd
  all_goals
    go_enter Try.func34, Try.ntmps34
    go_wp2_with fail
    refine (C.rhas_any A c m B l d _ HL.out hm (Nat.le_trans hB hb.size) HA.out).mono ?_
    rw [PD.out]
    rintro e W1 ⟨rfl, hb1⟩
    have b9 := ((bcell hb1).1 g9 0 k9).trans a9
    have hw1 := hb.trans (hb1.mono hb.size)
    go_wp2_with fail
    first
    | (rw [E2.out, Oper.upon_enter]
       refine (H2.out d _ hw1).mono ?_
       rw [QD.out]
       rintro e W2 ⟨rfl, hb2⟩
       go_wp2
       go_ret
       exact ⟨rfl, hb1.trans (hb2.mono hb1.size)⟩)
    | (go_ret
       exact ⟨rfl, hb1⟩)
end Go.Proofs.Ytfobmgfmepoamaa
