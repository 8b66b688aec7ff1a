/- The law CpsetAlgebra: its function values, by walking their texts. -/
import Derived.Test.YtfobmgfmepoamaaCpIsOf
import Derived.Test.YtfobmgfmepoamaaCpXor
import Derived.Deep.RegionHeld3
namespace Go.Proofs.Ytfobmgfmepoamaa
open Go.RowKit
set_option linter.unusedSimpArgs false
set_option linter.unusedVariables false

theorem C.alg1_any (g : Nat) (A : Option Addr) (c m B : Nat) (l : List (Int × Int)) (d : Int) (w : World) (hl : l.length = m) (hm : m ≤ 1000000) (hg : w.cell? ⟨g, 0, none⟩ = some (.slice A m c)) (hB : B ≤ w.heap.size) (hA : Sl w B A (C.fl .i64 l)) :
    Calls Try.prog 26 #[.int .i64 d, .pointer (some ⟨g, 0, none⟩)] w fun e w' => e = .returned (.bool (C.inR l d && C.isC d)) ∧ Below w.heap.size w w' := by
  have HA := Lib.hid hA
  clear hA
  have HL := Lib.hid hl
  clear hl
  obtain ⟨q, hq⟩ : ∃ q, (C.inR l d && C.isC d) = q := ⟨_, rfl⟩
  rw [hq]
  have HQ := Lib.hid hq
  clear hq
  go_enter Try.func26, Try.ntmps26
  go_wp2_with fail
  refine (C.rhas_any A c m B l d _ HL.out hm hB HA.out).mono ?_
  rw [HQ.out]
  rintro e w1 ⟨rfl, hb⟩
  go_wp2
  go_ret
  exact ⟨rfl, hb⟩

theorem C.alg2_any (g : Nat) (A : Option Addr) (c m B : Nat) (l : List (Int × Int)) (d : Int) (w : World) (hl : l.length = m) (hm : m ≤ 1000000) (hg : w.cell? ⟨g, 0, none⟩ = some (.slice A m c)) (hB : B ≤ w.heap.size) (hA : Sl w B A (C.fl .i64 l)) :
    Calls Try.prog 27 #[.int .i64 d, .pointer (some ⟨g, 0, none⟩)] w fun e w' => e = .returned (.bool (C.inR l d && C.isC d)) ∧ Below w.heap.size w w' := by
  have HA := Lib.hid hA
  clear hA
  have HL := Lib.hid hl
  clear hl
  obtain ⟨q, hq⟩ : ∃ q, (C.inR l d && C.isC d) = q := ⟨_, rfl⟩
  rw [hq]
  have HQ := Lib.hid hq
  clear hq
  go_enter Try.func27, Try.ntmps27
  go_wp2_with fail
  refine (C.rhas_any A c m B l d _ HL.out hm hB HA.out).mono ?_
  rw [HQ.out]
  rintro e w1 ⟨rfl, hb⟩
  go_wp2
  go_ret
  exact ⟨rfl, hb⟩

/-- What a function value answers, in each world that comes. -/
def FnIs (f : FuncId) (cap : Array Value) (p : Int → Bool) (w : World) : Prop :=
  ∀ (d : Int) (w' : World), Below w.heap.size w w' → Calls Try.prog f (#[.int .i64 d] ++ cap) w' fun e w'' => e = .returned (.bool (p d)) ∧ Below w'.heap.size w' w''
theorem FnIs.later {f : FuncId} {cap : Array Value} {p : Int → Bool} {w w1 : World} (h : FnIs f cap p w) (hb : Below w.heap.size w w1) : FnIs f cap p w1 :=
  fun d w' hb' => h d w' (hb.trans (hb'.mono hb.size))
theorem FnIs.eqv {f : FuncId} {cap : Array Value} {p q : Int → Bool} {w : World} (h : FnIs f cap p w) (e : ∀ d, p d = q d) : FnIs f cap q w := by
  have : p = q := funext e
  rw [← this]; exact h
def Enters (f : FuncId) : Prop := ∀ (args : Array Value) (w : World), (callFunc f args).run Try.prog w = .ok (.enter f args) w

set_option maxRecDepth 100000 in
theorem C.alg3_is (f1 f2 : FuncId) (cap1 cap2 : Array Value) (p q : Int → Bool) (g8 g9 : Nat) (w : World) (e1 : Enters f1) (e2 : Enters f2) (h1 : FnIs f1 cap1 p w) (h2 : FnIs f2 cap2 q w)
    (c8 : w.cell? ⟨g8, 0, none⟩ = some (.func (.func f1) #[] cap1)) (c9 : w.cell? ⟨g9, 0, none⟩ = some (.func (.func f2) #[] cap2)) (l8 : g8 < w.heap.size) (l9 : g9 < w.heap.size) :
    FnIs 28 #[.pointer (some ⟨g8, 0, none⟩), .pointer (some ⟨g9, 0, none⟩)] (fun d => p d || q d) w := by
  intro d W hb
  have a8 := ((bcell hb).1 g8 0 l8).trans c8
  have a9 := ((bcell hb).1 g9 0 l9).trans c9
  have k8 : g8 < W.heap.size := Nat.lt_of_lt_of_le l8 hb.size
  have k9 : g9 < W.heap.size := Nat.lt_of_lt_of_le l9 hb.size
  have E1 := Lib.hid (show ∀ (args : Array Value) (w : World), (callFunc f1 args).run Try.prog w = .ok (.enter f1 args) w from e1)
  have E2 := Lib.hid (show ∀ (args : Array Value) (w : World), (callFunc f2 args).run Try.prog w = .ok (.enter f2 args) w from e2)
  have H1 := Lib.hid h1
  have H2 := Lib.hid h2
  obtain ⟨pd, hpd⟩ : ∃ pd, p d = pd := ⟨_, rfl⟩
  obtain ⟨qd, hqd⟩ : ∃ qd, q d = qd := ⟨_, rfl⟩
  simp only [hpd, hqd]
  have PD := Lib.hid hpd
  have QD := Lib.hid hqd
  clear e1 e2 h1 h2 hpd hqd c8 c9
  show Calls Try.prog 28 #[.int .i64 d, .pointer (some ⟨g8, 0, none⟩), .pointer (some ⟨g9, 0, none⟩)] W _
  cases pd <;> cases qd
  all_goals
    go_enter Try.func28, Try.ntmps28
    go_wp2_with fail
    rw [E1.out, Oper.upon_enter]
    refine (H1.out d _ hb).mono ?_
    rw [PD.out]
    rintro e W1 ⟨rfl, hb1⟩
    have b9 := ((bcell hb1).1 g9 0 k9).trans a9
    have hw1 := hb.trans (hb1.mono hb.size)
    go_wp2_with fail
    first
    | (rw [E2.out, Oper.upon_enter]
       refine (H2.out d _ hw1).mono ?_
       rw [QD.out]
       rintro e W2 ⟨rfl, hb2⟩
       go_wp2
       go_ret
       exact ⟨rfl, hb1.trans (hb2.mono hb1.size)⟩)
    | (go_ret
       exact ⟨rfl, hb1⟩)

set_option maxRecDepth 100000 in
theorem C.alg4_is (f1 f2 : FuncId) (cap1 cap2 : Array Value) (p q : Int → Bool) (g8 g9 : Nat) (w : World) (e1 : Enters f1) (e2 : Enters f2) (h1 : FnIs f1 cap1 p w) (h2 : FnIs f2 cap2 q w)
    (c8 : w.cell? ⟨g8, 0, none⟩ = some (.func (.func f1) #[] cap1)) (c9 : w.cell? ⟨g9, 0, none⟩ = some (.func (.func f2) #[] cap2)) (l8 : g8 < w.heap.size) (l9 : g9 < w.heap.size) :
    FnIs 29 #[.pointer (some ⟨g8, 0, none⟩), .pointer (some ⟨g9, 0, none⟩)] (fun d => p d && q d) w := by
  intro d W hb
  have a8 := ((bcell hb).1 g8 0 l8).trans c8
  have a9 := ((bcell hb).1 g9 0 l9).trans c9
  have k8 : g8 < W.heap.size := Nat.lt_of_lt_of_le l8 hb.size
  have k9 : g9 < W.heap.size := Nat.lt_of_lt_of_le l9 hb.size
  have E1 := Lib.hid (show ∀ (args : Array Value) (w : World), (callFunc f1 args).run Try.prog w = .ok (.enter f1 args) w from e1)
  have E2 := Lib.hid (show ∀ (args : Array Value) (w : World), (callFunc f2 args).run Try.prog w = .ok (.enter f2 args) w from e2)
  have H1 := Lib.hid h1
  have H2 := Lib.hid h2
  obtain ⟨pd, hpd⟩ : ∃ pd, p d = pd := ⟨_, rfl⟩
  obtain ⟨qd, hqd⟩ : ∃ qd, q d = qd := ⟨_, rfl⟩
  simp only [hpd, hqd]
  have PD := Lib.hid hpd
  have QD := Lib.hid hqd
  clear e1 e2 h1 h2 hpd hqd c8 c9
  show Calls Try.prog 29 #[.int .i64 d, .pointer (some ⟨g8, 0, none⟩), .pointer (some ⟨g9, 0, none⟩)] W _
  cases pd <;> cases qd
  all_goals
    go_enter Try.func29, Try.ntmps29
    go_wp2_with fail
    rw [E1.out, Oper.upon_enter]
    refine (H1.out d _ hb).mono ?_
    rw [PD.out]
    rintro e W1 ⟨rfl, hb1⟩
    have b9 := ((bcell hb1).1 g9 0 k9).trans a9
    have hw1 := hb.trans (hb1.mono hb.size)
    go_wp2_with fail
    first
    | (rw [E2.out, Oper.upon_enter]
       refine (H2.out d _ hw1).mono ?_
       rw [QD.out]
       rintro e W2 ⟨rfl, hb2⟩
       go_wp2
       go_ret
       exact ⟨rfl, hb1.trans (hb2.mono hb1.size)⟩)
    | (go_ret
       exact ⟨rfl, hb1⟩)

set_option maxRecDepth 100000 in
theorem C.alg5_is (f1 f2 : FuncId) (cap1 cap2 : Array Value) (p q : Int → Bool) (g8 g9 : Nat) (w : World) (e1 : Enters f1) (e2 : Enters f2) (h1 : FnIs f1 cap1 p w) (h2 : FnIs f2 cap2 q w)
    (c8 : w.cell? ⟨g8, 0, none⟩ = some (.func (.func f1) #[] cap1)) (c9 : w.cell? ⟨g9, 0, none⟩ = some (.func (.func f2) #[] cap2)) (l8 : g8 < w.heap.size) (l9 : g9 < w.heap.size) :
    FnIs 30 #[.pointer (some ⟨g8, 0, none⟩), .pointer (some ⟨g9, 0, none⟩)] (fun d => p d && !q d) w := by
  intro d W hb
  have a8 := ((bcell hb).1 g8 0 l8).trans c8
  have a9 := ((bcell hb).1 g9 0 l9).trans c9
  have k8 : g8 < W.heap.size := Nat.lt_of_lt_of_le l8 hb.size
  have k9 : g9 < W.heap.size := Nat.lt_of_lt_of_le l9 hb.size
  have E1 := Lib.hid (show ∀ (args : Array Value) (w : World), (callFunc f1 args).run Try.prog w = .ok (.enter f1 args) w from e1)
  have E2 := Lib.hid (show ∀ (args : Array Value) (w : World), (callFunc f2 args).run Try.prog w = .ok (.enter f2 args) w from e2)
  have H1 := Lib.hid h1
  have H2 := Lib.hid h2
  obtain ⟨pd, hpd⟩ : ∃ pd, p d = pd := ⟨_, rfl⟩
  obtain ⟨qd, hqd⟩ : ∃ qd, q d = qd := ⟨_, rfl⟩
  simp only [hpd, hqd]
  have PD := Lib.hid hpd
  have QD := Lib.hid hqd
  clear e1 e2 h1 h2 hpd hqd c8 c9
  show Calls Try.prog 30 #[.int .i64 d, .pointer (some ⟨g8, 0, none⟩), .pointer (some ⟨g9, 0, none⟩)] W _
  cases pd <;> cases qd
  all_goals
    go_enter Try.func30, Try.ntmps30
    go_wp2_with fail
    rw [E1.out, Oper.upon_enter]
    refine (H1.out d _ hb).mono ?_
    rw [PD.out]
    rintro e W1 ⟨rfl, hb1⟩
    have b9 := ((bcell hb1).1 g9 0 k9).trans a9
    have hw1 := hb.trans (hb1.mono hb.size)
    go_wp2_with fail
    first
    | (rw [E2.out, Oper.upon_enter]
       refine (H2.out d _ hw1).mono ?_
       rw [QD.out]
       rintro e W2 ⟨rfl, hb2⟩
       go_wp2
       go_ret
       exact ⟨rfl, hb1.trans (hb2.mono hb1.size)⟩)
    | (go_ret
       exact ⟨rfl, hb1⟩)

end Go.Proofs.Ytfobmgfmepoamaa
