/- The layer rows: ranged, by walking its text. -/
import Derived.Test.YtppmcnpjglackaaGreatDoorRwWalk
namespace Go.Proofs.YtppmcnpjglackaaGreatDoor
open Go.RowKit
set_option linter.unusedSimpArgs false
set_option linter.unusedVariables false

def Rw.firstB : ByteArray := ⟨#[44, 32, 70, 105, 114, 115, 116, 62]⟩
def Rw.lastB : ByteArray := ⟨#[44, 32, 76, 97, 115, 116, 62]⟩
/-- What a range turns: the reader's third field alone. -/
def Rw.RetRange (b : Nat) (vo : Value) (code : Int) (o : List UInt8) (w : World) (e : Ending) (w' : World) : Prop :=
  e = .returned (.bool true) ∧ Rw.At w' b 62 [vo, .int .i32 code, .string ⟨o.toArray⟩] ∧ w.grownBy w' (some b)
theorem Rw.grown_set {w : World} (b i : Nat) (v : Value) : w.grownBy (w.setCell ⟨b, i, none⟩ v) (some b) :=
  ⟨rfl, rfl, rfl, (KeepsWalks.setCell w _ v).size, fun k _ hk => Below.heap_setCell _ _ _ k (fun e => hk (by rw [show k = b from e]))⟩
theorem Rw.grown_trans {w w' w'' : World} {row : Option Nat} (h : w.grownBy w' row) (h' : w'.grownBy w'' row) : w.grownBy w'' row :=
  ⟨h'.os.trans h.os, h'.tape.trans h.tape, h'.output.trans h.output, Nat.le_trans h.size h'.size, fun k hk hne => (h'.block k (Nat.lt_of_lt_of_le hk h.size) hne).trans (h.block k hk hne)⟩
theorem Rw.grown_bel {w w' : World} {row : Option Nat} (h : Below w.heap.size w w') : w.grownBy w' row := ⟨h.os, h.tape, h.output, h.size, fun k hk _ => h.block k hk⟩
theorem Rw.grown_row {w w' : World} {row : Option Nat} (h : w.grownBy w' none) : w.grownBy w' row := ⟨h.os, h.tape, h.output, h.size, fun k hk _ => h.block k hk (by simp)⟩
theorem Rw.empty_iff (s : ByteArray) : s.toList.isEmpty = s.data.toList.isEmpty := by rw [ByteArray.toList_eq s]

set_option maxRecDepth 100000 in
set_option maxHeartbeats 4000000 in
theorem Rw.ranged_any (b : Nat) (vo : Value) (code : Int) (was name : ByteArray) (c k : Int) (A : Option Addr) (n cp : Nat) (o : List UInt8) (w : World) (hv : vo.oneCell' = true)
    (hat : Rw.At w b 62 [vo, .int .i32 code, .string was]) (hs : name.size ≤ 1000000) (hr : Rw.ranged was.data.toList name.data.toList (decide (k = 0) && decide (n = 0)) = some o) :
    Calls Tryz.prog 51 #[.pointer (some ⟨b, 0, none⟩), .string name, .agg #[.int .i32 c, .int .i64 k, .slice A n cp]] w (Rw.RetRange b vo code o w) := by
  have c1 := Rw.cut_any name Rw.firstB hs (by decide)
  have c2 := Rw.cut_any name Rw.lastB hs (by decide)
  rw [show Rw.firstB.data.toList = Rw.first from rfl] at c1
  rw [show Rw.lastB.data.toList = Rw.last from rfl] at c2
  have hQ := Rw.quiet_any c k A n cp
  have hlt := hat.lt
  obtain ⟨d1, d2, d3, d4, d5, d6⟩ := hat.three
  unfold Rw.ranged at hr
  obtain ⟨x1, hx1⟩ : ∃ x : ByteArray, ⟨(Rw.cutE name.data.toList Rw.first).toArray⟩ = x := ⟨_, rfl⟩
  obtain ⟨x2, hx2⟩ : ∃ x : ByteArray, ⟨(Rw.cutE name.data.toList Rw.last).toArray⟩ = x := ⟨_, rfl⟩
  have hx1s : x1.size ≤ 1000000 := by
    rw [← hx1]
    show (Rw.cutE name.data.toList Rw.first).toArray.size ≤ 1000000
    unfold Rw.cutE
    split <;> simp <;> omega
  have hx2s : x2.size ≤ 1000000 := by
    rw [← hx2]
    show (Rw.cutE name.data.toList Rw.last).toArray.size ≤ 1000000
    unfold Rw.cutE
    split <;> simp <;> omega
  obtain ⟨b1, hb1⟩ : ∃ x, Rw.ends name.data.toList Rw.first = x := ⟨_, rfl⟩
  obtain ⟨b2, hb2⟩ : ∃ x, Rw.ends name.data.toList Rw.last = x := ⟨_, rfl⟩
  rw [hx1, hb1] at c1
  rw [hx2, hb2] at c2
  rw [hb1, hb2] at hr
  unfold Rw.firstB at c1
  unfold Rw.lastB at c2
  split at hr
  · split at hr
    · rename_i h1 h2
      obtain ⟨rfl, h2, h3⟩ := h2
      simp only [Option.some.injEq] at hr
      subst hr
      rw [h3] at hQ
      have hw : x2 ++ (⟨#[44, 32, 70, 105, 114, 115, 116, 62]⟩ : ByteArray) = was := by
        rw [← hx2, show (⟨#[44, 32, 70, 105, 114, 115, 116, 62]⟩ : ByteArray) = ⟨Rw.first.toArray⟩ from rfl, Fi.ba_app, h2, Lib.mk_data]
      have hwe : was.toList.isEmpty = false := by
        rw [Rw.empty_iff, ← h2]
        simp [Rw.first]
      subst hw
      have hsz : ¬ 9223372036854775807 < x2.size + (⟨#[44, 32, 70, 105, 114, 115, 116, 62]⟩ : ByteArray).size := by
        have : (⟨#[44, 32, 70, 105, 114, 115, 116, 62]⟩ : ByteArray).size = 8 := rfl
        omega
      clear h1 h2 h3 hx1 hx2 hb1 hb2
      go_enter Tryz.func51, Tryz.ntmps51
      go_wp2_with fail
      refine (c1 _).mono ?_
      rintro e w1 ⟨rfl, rfl⟩
      go_wp2_with fail
      refine (c2 _).mono ?_
      rintro e w2 ⟨rfl, rfl⟩
      go_wp2_with fail
      refine (hQ _).mono ?_
      rintro e w3 ⟨rfl, hb3⟩
      have HB := Lib.hid hb3
      clear hb3
      go_wp2_with fail
      go_ret
      exact ⟨rfl, ((hat.set 2 (.string ⟨#[]⟩)).alloc _).below HB.out, Rw.grown_trans (Rw.grown_trans (Rw.grown_set b 2 _) (World.grownBy_alloc _ _ _)) (Rw.grown_bel HB.out)⟩
    · cases hr
  · split at hr
    · rename_i h1 h2
      subst h2
      split at hr
      · rename_i h3
        simp only [Option.some.injEq] at hr
        subst hr
        rw [h3] at hQ
        have hw : x1 ++ (⟨#[44, 32, 70, 105, 114, 115, 116, 62]⟩ : ByteArray) = ⟨(Rw.cutE name.data.toList Rw.first ++ Rw.first).toArray⟩ := by
          rw [← hx1, show (⟨#[44, 32, 70, 105, 114, 115, 116, 62]⟩ : ByteArray) = ⟨Rw.first.toArray⟩ from rfl, Fi.ba_app]
        obtain ⟨hwn, hcl⟩ : was.data.toList = [] ∧ b2 = false := by
          refine ⟨?_, ?_⟩
          · rcases hl : was.data.toList with _ | ⟨x, r⟩
            · rfl
            · exact absurd (.inl (by rw [hl]; simp)) h1
          · cases b2
            · rfl
            · exact absurd (.inr rfl) h1
        have hwe : was.toList.isEmpty = true := by rw [Rw.empty_iff, hwn]; rfl
        have hsz : ¬ 9223372036854775807 < x1.size + (⟨#[44, 32, 70, 105, 114, 115, 116, 62]⟩ : ByteArray).size := by
          have : (⟨#[44, 32, 70, 105, 114, 115, 116, 62]⟩ : ByteArray).size = 8 := rfl
          omega
        subst hcl
        have HW := Lib.hid hw
        clear hw h1 h3 hx1 hx2 hb1 hb2 hwn
        go_enter Tryz.func51, Tryz.ntmps51
        go_wp2_with fail
        refine (c1 _).mono ?_
        rintro e w1 ⟨rfl, rfl⟩
        go_wp2_with fail
        refine (c2 _).mono ?_
        rintro e w2 ⟨rfl, rfl⟩
        go_wp2_with fail
        refine (hQ _).mono ?_
        rintro e w3 ⟨rfl, hb3⟩
        have HB := Lib.hid hb3
        clear hb3
        go_wp2_with fail
        go_ret
        refine ⟨rfl, ?_, Rw.grown_trans ?_ (Rw.grown_bel HB.out)⟩
        · rw [← HW.out]
          first | exact (((hat.set 2 _).set 2 _).alloc _).below HB.out | exact ((hat.set 2 _).alloc _).below HB.out | exact (((hat.set 2 _).alloc _).set 2 _).below HB.out
        · first | exact Rw.grown_trans (Rw.grown_trans (Rw.grown_set b 2 _) (Rw.grown_set b 2 _)) (World.grownBy_alloc _ _ _) | exact Rw.grown_trans (Rw.grown_set b 2 _) (World.grownBy_alloc _ _ _) | exact Rw.grown_trans (Rw.grown_trans (Rw.grown_set b 2 _) (World.grownBy_alloc _ _ _)) (Rw.grown_set b 2 _)
      · cases hr
    · rename_i h1 h2
      simp only [Option.some.injEq] at hr
      subst hr
      obtain ⟨hwn, hcl⟩ : was.data.toList = [] ∧ b2 = false := by
        refine ⟨?_, ?_⟩
        · rcases hl : was.data.toList with _ | ⟨x, r⟩
          · rfl
          · exact absurd (.inl (by rw [hl]; simp)) h1
        · cases b2
          · rfl
          · exact absurd (.inr rfl) h1
      have hop : b1 = false := by simpa using h2
      have hwe : was.toList.isEmpty = true := by rw [Rw.empty_iff, hwn]; rfl
      subst hcl hop
      clear h1 h2 hx1 hx2 hb1 hb2 hwn
      go_enter Tryz.func51, Tryz.ntmps51
      go_wp2_with fail
      refine (c1 _).mono ?_
      rintro e w1 ⟨rfl, rfl⟩
      go_wp2_with fail
      refine (c2 _).mono ?_
      rintro e w2 ⟨rfl, rfl⟩
      go_wp2_with fail
      go_ret
      exact ⟨rfl, (hat.set 2 (.string ⟨#[]⟩)).alloc _, Rw.grown_trans (Rw.grown_set b 2 _) (World.grownBy_alloc _ _ _)⟩
end Go.Proofs.YtppmcnpjglackaaGreatDoor
