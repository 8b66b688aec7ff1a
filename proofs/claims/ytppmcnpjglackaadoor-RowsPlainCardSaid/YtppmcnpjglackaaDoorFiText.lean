/- The layer field: HexText, Strip, Split, by walking their texts. -/
import Derived.Test.YtppmcnpjglackaaDoorFiBits
import Derived.Test.YtppmcnpjglackaaDoorFiHex
import Derived.Lib.Case
import Derived.Lib.Repeat
namespace Go.Proofs.YtppmcnpjglackaaDoor
open Go.RowKit Go.Stop
set_option linter.unusedSimpArgs false
set_option linter.unusedVariables false

theorem Fi.Laid.below {w w' : World} (h : Fi.Laid w) (hb : Below w.heap.size w w') : Fi.Laid w' := by
  obtain ⟨⟨m, h1⟩, h2⟩ := h
  exact ⟨⟨m, by rw [(bcell hb).1 _ _ (World.block_lt_of_cell? w _ h1)]; exact h1⟩, by rw [(bcell hb).1 _ _ (World.block_lt_of_cell? w _ h2)]; exact h2⟩
theorem Fi.up_lo : ∀ d : Fin 16, Lib.upperB (Fi.lo d.val) = Fi.up d.val ∧ (Fi.lo d.val).toNat < 128 := by decide
theorem Fi.upper (l : List Nat) (h : ∀ d ∈ l, d < 16) : Lib.toUpperA (l.map Fi.lo) = l.map Fi.up := by
  unfold Lib.toUpperA
  rw [List.map_map]
  exact List.map_congr_left fun d hd => (Fi.up_lo ⟨d, h d hd⟩).1
theorem Fi.repeat0 : ∀ c, Lib.repeatL [48] c = List.replicate c 48
  | 0 => rfl
  | c + 1 => by rw [Lib.repeatL, Fi.repeat0 c]; rfl
theorem Fi.ba_app (a b : List UInt8) : (⟨a.toArray⟩ ++ ⟨b.toArray⟩ : ByteArray) = ⟨(a ++ b).toArray⟩ := by
  apply ByteArray.ext
  simp

/-- What stands ahead of a note, without blanks. -/
def Fi.strip (l : List UInt8) : List UInt8 := Lib.trimB (Lib.cut l [35]).1 32

theorem Fi.drewN_below (w : World) (n : Nat) : Below w.heap.size w (w.drewN n) := ⟨rfl, rfl, rfl, by simp [World.heap_drewN], fun k hk => by simp [World.heap_drewN]⟩

set_option maxRecDepth 100000 in
set_option maxHeartbeats 1000000 in
theorem Fi.strip_any (s : ByteArray) (hs : s.size < 4294967281) (w : World) (hL : Fi.Laid w) :
    Calls Tryd.prog 30 #[.string s] w fun e w' => e = .returned (.string ⟨(Fi.strip s.data.toList).toArray⟩) ∧ Below w.heap.size w w' := by
  obtain ⟨m, hm⟩ := hL.1
  have h1 := Tryd.strings_Cut s ⟨#[35]⟩ m w hs hm
  obtain ⟨a, ha⟩ : ∃ a, (⟨(Lib.cut s.data.toList [35]).1.toArray⟩ : ByteArray) = a := ⟨_, rfl⟩
  have hal : a.size ≤ s.size := by
    rw [← ha]
    show (Lib.cut s.data.toList [35]).1.toArray.size ≤ s.size
    have h2 : s.data.toList.length = s.size := by simp
    unfold Lib.cut
    split <;> simp <;> omega
  have h2 : ∀ W : World, Calls Tryd.prog 44 #[.string a, .string ⟨#[32]⟩] W fun e w' => e = .returned (.string ⟨(Fi.strip s.data.toList).toArray⟩) ∧ Below W.heap.size W w' := fun W => by
    refine (Tryd.strings_Trim_one a 32 (by decide) W (by omega)).mono ?_
    rintro e w' ⟨rfl, hw⟩
    refine ⟨by rw [← ha]; rfl, ?_⟩
    rcases hw with rfl | rfl
    · exact Below.refl _ _
    · exact (Below.refl _ _).drew
  rw [show (⟨#[35]⟩ : ByteArray).data.toList = [35] from rfl, ha] at h1
  clear ha hm hL
  go_enter Tryd.func30, Tryd.ntmps30
  go_wp2_with fail
  refine h1.mono ?_
  rintro e w1 ⟨rfl, q, rfl⟩
  go_wp2_with fail
  refine (h2 _).mono ?_
  rintro e w2 ⟨rfl, hb⟩
  go_wp2_with fail
  go_ret
  exact ⟨rfl, (Fi.drewN_below w q).trans (hb.mono (by simp [World.heap_drewN]))⟩

/-- A line's fields: a new row of texts. -/
def Fi.RetStrs (W : World) (l : List (List UInt8)) (e : Ending) (w' : World) : Prop :=
  ∃ (A : Option Addr) (n c : Nat), e = .returned (.slice A n c) ∧ l.length = n ∧ Sl w' w'.heap.size A (l.map fun x => Value.string ⟨x.toArray⟩) ∧ Below W.heap.size W w'
end Go.Proofs.YtppmcnpjglackaaDoor
