/- The layer field: HexText, Strip, Split, by walking their texts. -/
import Derived.Test.YtppmcnpjglackaaGreatDoorFiBits
import Derived.Test.YtppmcnpjglackaaGreatDoorFiHex
import Derived.Lib.Case
import Derived.Lib.Repeat
namespace Go.Proofs.YtppmcnpjglackaaGreatDoor
open Go.RowKit Go.Stop
set_option linter.unusedSimpArgs false
set_option linter.unusedVariables false

theorem Fi.Laid.below {w w' : World} (h : Fi.Laid w) (hb : Below w.heap.size w w') : Fi.Laid w' := by
  obtain ⟨⟨m, h1⟩, h2⟩ := h
  exact ⟨⟨m, by rw [(bcell hb).1 _ _ (World.block_lt_of_cell? w _ h1)]; exact h1⟩, by rw [(bcell hb).1 _ _ (World.block_lt_of_cell? w _ h2)]; exact h2⟩
theorem Fi.up_lo : ∀ d : Fin 16, Lib.upperB (Fi.lo d.val) = Fi.up d.val ∧ (Fi.lo d.val).toNat < 128 := by decide
theorem Fi.upper (l : List Nat) (h : ∀ d ∈ l, d < 16) : Lib.toUpperA (l.map Fi.lo) = l.map Fi.up := by
  unfold Lib.toUpperA
  rw [List.map_map]
  exact List.map_congr_left fun d hd => (Fi.up_lo ⟨d, h d hd⟩).1
theorem Fi.repeat0 : ∀ c, Lib.repeatL [48] c = List.replicate c 48
  | 0 => rfl
  | c + 1 => by rw [Lib.repeatL, Fi.repeat0 c]; rfl
theorem Fi.ba_app (a b : List UInt8) : (⟨a.toArray⟩ ++ ⟨b.toArray⟩ : ByteArray) = ⟨(a ++ b).toArray⟩ := by
  apply ByteArray.ext
  simp

set_option maxRecDepth 100000 in
set_option maxHeartbeats 1000000 in
theorem Fi.text_any (c : Nat) (hc : c < 16777216) (w : World) (hL : Fi.Laid w) :
    Calls Tryz.prog 21 #[.int .i32 c] w fun e w' => e = .returned (.string ⟨(Fi.text c).toArray⟩) ∧ Below w.heap.size w w' := by
  obtain ⟨n, hn⟩ : ∃ n, Fi.nd c = n := ⟨_, rfl⟩
  have hn1 := Fi.nd_pos c
  have hn6 : Fi.nd c ≤ 6 := Fi.nd_le 5 c (by rw [show (16 : Nat) ^ (5 + 1) = 16777216 from by decide]; exact hc)
  rw [hn] at hn1 hn6
  have h1 : ∀ W : World, Fi.Laid W → Calls Tryz.prog 42 #[.int .i64 c, .int .i64 16] W fun e w' => e = .returned (.string ⟨((Fi.low n c).map Fi.lo).toArray⟩) ∧ Below W.heap.size W w' := fun W hW => by rw [← hn]; exact Fi.format_any c hc W hW
  have h2 : ∀ W : World, Calls Tryz.prog 41 #[.string ⟨((Fi.low n c).map Fi.lo).toArray⟩] W fun e w' => e = .returned (.string ⟨((Fi.low n c).map Fi.up).toArray⟩) ∧ Below W.heap.size W w' := fun W => by
    have h := Tryz.strings_ToUpper_ascii ⟨((Fi.low n c).map Fi.lo).toArray⟩ W (by show ((Fi.low n c).map Fi.lo).toArray.size ≤ _; simp [Fi.low_len]; omega) (by
      intro j b hb
      have hm := List.mem_of_getElem? hb
      simp only [List.mem_map] at hm
      obtain ⟨d, hd, rfl⟩ := hm
      exact (Fi.up_lo ⟨d, Fi.low_lt _ _ d hd⟩).2)
    rw [show Lib.toUpperA (⟨((Fi.low n c).map Fi.lo).toArray⟩ : ByteArray).data.toList = (Fi.low n c).map Fi.up from Fi.upper _ (Fi.low_lt n c)] at h
    exact h
  have h3 : ∀ (W : World) (k : Nat), k ≤ 4 → Calls Tryz.prog 43 #[.string ⟨#[48]⟩, .int .i64 k] W fun e w' => e = .returned (.string ⟨(List.replicate k 48).toArray⟩) ∧ Below W.heap.size W w' := fun W k hk => by
    have h := Tryz.strings_Repeat ⟨#[48]⟩ k W (by omega) (by show 1 * k ≤ _; omega)
    rw [show (⟨#[48]⟩ : ByteArray).data.toList = [48] from rfl, Fi.repeat0] at h
    exact h
  have hlen : (⟨((Fi.low n c).map Fi.up).toArray⟩ : ByteArray).size = n := by show ((Fi.low n c).map Fi.up).toArray.size = n; simp [Fi.low_len]
  have hres : (⟨(List.replicate (4 - n) 48).toArray⟩ ++ ⟨((Fi.low n c).map Fi.up).toArray⟩ : ByteArray) = ⟨(Fi.text c).toArray⟩ := by
    rw [Fi.ba_app, Fi.text_eq, hn]
  have hrs : (⟨(List.replicate (4 - n) 48).toArray⟩ : ByteArray).size = 4 - n := by show (List.replicate (4 - n) (48 : UInt8)).toArray.size = _; simp
  obtain ⟨raw, hraw⟩ : ∃ raw, (⟨((Fi.low n c).map Fi.lo).toArray⟩ : ByteArray) = raw := ⟨_, rfl⟩
  obtain ⟨ups, hups⟩ : ∃ ups, (⟨((Fi.low n c).map Fi.up).toArray⟩ : ByteArray) = ups := ⟨_, rfl⟩
  obtain ⟨zs, hzs⟩ : ∃ zs, (⟨(List.replicate (4 - n) 48).toArray⟩ : ByteArray) = zs := ⟨_, rfl⟩
  rw [hups] at hlen hres
  rw [hzs] at hres hrs
  simp only [hraw] at h1 h2
  simp only [hups] at h2
  have h3' := fun W => h3 W (4 - n) (by omega)
  simp only [hzs] at h3'
  clear hraw hups hzs h3 hn
  have HR := Lib.hid hres
  clear hres
  have hcat : ¬ 9223372036854775807 < zs.size + ups.size := by omega
  go_enter Tryz.func21, Tryz.ntmps21
  go_wp2_with fail
  refine (h1 _ (by assumption)).mono ?_
  rintro e w1 ⟨rfl, hb1⟩
  go_wp2_with fail
  refine (h2 _).mono ?_
  rintro e w2 ⟨rfl, hb2⟩
  have hm : max (4 - (n : Int)) 0 = ((4 - n : Nat) : Int) := by omega
  go_wp2_with fail
  refine (h3' _).mono ?_
  rintro e w3 ⟨rfl, hb3⟩
  go_wp2_with fail
  go_ret
  refine ⟨by rw [HR.out]; rfl, (hb1.trans (hb2.mono hb1.size)).trans (hb3.mono (Nat.le_trans hb1.size hb2.size))⟩

/-- What stands ahead of a note, without blanks. -/
def Fi.strip (l : List UInt8) : List UInt8 := Lib.trimB (Lib.cut l [35]).1 32

theorem Fi.drewN_below (w : World) (n : Nat) : Below w.heap.size w (w.drewN n) := ⟨rfl, rfl, rfl, by simp [World.heap_drewN], fun k hk => by simp [World.heap_drewN]⟩

set_option maxRecDepth 100000 in
set_option maxHeartbeats 1000000 in
theorem Fi.strip_any (s : ByteArray) (hs : s.size < 4294967281) (w : World) (hL : Fi.Laid w) :
    Calls Tryz.prog 36 #[.string s] w fun e w' => e = .returned (.string ⟨(Fi.strip s.data.toList).toArray⟩) ∧ Below w.heap.size w w' := by
  obtain ⟨m, hm⟩ := hL.1
  have h1 := Tryz.strings_Cut s ⟨#[35]⟩ m w hs hm
  obtain ⟨a, ha⟩ : ∃ a, (⟨(Lib.cut s.data.toList [35]).1.toArray⟩ : ByteArray) = a := ⟨_, rfl⟩
  have hal : a.size ≤ s.size := by
    rw [← ha]
    show (Lib.cut s.data.toList [35]).1.toArray.size ≤ s.size
    have h2 : s.data.toList.length = s.size := by simp
    unfold Lib.cut
    split <;> simp <;> omega
  have h2 : ∀ W : World, Calls Tryz.prog 57 #[.string a, .string ⟨#[32]⟩] W fun e w' => e = .returned (.string ⟨(Fi.strip s.data.toList).toArray⟩) ∧ Below W.heap.size W w' := fun W => by
    refine (Tryz.strings_Trim_one a 32 (by decide) W (by omega)).mono ?_
    rintro e w' ⟨rfl, hw⟩
    refine ⟨by rw [← ha]; rfl, ?_⟩
    rcases hw with rfl | rfl
    · exact Below.refl _ _
    · exact (Below.refl _ _).drew
  rw [show (⟨#[35]⟩ : ByteArray).data.toList = [35] from rfl, ha] at h1
  clear ha hm hL
  go_enter Tryz.func36, Tryz.ntmps36
  go_wp2_with fail
  refine h1.mono ?_
  rintro e w1 ⟨rfl, q, rfl⟩
  go_wp2_with fail
  refine (h2 _).mono ?_
  rintro e w2 ⟨rfl, hb⟩
  go_wp2_with fail
  go_ret
  exact ⟨rfl, (Fi.drewN_below w q).trans (hb.mono (by simp [World.heap_drewN]))⟩

/-- A line's fields: a new row of texts. -/
def Fi.RetStrs (W : World) (l : List (List UInt8)) (e : Ending) (w' : World) : Prop :=
  ∃ (A : Option Addr) (n c : Nat), e = .returned (.slice A n c) ∧ l.length = n ∧ Sl w' w'.heap.size A (l.map fun x => Value.string ⟨x.toArray⟩) ∧ Below W.heap.size W w'
end Go.Proofs.YtppmcnpjglackaaGreatDoor
