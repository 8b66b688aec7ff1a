/- The layer field: Num, by walking its text. -/
import Derived.Test.YtppmcnpjglackaaGreatDoorFiNumPlain
import Derived.Test.YtppmcnpjglackaaGreatDoorShelf
import Derived.Shelf.Strconv.ErrVarAll
import Derived.WalkSmall
import Derived.Lib.LaidTab
import Derived.Lib.AppendIntMem
namespace Go.Proofs.YtppmcnpjglackaaGreatDoor
open Go.RowKit Go.Stop
set_option linter.unusedSimpArgs false
set_option linter.unusedVariables false

/-- What strconv reads: its table, its two errors. -/
def Fi.LaidN (w : World) : Prop := Lib.TabIs Tryz.prog w "internal/strconv.uint64pow10" .u64 Lib.pow10Tab ∧ (∃ tp p, w.var? Tryz.prog "strconv.ErrSyntax" = some #[.iface tp p]) ∧ ∃ tp p, w.var? Tryz.prog "strconv.ErrRange" = some #[.iface tp p]

theorem Fi.var_next {w w' : World} {n : String} {g : Nat} {cs : Array Value} (hg : Tryz.prog.globalNamed n = some g) (hv : w.var? Tryz.prog n = some cs) (hb : Below w.heap.size w w') : w'.var? Tryz.prog n = some cs := by
  refine var?_below hb hg ?_ hv
  rcases Nat.lt_or_ge g w.heap.size with h | h
  · exact h
  · unfold World.var? at hv
    simp [hg, Array.getElem?_eq_none h] at hv
theorem Fi.gSyn : Tryz.prog.globalNamed "strconv.ErrSyntax" = some 7 := by kernel_rfl
theorem Fi.gRng : Tryz.prog.globalNamed "strconv.ErrRange" = some 8 := by kernel_rfl
theorem Fi.LaidN.next {w w' : World} (h : Fi.LaidN w) (hb : Below w.heap.size w w') : Fi.LaidN w' := by
  obtain ⟨h1, ⟨tp, p, h2⟩, tp', p', h3⟩ := h
  exact ⟨Lib.tabBelow_of_tabIs h1 w' hb, ⟨tp, p, Fi.var_next Fi.gSyn h2 hb⟩, tp', p', Fi.var_next Fi.gRng h3 hb⟩

/-- strconv.Atoi of a text of few bytes. -/
theorem Fi.atoi_any (s : ByteArray) (hs : s.size ≤ 100000) (w : World) (hL : Fi.LaidN w) :
    Calls Tryz.prog 114 #[.string s] w fun e w' => Below w.heap.size w w' ∧
      ((∃ v, Lib.atoiAll s.data.toList = .ok v ∧ -9223372036854775808 ≤ v ∧ v ≤ 9223372036854775807 ∧ e = .returned (.tuple #[.int .i64 v, .nilIface])) ∨
       ((∀ v, Lib.atoiAll s.data.toList ≠ .ok v) ∧ ∃ v T p, e = .returned (.tuple #[.int .i64 v, .iface T p]))) := by
  obtain ⟨_, ⟨tp, p, h1⟩, tp', p', h2⟩ := hL
  rcases hh : Lib.atoiAll s.data.toList with v | _ | _
  · refine (Tryz.strconv_Atoi_ok s (by omega) v hh w).mono ?_
    rintro e w' ⟨rfl, hw⟩
    have hb := Lib.atoiAll_bounds hh
    refine ⟨?_, .inl ⟨v, rfl, hb.1, hb.2, rfl⟩⟩
    rcases hw with rfl | ⟨t, rfl⟩
    · exact Below.refl _ _
    · exact Lib.bytesWorld_below _ _ _
  · refine (Any.strconv_Atoi_syntax_var Tryz.laysC172 s (by omega) hh tp p w h1).mono ?_
    rintro e w' ⟨N, rfl, _, _, hb⟩
    exact ⟨hb, .inr ⟨(fun v h => by cases h), _, _, _, rfl⟩⟩
  · refine (Any.strconv_Atoi_range_var Tryz.laysC172 s (by omega) hh tp' p' w h2).mono ?_
    rintro e w' ⟨N, rfl, _, _, hb⟩
    exact ⟨hb, .inr ⟨(fun v h => by cases h), _, _, _, rfl⟩⟩

theorem Fi.itoa_any (n : Int) (h0 : -9223372036854775808 ≤ n) (h1 : n ≤ 9223372036854775807) (w : World) (hL : Fi.LaidN w) :
    Calls Tryz.prog 22 #[.int .i64 n] w fun e w' => e = .returned (.string ⟨(Lib.itoa n).toArray⟩) ∧ Below w.heap.size w w' := by
  refine (Tryz.strconv_Itoa n h0 h1 w hL.1).mono ?_
  rintro e w' ⟨he, k, os, rfl⟩
  refine ⟨he, rfl, rfl, rfl, by simp [Sort.grow], fun i hi => ?_⟩
  simp only [Sort.grow, World.heap_drewN]
  rw [Array.getElem?_append_left hi]

def Fi.RetNum (l : List UInt8) (most : Int) (e : Ending) : Prop := e = .returned (.tuple #[.int .i64 ((Fi.num l most).getD 0), .bool (Fi.num l most).isSome])

set_option maxRecDepth 100000 in
set_option maxHeartbeats 4000000 in
theorem Fi.num_any (s : ByteArray) (hs : s.size ≤ 100000) (most : Int) (hm : most ≤ 1000000000) (w : World) (hL : Fi.LaidN w) :
    Calls Tryz.prog 73 #[.string s, .int .i64 most] w fun e w' => Fi.RetNum s.data.toList most e ∧ Below w.heap.size w w' := by
  have hno : (∀ v : Int, 0 ≤ v → v ≤ most → Lib.atoiAll s.data.toList ≠ .ok v) → Fi.num s.data.toList most = none := fun h =>
    Fi.num_none_of fun u hu he => h u (by omega) hu (by rw [he]; exact Fi.atoi_dec u (by omega))
  go_enter Tryz.func73, Tryz.ntmps73
  go_wp2_with fail
  refine (Fi.atoi_any s hs _ hL).mono ?_
  rintro e w1 ⟨hb1, (⟨v, hv, v0, v1, rfl⟩ | ⟨hv, v, T, p, rfl⟩)⟩
  · rcases Int.lt_or_le v 0 with hneg | hpos
    · have hN := hno (fun u hu _ h => by rw [hv] at h; cases h; omega)
      clear hv hno
      go_wp2_with fail
      go_ret2
      exact ⟨by unfold Fi.RetNum; rw [hN]; rfl, hb1⟩
    have hpos' : ¬ v < 0 := by omega
    by_cases hbig : v > most
    · have hN := hno (fun u hu hu2 h => by rw [hv] at h; cases h; omega)
      clear hv hno
      go_wp2_with fail
      go_ret2
      exact ⟨by unfold Fi.RetNum; rw [hN]; rfl, hb1⟩
    have L1 : Fi.LaidN w1 := hL.next hb1
    have hit : Lib.itoa v = Lib.decDigits v.toNat := by unfold Lib.itoa; rw [if_neg (by omega)]
    have hsz : (Lib.itoa v).length ≤ 11 := by rw [hit]; have := Fi.dec_len 9 v.toNat (by rw [show (10 : Nat) ^ (9 + 1) = 10000000000 from by decide]; omega); omega
    obtain ⟨t, ht⟩ : ∃ t : ByteArray, (⟨(Lib.itoa v).toArray⟩ : ByteArray) = t := ⟨_, rfl⟩
    have htl : t.data.toList = Lib.decDigits v.toNat := by rw [← ht]; exact hit
    have hI := Fi.itoa_any v v0 v1 w1 L1
    rw [ht] at hI
    by_cases heq : t = s
    · have hN : Fi.num s.data.toList most = some v := by
        rw [← heq, htl, Fi.isNum_dec _ _ (by omega)]
        congr 1
        omega
      have HN := Lib.hid hN
      clear hv hno hit hsz ht htl hN
      go_wp2_with fail
      refine hI.mono ?_
      rintro e w2 ⟨rfl, hb2⟩
      subst heq
      go_wp2_with fail
      go_ret2
      exact ⟨by unfold Fi.RetNum; rw [HN.out]; rfl, hb1.trans (hb2.mono hb1.size)⟩
    · have hN : Fi.num s.data.toList most = none := Fi.num_none_of fun u hu he => heq (by
        have h1 := Fi.atoi_dec u (by omega)
        rw [← he, hv] at h1
        cases h1
        rw [← Lib.mk_data t, htl, ← Lib.mk_data s, he]
        simp)
      have HN := Lib.hid hN
      have hbeq : (t.toList == s.toList) = false := by
            rw [beq_eq_false_iff_ne, ByteArray.toList_eq, ByteArray.toList_eq]
            exact fun h => heq (by rw [← Lib.mk_data t, h, Lib.mk_data])
      clear hv hno hit hsz ht htl hN
      go_wp2_with fail
      refine hI.mono ?_
      rintro e w2 ⟨rfl, hb2⟩
      go_wp2_with fail
      go_ret2
      exact ⟨by unfold Fi.RetNum; rw [HN.out]; rfl, hb1.trans (hb2.mono hb1.size)⟩
  · have hN := hno (fun u _ _ h => hv u h)
    clear hv hno
    go_wp2_with fail
    go_ret2
    exact ⟨by unfold Fi.RetNum; rw [hN]; rfl, hb1⟩
end Go.Proofs.YtppmcnpjglackaaGreatDoor
