/- The layer rows: plain, mapping, row, ranged, by walking their texts. -/
import Derived.Test.YtppmcnpjglackaaGreatDoorRwTab
import Derived.Test.YtppmcnpjglackaaGreatDoorFiNum
import Derived.Deep.DeepCutAuto
import Derived.BigQuiet
import Derived.Deep.QuietTactic
import Derived.Test.YtppmcnpjglackaaGreatDoorFiRef
import Derived.Test.YtppmcnpjglackaaGreatDoorCpUtf
import Derived.BigRegion
import Derived.Deep.RegionWith
import Derived.Deep.RegionLaw
import Derived.Deep.RegionHeld3
namespace Go.Proofs.YtppmcnpjglackaaGreatDoor
open Go.RowKit
set_option linter.unusedSimpArgs false
set_option linter.unusedVariables false

/-- A row's value. -/
def Rw.val (c k : Int) (A : Option Addr) (n cp : Nat) : Value := .agg #[.int .i32 c, .int .i64 k, .slice A n cp]

set_option maxHeartbeats 1000000 in
theorem Rw.quiet_any (c k : Int) (A : Option Addr) (n cp : Nat) (w : World) :
    Calls Tryz.prog 52 #[.agg #[.int .i32 c, .int .i64 k, .slice A n cp]] w fun e w' => e = .returned (.bool (decide (k = 0) && decide (n = 0))) ∧ Below w.heap.size w w' := by
  by_cases hk : k = 0
  · subst hk
    rcases Nat.eq_zero_or_pos n with rfl | hn
    · go_enter Tryz.func52, Tryz.ntmps52
      go_wp2
      go_ret
      exact ⟨rfl, (Below.refl _ _).alloc (Nat.le_refl _) _⟩
    · have h1 : ((n : Int) == 0) = false := by simp; omega
      go_enter Tryz.func52, Tryz.ntmps52
      go_wp2
      go_ret
      exact ⟨by rw [decide_eq_false (show ¬ n = 0 by omega)]; rfl, (Below.refl _ _).alloc (Nat.le_refl _) _⟩
  · have h1 : (k == 0) = false := by simp [hk]
    go_enter Tryz.func52, Tryz.ntmps52
    go_wp2
    go_ret
    exact ⟨by rw [decide_eq_false hk]; rfl, (Below.refl _ _).alloc (Nat.le_refl _) _⟩

theorem Rw.cut0_any (s e : ByteArray) (hs : s.size ≤ 1000000) (he : e.size ≤ 1000) (w : World) :
    Calls Tryz.prog 116 #[.string s, .string e] w fun x w' => x = .returned (.tuple #[.string ⟨(Rw.cutE s.data.toList e.data.toList).toArray⟩, .bool (Rw.ends s.data.toList e.data.toList)]) ∧ w' = w := by
  have hH := fun w => Tryz.stringslite_HasSuffix s e w (by omega)
  have hE : Lib.hasSuffix s.data.toList e.data.toList = Rw.ends s.data.toList e.data.toList := by
    unfold Lib.hasSuffix Rw.ends
    rw [Bool.eq_iff_iff, List.isSuffixOf_iff_suffix, Bool.and_eq_true, decide_eq_true_eq, beq_iff_eq, List.suffix_iff_eq_drop]
    constructor
    · intro h
      refine ⟨?_, h.symm⟩
      have := congrArg List.length h
      rw [List.length_drop] at this
      omega
    · exact fun h => h.2.symm
  obtain ⟨b, hb⟩ : ∃ b, Rw.ends s.data.toList e.data.toList = b := ⟨_, rfl⟩
  rw [hE] at hH
  cases b
  · have hc : (⟨(Rw.cutE s.data.toList e.data.toList).toArray⟩ : ByteArray) = s := by
      unfold Rw.cutE
      rw [hb, if_neg (by decide), Lib.mk_data]
    simp only [hb] at hH
    rw [hc, hb]
    clear hc hb hE
    go_enter Tryz.func116, Tryz.ntmps116
    go_wp2_with (refine (hH _).mono ?_; rintro x w1 ⟨rfl, rfl⟩)
    go_ret2
    exact ⟨rfl, rfl⟩
  · have hle : e.size ≤ s.size := by
      have h1 := hb
      unfold Rw.ends at h1
      rw [Bool.and_eq_true, decide_eq_true_eq] at h1
      simpa using h1.1
    have hc : s.extract 0 (s.size - e.size) = ⟨(Rw.cutE s.data.toList e.data.toList).toArray⟩ := by
      unfold Rw.cutE
      rw [hb, if_pos rfl, ← Lib.mk_data (s.extract 0 (s.size - e.size)), Lib.extract_data]
      simp
    simp only [hb] at hH
    rw [hb, ← hc]
    have h1 : (e.size : Int) ≤ s.size := by omega
    have h2 : (0 : Int) ≤ (s.size : Int) - e.size := by omega
    have h3 : (s.size : Int) - e.size ≤ s.size := by omega
    clear hc hb hE
    go_enter Tryz.func116, Tryz.ntmps116
    go_wp2_with (refine (hH _).mono ?_; rintro x w1 ⟨rfl, rfl⟩)
    go_ret2
    exact ⟨rfl, rfl⟩
theorem Rw.cut_any (s e : ByteArray) (hs : s.size ≤ 1000000) (he : e.size ≤ 1000) (w : World) :
    Calls Tryz.prog 75 #[.string s, .string e] w fun x w' => x = .returned (.tuple #[.string ⟨(Rw.cutE s.data.toList e.data.toList).toArray⟩, .bool (Rw.ends s.data.toList e.data.toList)]) ∧ w' = w := by
  go_enter Tryz.func75, Tryz.ntmps75
  go_wp2_with (refine (Rw.cut0_any s e hs he _).mono ?_; rintro x w1 ⟨rfl, rfl⟩)
  go_ret2
  exact ⟨rfl, rfl⟩

theorem Rw.head0 {s : ByteArray} {b : UInt8} (h : s.data.toList.head? = some b) : ∃ h : 0 < s.size, s[0] = b := by
  have h1 : 0 < s.size := by
    rcases hl : s.data.toList with _ | ⟨c, r⟩
    · rw [hl] at h; cases h
    · have : s.data.toList.length = s.size := by simp
      rw [hl] at this; simp at this; omega
  rw [Fi.head_get s h1] at h
  exact ⟨h1, by simpa using h⟩
theorem Rw.head1 {s : ByteArray} {b : UInt8} (hne : s.data.toList ≠ []) (h : s.data.toList.head? ≠ some b) : ∃ h : 0 < s.size, s[0] ≠ b := by
  have h1 : 0 < s.size := by
    have : s.data.toList.length = s.size := by simp
    rcases hl : s.data.toList with _ | ⟨c, r⟩
    · exact absurd hl hne
    · rw [hl] at this; simp at this; omega
  rw [Fi.head_get s h1] at h
  exact ⟨h1, by simpa using h⟩
/-- What a field's mapping answers. -/
def Rw.RetMap (m : List Int) (w : World) (e : Ending) (w' : World) : Prop :=
  ∃ A c, e = .returned (.tuple #[.slice A m.length c, .bool true]) ∧ Slt w' 21 A (m.map (Value.int .i32)) ∧ Below w.heap.size w w'
theorem Rw.mapping_any (s : ByteArray) (hs : s.size ≤ 1000000) (m : List Int) (hm : Rw.mp s.data.toList = some m) (w : World) :
    Calls Tryz.prog 74 #[.string s] w (Rw.RetMap m w) := by
  unfold Rw.mp at hm
  split at hm
  · rename_i h0
    simp only [Option.some.injEq] at hm
    subst hm
    rcases h0 with h0 | h0
    · have he : s.toList.isEmpty = true := by rw [ByteArray.toList_eq s, h0]; rfl
      clear h0
      go_enter Tryz.func74, Tryz.ntmps74
      go_wp2
      go_ret2
      exact ⟨none, 0, rfl, Slt.nil _ _ _, Below.refl _ _⟩
    · obtain ⟨h1, h2⟩ := Rw.head0 h0
      have he : s.toList.isEmpty = false := by
        rw [ByteArray.toList_eq s]
        rcases hl : s.data.toList with _ | ⟨b, r⟩
        · rw [hl] at h0; cases h0
        · rfl
      have h3 : (s[0].toNat : Int) = 60 := by rw [h2]; rfl
      have h4 : (0 : Int) < s.size := by omega
      clear h0 h2
      go_enter Tryz.func74, Tryz.ntmps74
      go_wp2
      go_ret2
      exact ⟨none, 0, rfl, Slt.nil _ _ _, Below.refl _ _⟩
  · rename_i h0
    split at hm
    · rename_i h5
      obtain ⟨h5, h6⟩ := h5
      simp only [Option.some.injEq] at hm
      have hne : s.data.toList ≠ [] := fun e => h0 (.inl e)
      obtain ⟨h1, h2⟩ := Rw.head1 hne fun e => h0 (.inr e)
      have he : s.toList.isEmpty = false := by
        rw [ByteArray.toList_eq s]
        rcases hl : s.data.toList with _ | ⟨b, r⟩
        · exact absurd hl hne
        · rfl
      have h3 : ((s[0].toNat : Int) == 60) = false := by
        have : s[0].toNat ≠ 60 := fun e => h2 (UInt8.toNat_inj.1 e)
        simp; omega
      have h4 : (0 : Int) < s.size := by omega
      have hH := Q.hexesT_any s hs
      have hall : (Q.bas (Fi.spl 32 [] s.data.toList)).all Q.ok = true := by
        unfold Q.bas
        rw [List.all_map]
        exact h5
      have hlen : (Q.bas (Fi.spl 32 [] s.data.toList)).length = m.length := by
        unfold Q.bas
        rw [List.length_map, ← hm, List.length_map]
      have hvals : Q.vals (Q.bas (Fi.spl 32 [] s.data.toList)) = m.map (Value.int .i32) := by
        rw [← hm]
        unfold Q.vals Q.bas Q.val
        rw [List.map_map, List.map_map]
        rfl
      unfold Q.RetHexesT at hH
      simp only [hall, if_true, hlen, hvals] at hH
      have hm2 : m.length ≤ 2 := by rw [← hm, List.length_map]; exact h6
      have h7 : (m.length : Int) ≤ 2 := by omega
      clear h0 h5 h6 hm hne h2 hall hlen hvals
      go_enter Tryz.func74, Tryz.ntmps74
      go_wp2_with fail
      refine (hH _).mono ?_
      rintro e w1 ⟨A, c, rfl, hS, hb⟩
      have HS := Lib.hid hS
      have HB := Lib.hid hb
      clear hS hb hH
      go_wp2_with fail
      go_ret2
      exact ⟨A, c, rfl, HS.out, HB.out⟩
    · cases hm

/-- What a line's row answers. -/
def Rw.RetRow (r : Rw.Row) (w : World) (e : Ending) (w' : World) : Prop :=
  ∃ A c, e = .returned (.tuple #[.agg #[.int .i32 r.1, .int .i64 r.2.1, .slice A r.2.2.length c], .string ⟨#[]⟩]) ∧ Slt w' 21 A (r.2.2.map (Value.int .i32)) ∧ Below w.heap.size w w'
theorem Rw.row_some {F : List (List UInt8)} {r : Rw.Row} (h : Rw.row F = some r) : ∃ f0 f1 f3 f5, F.length = 15 ∧ F[0]? = some f0 ∧ F[1]? = some f1 ∧ F[3]? = some f3 ∧ F[5]? = some f5 ∧ f1 ≠ [] ∧ Fi.hex f0 = some r.1 ∧ Fi.num f3 254 = some r.2.1 ∧ Rw.mp f5 = some r.2.2 := by
  unfold Rw.row at h
  split at h
  · rename_i h0
    obtain ⟨h0, h1⟩ := h0
    have g : ∀ i, i < 15 → F[i]? = some (F.getD i []) := fun i hi => by
      rw [List.getElem?_eq_getElem (by omega), List.getD_eq_getElem?_getD, List.getElem?_eq_getElem (by omega)]; rfl
    rcases hc : Fi.hex (F.getD 0 []) with _ | c
    · rw [hc] at h; cases h
    rcases hk : Fi.num (F.getD 3 []) 254 with _ | k
    · rw [hc, hk] at h; cases h
    rcases hm : Rw.mp (F.getD 5 []) with _ | m
    · rw [hc, hk, hm] at h; cases h
    rw [hc, hk, hm] at h
    simp only [Option.bind_some, Option.map_some, Option.some.injEq] at h
    subst h
    exact ⟨_, _, _, _, h0, g 0 (by omega), g 1 (by omega), g 3 (by omega), g 5 (by omega), h1, hc, hk, hm⟩
  · cases h

set_option maxRecDepth 100000 in
set_option maxHeartbeats 4000000 in
theorem Rw.row_any (A : Option Addr) (n cp B : Nat) (F : List (List UInt8)) (r : Rw.Row) (w : World) (hF : Rw.row F = some r) (hn : F.length = n) (hB : B ≤ w.heap.size) (hA : Sl w B A (F.map fun x => Value.string ⟨x.toArray⟩))
    (hsz : ∀ x ∈ F, x.length ≤ 100000) (hL : Fi.LaidN w) : Calls Tryz.prog 50 #[.slice A n cp] w (Rw.RetRow r w) := by
  obtain ⟨f0, f1, f3, f5, h15, i0, i1, i3, i5, hne, hhex, hnum, hmp⟩ := Rw.row_some hF
  obtain rfl : n = 15 := by omega
  obtain ⟨b, o, rfl, hb, hc⟩ := hA (by rw [List.length_map]; omega)
  have hc0 := hc 0 (by rw [List.length_map]; omega)
  have hc1 := hc 1 (by rw [List.length_map]; omega)
  have hc3 := hc 3 (by rw [List.length_map]; omega)
  have hc5 := hc 5 (by rw [List.length_map]; omega)
  rw [List.getElem?_map, i0, Option.map_some] at hc0
  rw [List.getElem?_map, i1, Option.map_some] at hc1
  rw [List.getElem?_map, i3, Option.map_some] at hc3
  rw [List.getElem?_map, i5, Option.map_some] at hc5
  have s3 := hsz f3 (List.mem_of_getElem? i3)
  have s5 := hsz f5 (List.mem_of_getElem? i5)
  obtain ⟨b0, hb0⟩ : ∃ x : ByteArray, ⟨f0.toArray⟩ = x := ⟨_, rfl⟩
  obtain ⟨b1, hb1⟩ : ∃ x : ByteArray, ⟨f1.toArray⟩ = x := ⟨_, rfl⟩
  obtain ⟨b3, hb3⟩ : ∃ x : ByteArray, ⟨f3.toArray⟩ = x := ⟨_, rfl⟩
  obtain ⟨b5, hb5⟩ : ∃ x : ByteArray, ⟨f5.toArray⟩ = x := ⟨_, rfl⟩
  have H1 : ∀ W : World, Calls Tryz.prog 58 #[.string b0] W fun e w' => e = .returned (.tuple #[.int .i32 r.1, .bool true]) ∧ w' = W := fun W => (Fi.hex_any b0 W).mono fun e w' h => ⟨by
    have := h.1
    unfold Fi.RetHex at this
    rw [this, ← hb0, show (⟨f0.toArray⟩ : ByteArray).data.toList = f0 from rfl, hhex]; rfl, h.2⟩
  have H2 : ∀ W : World, Fi.LaidN W → Calls Tryz.prog 73 #[.string b3, .int .i64 254] W fun e w' => e = .returned (.tuple #[.int .i64 r.2.1, .bool true]) ∧ Below W.heap.size W w' := fun W hW => (Fi.num_any b3 (by rw [← hb3]; show f3.toArray.size ≤ _; simpa using s3) 254 (by decide) W hW).mono fun e w' h => ⟨by
    have := h.1
    unfold Fi.RetNum at this
    rw [this, ← hb3, show (⟨f3.toArray⟩ : ByteArray).data.toList = f3 from rfl, hnum]; rfl, h.2⟩
  have H3 := Rw.mapping_any b5 (by rw [← hb5]; show f5.toArray.size ≤ _; simp; omega) r.2.2 (by rw [← hb5]; exact hmp)
  have e1 : b1.toList.isEmpty = false := by
    rw [← hb1, ByteArray.toList_eq]
    rcases hl : f1 with _ | ⟨x, t⟩
    · exact absurd hl hne
    · rfl
  rw [hb0] at hc0
  rw [hb1] at hc1
  rw [hb3] at hc3
  rw [hb5] at hc5
  rw [Nat.add_zero] at hc0
  obtain ⟨c, k, m⟩ := r
  simp only at H1 H2 H3
  have hbw : b < w.heap.size := by omega
  clear hc hA hF h15 i0 i1 i3 i5 hne hhex hnum hmp hb0 hb1 hb3 hb5 hsz s3 s5 hn
  go_enter Tryz.func50, Tryz.ntmps50
  go_wp2_with fail
  refine (H1 _).mono ?_
  rintro e w1 ⟨rfl, rfl⟩
  go_wp2_with fail
  refine (H2 _ (hL.next (((Below.refl _ _).alloc (Nat.le_refl _) _).alloc (by simp) _))).mono ?_
  rintro e w2 ⟨rfl, hb2⟩
  have k1 : Rw.At w2 w.heap.size 31 [.int .i32 0, .int .i64 0, .slice none 0 0] := ((Rw.At.new w 31 [.int .i32 0, .int .i64 0, .slice none 0 0]).alloc _).below hb2
  have k2 : Rw.At w2 (w.heap.size + 1) 31 [.int .i32 c, .int .i64 0, .slice none 0 0] := by
    have h := Rw.At.new (w.alloc (.cells #[.int .i32 0, .int .i64 0, .slice none 0 0] 31)) 31 [.int .i32 c, .int .i64 0, .slice none 0 0]
    rw [World.size_alloc] at h
    exact h.below hb2
  have hbb2 : Below w.heap.size w w2 := (((Below.refl w.heap.size w).alloc (Nat.le_refl _) _).alloc (by simp) _).trans (hb2.mono (by simp; omega))
  obtain ⟨d1, d2, d3, d4, d5, d6⟩ := k2.three
  have c5 := ((bcell hbb2).1 _ _ hbw).trans hc5
  clear hc0 hc1 hc3 hc5 hb2
  go_wp2_with fail
  refine (H3 _).mono ?_
  rintro e w3 ⟨Am, cm, rfl, hS, hb3⟩
  have k3 := (k1.other (show w.heap.size ≠ w.heap.size + 1 by omega) (.int .i64 k) (i := 1)).below hb3
  have k4 := (k2.set 1 (.int .i64 k)).below hb3
  simp only [List.set_cons_succ, List.set_cons_zero] at k4
  have hbb3 : Below w.heap.size w w3 := (hbb2.setCell (p := ⟨w.heap.size + 1, 1, none⟩) (Nat.le_succ _) (.int .i64 k)).trans (hb3.mono (Nat.le_trans hbb2.size (KeepsWalks.setCell w2 _ (.int .i64 k)).size))
  obtain ⟨g1, g2, g3, g4, g5, g6⟩ := k3.three
  obtain ⟨m1, m2, m3, m4, m5, m6⟩ := k4.three
  have HS := Lib.hid hS
  have HB := Lib.hid hbb3
  clear hS hb3 hbb3 hbb2 k1 k2 d1 d2 d3 d4 d5 d6 c5
  go_wp2_with fail
  have j1 := k4.set 2 (.slice Am m.length cm)
  have j2 := k3.other (show w.heap.size ≠ w.heap.size + 1 by omega) (.slice Am m.length cm) (i := 2)
  have j3 := j2.set 0 (.int .i32 c)
  have j4 := j3.set 1 (.int .i64 k)
  have j5 := j4.set 2 (.slice Am m.length cm)
  refine bodyPost_ret (Rw.results2 rfl _ _ w.heap.size _ _ _ _ rfl j5 Tryz.underlying31 rfl (by kernel_rfl)) rfl ⟨Am, cm, rfl, ?_, ?_⟩
  · exact ((((HS.out.setAt k4 (by decide) 2 _).setAt j2 (by decide) 0 _).setAt j3 (by decide) 1 _).setAt j4 (by decide) 2 _)
  · exact (((HB.out.setCell (p := ⟨w.heap.size + 1, 2, none⟩) (Nat.le_succ _) _).setCell (p := ⟨w.heap.size, 0, none⟩) (Nat.le_refl _) _).setCell (p := ⟨w.heap.size, 1, none⟩) (Nat.le_refl _) _).setCell (p := ⟨w.heap.size, 2, none⟩) (Nat.le_refl _) _
end Go.Proofs.YtppmcnpjglackaaGreatDoor

/- The layer rows: ranged, by walking its text. -/
namespace Go.Proofs.YtppmcnpjglackaaGreatDoor
open Go.RowKit
set_option linter.unusedSimpArgs false
set_option linter.unusedVariables false

def Rw.firstB : ByteArray := ⟨#[44, 32, 70, 105, 114, 115, 116, 62]⟩
def Rw.lastB : ByteArray := ⟨#[44, 32, 76, 97, 115, 116, 62]⟩
/-- What a range turns: the reader's third field alone. -/
def Rw.RetRange (b : Nat) (vo : Value) (code : Int) (o : List UInt8) (w : World) (e : Ending) (w' : World) : Prop :=
  e = .returned (.bool true) ∧ Rw.At w' b 62 [vo, .int .i32 code, .string ⟨o.toArray⟩] ∧ w.grownBy w' (some b)
theorem Rw.grown_set {w : World} (b i : Nat) (v : Value) : w.grownBy (w.setCell ⟨b, i, none⟩ v) (some b) :=
  ⟨rfl, rfl, rfl, (KeepsWalks.setCell w _ v).size, fun k _ hk => Below.heap_setCell _ _ _ k (fun e => hk (by rw [show k = b from e]))⟩
theorem Rw.grown_trans {w w' w'' : World} {row : Option Nat} (h : w.grownBy w' row) (h' : w'.grownBy w'' row) : w.grownBy w'' row :=
  ⟨h'.os.trans h.os, h'.tape.trans h.tape, h'.output.trans h.output, Nat.le_trans h.size h'.size, fun k hk hne => (h'.block k (Nat.lt_of_lt_of_le hk h.size) hne).trans (h.block k hk hne)⟩
theorem Rw.grown_bel {w w' : World} {row : Option Nat} (h : Below w.heap.size w w') : w.grownBy w' row := ⟨h.os, h.tape, h.output, h.size, fun k hk _ => h.block k hk⟩
theorem Rw.grown_row {w w' : World} {row : Option Nat} (h : w.grownBy w' none) : w.grownBy w' row := ⟨h.os, h.tape, h.output, h.size, fun k hk _ => h.block k hk (by simp)⟩
theorem Rw.empty_iff (s : ByteArray) : s.toList.isEmpty = s.data.toList.isEmpty := by rw [ByteArray.toList_eq s]

set_option maxRecDepth 100000 in
set_option maxHeartbeats 4000000 in
theorem Rw.ranged_any (b : Nat) (vo : Value) (code : Int) (was name : ByteArray) (c k : Int) (A : Option Addr) (n cp : Nat) (o : List UInt8) (w : World) (hv : vo.oneCell' = true)
    (hat : Rw.At w b 62 [vo, .int .i32 code, .string was]) (hs : name.size ≤ 1000000) (hr : Rw.ranged was.data.toList name.data.toList (decide (k = 0) && decide (n = 0)) = some o) :
    Calls Tryz.prog 51 #[.pointer (some ⟨b, 0, none⟩), .string name, .agg #[.int .i32 c, .int .i64 k, .slice A n cp]] w (Rw.RetRange b vo code o w) := by
  have c1 := Rw.cut_any name Rw.firstB hs (by decide)
  have c2 := Rw.cut_any name Rw.lastB hs (by decide)
  rw [show Rw.firstB.data.toList = Rw.first from rfl] at c1
  rw [show Rw.lastB.data.toList = Rw.last from rfl] at c2
  have hQ := Rw.quiet_any c k A n cp
  have hlt := hat.lt
  obtain ⟨d1, d2, d3, d4, d5, d6⟩ := hat.three
  unfold Rw.ranged at hr
  obtain ⟨x1, hx1⟩ : ∃ x : ByteArray, ⟨(Rw.cutE name.data.toList Rw.first).toArray⟩ = x := ⟨_, rfl⟩
  obtain ⟨x2, hx2⟩ : ∃ x : ByteArray, ⟨(Rw.cutE name.data.toList Rw.last).toArray⟩ = x := ⟨_, rfl⟩
  have hx1s : x1.size ≤ 1000000 := by
    rw [← hx1]
    show (Rw.cutE name.data.toList Rw.first).toArray.size ≤ 1000000
    unfold Rw.cutE
    split <;> simp <;> omega
  have hx2s : x2.size ≤ 1000000 := by
    rw [← hx2]
    show (Rw.cutE name.data.toList Rw.last).toArray.size ≤ 1000000
    unfold Rw.cutE
    split <;> simp <;> omega
  obtain ⟨b1, hb1⟩ : ∃ x, Rw.ends name.data.toList Rw.first = x := ⟨_, rfl⟩
  obtain ⟨b2, hb2⟩ : ∃ x, Rw.ends name.data.toList Rw.last = x := ⟨_, rfl⟩
  rw [hx1, hb1] at c1
  rw [hx2, hb2] at c2
  rw [hb1, hb2] at hr
  unfold Rw.firstB at c1
  unfold Rw.lastB at c2
  split at hr
  · split at hr
    · rename_i h1 h2
      obtain ⟨rfl, h2, h3⟩ := h2
      simp only [Option.some.injEq] at hr
      subst hr
      rw [h3] at hQ
      have hw : x2 ++ (⟨#[44, 32, 70, 105, 114, 115, 116, 62]⟩ : ByteArray) = was := by
        rw [← hx2, show (⟨#[44, 32, 70, 105, 114, 115, 116, 62]⟩ : ByteArray) = ⟨Rw.first.toArray⟩ from rfl, Fi.ba_app, h2, Lib.mk_data]
      have hwe : was.toList.isEmpty = false := by
        rw [Rw.empty_iff, ← h2]
        simp [Rw.first]
      subst hw
      have hsz : ¬ 9223372036854775807 < x2.size + (⟨#[44, 32, 70, 105, 114, 115, 116, 62]⟩ : ByteArray).size := by
        have : (⟨#[44, 32, 70, 105, 114, 115, 116, 62]⟩ : ByteArray).size = 8 := rfl
        omega
      clear h1 h2 h3 hx1 hx2 hb1 hb2
      go_enter Tryz.func51, Tryz.ntmps51
      go_wp2_with fail
      refine (c1 _).mono ?_
      rintro e w1 ⟨rfl, rfl⟩
      go_wp2_with fail
      refine (c2 _).mono ?_
      rintro e w2 ⟨rfl, rfl⟩
      go_wp2_with fail
      refine (hQ _).mono ?_
      rintro e w3 ⟨rfl, hb3⟩
      have HB := Lib.hid hb3
      clear hb3
      go_wp2_with fail
      go_ret
      exact ⟨rfl, ((hat.set 2 (.string ⟨#[]⟩)).alloc _).below HB.out, Rw.grown_trans (Rw.grown_trans (Rw.grown_set b 2 _) (World.grownBy_alloc _ _ _)) (Rw.grown_bel HB.out)⟩
    · cases hr
  · split at hr
    · rename_i h1 h2
      subst h2
      split at hr
      · rename_i h3
        simp only [Option.some.injEq] at hr
        subst hr
        rw [h3] at hQ
        have hw : x1 ++ (⟨#[44, 32, 70, 105, 114, 115, 116, 62]⟩ : ByteArray) = ⟨(Rw.cutE name.data.toList Rw.first ++ Rw.first).toArray⟩ := by
          rw [← hx1, show (⟨#[44, 32, 70, 105, 114, 115, 116, 62]⟩ : ByteArray) = ⟨Rw.first.toArray⟩ from rfl, Fi.ba_app]
        obtain ⟨hwn, hcl⟩ : was.data.toList = [] ∧ b2 = false := by
          refine ⟨?_, ?_⟩
          · rcases hl : was.data.toList with _ | ⟨x, r⟩
            · rfl
            · exact absurd (.inl (by rw [hl]; simp)) h1
          · cases b2
            · rfl
            · exact absurd (.inr rfl) h1
        have hwe : was.toList.isEmpty = true := by rw [Rw.empty_iff, hwn]; rfl
        have hsz : ¬ 9223372036854775807 < x1.size + (⟨#[44, 32, 70, 105, 114, 115, 116, 62]⟩ : ByteArray).size := by
          have : (⟨#[44, 32, 70, 105, 114, 115, 116, 62]⟩ : ByteArray).size = 8 := rfl
          omega
        subst hcl
        have HW := Lib.hid hw
        clear hw h1 h3 hx1 hx2 hb1 hb2 hwn
        go_enter Tryz.func51, Tryz.ntmps51
        go_wp2_with fail
        refine (c1 _).mono ?_
        rintro e w1 ⟨rfl, rfl⟩
        go_wp2_with fail
        refine (c2 _).mono ?_
        rintro e w2 ⟨rfl, rfl⟩
        go_wp2_with fail
        refine (hQ _).mono ?_
        rintro e w3 ⟨rfl, hb3⟩
        have HB := Lib.hid hb3
        clear hb3
        go_wp2_with fail
        go_ret
        refine ⟨rfl, ?_, Rw.grown_trans ?_ (Rw.grown_bel HB.out)⟩
        · rw [← HW.out]
          first | exact (((hat.set 2 _).set 2 _).alloc _).below HB.out | exact ((hat.set 2 _).alloc _).below HB.out | exact (((hat.set 2 _).alloc _).set 2 _).below HB.out
        · first | exact Rw.grown_trans (Rw.grown_trans (Rw.grown_set b 2 _) (Rw.grown_set b 2 _)) (World.grownBy_alloc _ _ _) | exact Rw.grown_trans (Rw.grown_set b 2 _) (World.grownBy_alloc _ _ _) | exact Rw.grown_trans (Rw.grown_trans (Rw.grown_set b 2 _) (World.grownBy_alloc _ _ _)) (Rw.grown_set b 2 _)
      · cases hr
    · rename_i h1 h2
      simp only [Option.some.injEq] at hr
      subst hr
      obtain ⟨hwn, hcl⟩ : was.data.toList = [] ∧ b2 = false := by
        refine ⟨?_, ?_⟩
        · rcases hl : was.data.toList with _ | ⟨x, r⟩
          · rfl
          · exact absurd (.inl (by rw [hl]; simp)) h1
        · cases b2
          · rfl
          · exact absurd (.inr rfl) h1
      have hop : b1 = false := by simpa using h2
      have hwe : was.toList.isEmpty = true := by rw [Rw.empty_iff, hwn]; rfl
      subst hcl hop
      clear h1 h2 hx1 hx2 hb1 hb2 hwn
      go_enter Tryz.func51, Tryz.ntmps51
      go_wp2_with fail
      refine (c1 _).mono ?_
      rintro e w1 ⟨rfl, rfl⟩
      go_wp2_with fail
      refine (c2 _).mono ?_
      rintro e w2 ⟨rfl, rfl⟩
      go_wp2_with fail
      go_ret
      exact ⟨rfl, (hat.set 2 (.string ⟨#[]⟩)).alloc _, Rw.grown_trans (Rw.grown_set b 2 _) (World.grownBy_alloc _ _ _)⟩
end Go.Proofs.YtppmcnpjglackaaGreatDoor

/- The document's answers for the layer field: Split, Strip, by walking their texts; field.Split; the laws' same. -/
namespace Go.Proofs.YtppmcnpjglackaaGreatDoor
open Go.RowKit Go.Stop
set_option linter.unusedSimpArgs false
set_option linter.unusedVariables false

theorem Fi.infoStr : (Tryz.prog.info? 9).map (fun i => (i.zero, i.size, i.bytes)) = some (some (.string ByteArray.empty), 1, 16) := by kernel_rfl
def Fi.vs (l : List (List UInt8)) : List Value := l.map fun x => Value.string ⟨x.toArray⟩
theorem Fi.vs_len (l : List (List UInt8)) : (Fi.vs l).length = l.length := by simp [Fi.vs]
theorem Fi.own_empty (w : World) (e : TypeId) (size : Nat) : (w.alloc (.cells #[] e)).ownsRow w.heap.size e size (.slice (some ⟨w.heap.size, 0, none⟩) 0 0) 0 [] :=
  ⟨by simp, .inr ⟨w.heap.size, 0, #[], rfl, Nat.le_refl _, heap_alloc_new w _, Nat.le_refl _, by simp, by simp, by simp⟩⟩
/-- What the document's Split has behind i bytes. -/
def Fi.spSt (c : UInt8) (l : List UInt8) (i : Nat) (ps : List (List UInt8)) (w : List UInt8) : Prop := Fi.spl c [] l = ps ++ Fi.spl c w (l.drop i)
theorem Fi.spSt_hit {c : UInt8} {l : List UInt8} {i : Nat} {ps : List (List UInt8)} {w : List UInt8} (h : Fi.spSt c l i ps w) {b : UInt8} (hb : l[i]? = some b) (hc : b = c) : Fi.spSt c l (i + 1) (ps ++ [w]) [] := by
  unfold Fi.spSt at h ⊢
  obtain ⟨hlt, he⟩ := List.getElem?_eq_some_iff.1 hb
  rw [h, List.drop_eq_getElem_cons hlt, he, Fi.spl, if_pos hc, List.append_assoc]
  rfl
theorem Fi.spSt_go {c : UInt8} {l : List UInt8} {i : Nat} {ps : List (List UInt8)} {w : List UInt8} (h : Fi.spSt c l i ps w) {b : UInt8} (hb : l[i]? = some b) (hc : ¬ b = c) : Fi.spSt c l (i + 1) ps (w ++ [b]) := by
  unfold Fi.spSt at h ⊢
  obtain ⟨hlt, he⟩ := List.getElem?_eq_some_iff.1 hb
  rw [h, List.drop_eq_getElem_cons hlt, he, Fi.spl, if_neg hc]
theorem Fi.spSt_end {c : UInt8} {l : List UInt8} {i : Nat} {ps : List (List UInt8)} {w : List UInt8} (h : Fi.spSt c l i ps w) (hi : l.length ≤ i) : Fi.spl c [] l = ps ++ [w] := by
  unfold Fi.spSt at h
  rw [h, List.drop_of_length_le hi]
  rfl
theorem Fi.ba_get (s : ByteArray) (i : Nat) (h : i < s.size) : s.data.toList[i]? = some s[i] := by
  rw [List.getElem?_eq_getElem (by simpa using h)]
  rfl

set_option maxRecDepth 100000 in
set_option maxHeartbeats 1000000 in
theorem Fi.split_any (s : ByteArray) (hs : s.size ≤ 1000000000) (w : World) (hL : Fi.Laid w) :
    Calls Tryz.prog 49 #[.string s] w (Fi.RetStrs w (Fi.spl 59 [] s.data.toList)) := by
  obtain ⟨m, hm⟩ := hL.1
  have h1 := Tryz.strings_Split s ⟨#[59]⟩ m w (by omega) hm (Nat.le_refl 1)
  have hlen := Lib.splitB_all ⟨#[59]⟩ (Nat.le_refl 1) 0 _ s rfl
  have heq := Fi.split_eq 59 _ s (Nat.le_refl _)
  obtain ⟨L, hL'⟩ : ∃ L, Lib.splitB ⟨#[59]⟩ 0 (Lib.countB s ⟨#[59]⟩) s = L := ⟨_, rfl⟩
  obtain ⟨n, hn⟩ : ∃ n, Lib.countB s ⟨#[59]⟩ + 1 = n := ⟨_, rfl⟩
  rw [hL'] at h1 hlen heq
  rw [hn] at h1 hlen
  have hvs : L.map Value.string = Fi.vs (Fi.spl 59 [] s.data.toList) := by
    rw [← heq]
    unfold Fi.vs
    rw [List.map_map]
    exact List.map_congr_left fun x _ => by show Value.string x = Value.string ⟨x.data.toList.toArray⟩; rw [Lib.mk_data]
  rw [hvs] at h1
  have hln : (Fi.spl 59 [] s.data.toList).length = n := by rw [← heq, List.length_map, hlen]
  have HLN := Lib.hid hln
  clear hvs heq hlen hL' hn hm hL hln
  obtain ⟨V, hV⟩ : ∃ V, Fi.vs (Fi.spl 59 [] s.data.toList) = V := ⟨_, rfl⟩
  have HV := Lib.hid hV
  rw [hV] at h1
  clear hV
  go_enter Tryz.func49, Tryz.ntmps49
  go_wp2_with fail
  refine h1.mono ?_
  rintro e w1 ⟨rfl, rfl⟩
  go_wp2_with fail
  go_ret
  refine ⟨some ⟨w.heap.size, 0, none⟩, n, n, rfl, HLN.out, ?_, (Below.refl _ _).alloc (Nat.le_refl _) _⟩
  intro _
  refine ⟨w.heap.size, 0, rfl, by simp, fun j hj => ?_⟩
  rw [Nat.zero_add, World.cell?_alloc_new, show (Fi.spl 59 [] s.data.toList).map (fun x => Value.string ⟨x.toArray⟩) = V from HV.out]
  simp

end Go.Proofs.YtppmcnpjglackaaGreatDoor

/- The layer rows: a reader's line, by walking its text. -/
namespace Go.Proofs.YtppmcnpjglackaaGreatDoor
open Go.RowKit
set_option linter.unusedSimpArgs false
set_option linter.unusedVariables false

def Rw.Laid (w : World) : Prop := Fi.Laid w ∧ Fi.LaidN w
theorem Rw.Laid.next {w w' : World} (h : Rw.Laid w) (hb : Below w.heap.size w w') : Rw.Laid w' := ⟨h.1.below hb, h.2.next hb⟩
theorem Rw.infoRow : (Tryz.prog.info? 31).map (fun i => (i.zero, i.size, i.bytes)) = some (some (.agg #[.int .i32 0, .int .i64 0, .slice none 0 0]), 3, 40) := by kernel_rfl
/-- Rows' cells. -/
def Rw.fl : List Rw.Row → List (Option Addr × Nat) → List Value
  | r :: rs, a :: ads => .int .i32 r.1 :: .int .i64 r.2.1 :: .slice a.1 r.2.2.length a.2 :: Rw.fl rs ads
  | _, _ => []
theorem Rw.fl_len : ∀ (rs : List Rw.Row) (ads : List (Option Addr × Nat)), ads.length = rs.length → (Rw.fl rs ads).length = rs.length * 3
  | [], _, _ => by simp [Rw.fl]
  | r :: rs, [], h => by simp at h
  | r :: rs, a :: ads, h => by simp [Rw.fl, Rw.fl_len rs ads (by simpa using h)]; omega
theorem Rw.fl_app : ∀ (rs : List Rw.Row) (ads : List (Option Addr × Nat)) (r : Rw.Row) (a : Option Addr × Nat), ads.length = rs.length →
    Rw.fl (rs ++ [r]) (ads ++ [a]) = Rw.fl rs ads ++ [.int .i32 r.1, .int .i64 r.2.1, .slice a.1 r.2.2.length a.2]
  | [], [], r, a, _ => rfl
  | [], _ :: _, _, _, h => by simp at h
  | q :: rs, [], r, a, h => by simp at h
  | q :: rs, b :: ads, r, a, h => by
    simp only [List.cons_append, Rw.fl]
    rw [Rw.fl_app rs ads r a (by simpa using h)]
/-- The mappings of rows, each at its address. -/
def Rw.Maps (w : World) (rs : List Rw.Row) (ads : List (Option Addr × Nat)) : Prop := ∀ (i : Nat) (r : Rw.Row) (a : Option Addr × Nat), rs[i]? = some r → ads[i]? = some a → Slt w 21 a.1 (r.2.2.map (Value.int .i32))
theorem Rw.Maps.app {w : World} {rs : List Rw.Row} {ads : List (Option Addr × Nat)} (h : Rw.Maps w rs ads) (hl : ads.length = rs.length) {r : Rw.Row} {a : Option Addr × Nat} (hr : Slt w 21 a.1 (r.2.2.map (Value.int .i32))) : Rw.Maps w (rs ++ [r]) (ads ++ [a]) := by
  intro i q x hq hx
  rcases Nat.lt_or_ge i rs.length with hi | hi
  · rw [List.getElem?_append_left hi] at hq
    rw [List.getElem?_append_left (by omega)] at hx
    exact h i q x hq hx
  · rw [List.getElem?_append_right hi] at hq
    rw [List.getElem?_append_right (by omega)] at hx
    obtain ⟨j, hj⟩ : ∃ j, i - rs.length = j := ⟨_, rfl⟩
    rw [hl, hj] at hx
    rw [hj] at hq
    rcases j with _ | j
    · simp at hq hx
      subst hq hx
      exact hr
    · simp at hq
theorem Rw.Maps.below {w w' : World} {rs : List Rw.Row} {ads : List (Option Addr × Nat)} (h : Rw.Maps w rs ads) (hb : Below w.heap.size w w') : Rw.Maps w' rs ads := fun i r a h1 h2 => (h i r a h1 h2).below hb
theorem Rw.Maps.grown {w w' : World} {rs : List Rw.Row} {ads : List (Option Addr × Nat)} {row : Option Nat} (h : Rw.Maps w rs ads) (hg : w.grownBy w' row) (hr : ∀ k, row = some k → ∀ cs z, w.heap[k]? ≠ some (.cells cs 21 z)) : Rw.Maps w' rs ads :=
  fun i r a h1 h2 => (h i r a h1 h2).grown hg hr
theorem Rw.At.not {w : World} {b : Nat} {t t' : TypeId} {cs : List Value} (h : Rw.At w b t cs) (hne : t ≠ t') : ∀ cs' z, w.heap[b]? ≠ some (.cells cs' t' z) := fun cs' z e => by
  have := h.symm.trans e
  simp only [Option.some.injEq, Obj.cells.injEq] at this
  exact hne this.2.1
theorem Rw.own_not {w : World} {base : Nat} {e t' : TypeId} {size n : Nat} {v : Value} {xs : List Value} (h : w.ownsRow base e size v n xs) (hne : e ≠ t') : ∀ k, v.ownBlock = some k → ∀ cs' z, w.heap[k]? ≠ some (.cells cs' t' z) := by
  intro k hk cs' z e'
  rcases h.2 with ⟨rfl, _⟩ | ⟨g, cap, cur, rfl, _, hg, _⟩
  · simp [Value.ownBlock] at hk
  · simp only [Value.ownBlock, Option.some.injEq] at hk
    subst hk
    have := hg.symm.trans e'
    simp only [Option.some.injEq, Obj.cells.injEq] at this
    exact hne this.2.1
theorem Rw.own_one {w : World} {base : Nat} {e : TypeId} {size n : Nat} {v : Value} {xs : List Value} (h : w.ownsRow base e size v n xs) : v.oneCell' = true := by
  obtain ⟨A, c, rfl⟩ := own_form h
  rfl
theorem Rw.own_ne {w : World} {base : Nat} {e : TypeId} {size n : Nat} {v : Value} {xs : List Value} (h : w.ownsRow base e size v n xs) (g : Nat) (hg : g < base) : v.ownBlock ≠ some g := fun hk => by have := (h.lt _ hk).1; omega
theorem Rw.own_grown {w w' : World} {base : Nat} {e : TypeId} {size n b : Nat} {v : Value} {xs : List Value} (h : w.ownsRow base e size v n xs) (hb : b < base) (hg : w.grownBy w' (some b)) : w'.ownsRow base e size v n xs :=
  h.kept hg (by
    rcases h.2 with ⟨rfl, _⟩ | ⟨g, cap, cur, rfl, hgb, _⟩
    · exact .inl rfl
    · refine .inr fun e' => ?_
      simp only [Value.ownBlock, Option.some.injEq] at e'
      omega)

/-- A reader at block b, in a state. -/
def Rw.Rd (w : World) (b : Nat) (st : Rw.St) : Prop :=
  ∃ v ads, Rw.At w b 62 [v, .int .i32 st.2.1, .string ⟨st.2.2.toArray⟩] ∧ w.ownsRow (b + 1) 31 3 v st.1.length (Rw.fl st.1 ads) ∧ ads.length = st.1.length ∧ Rw.Maps w st.1 ads
/-- What a line answers. -/
def Rw.RetLine (b : Nat) (st : Rw.St) (w : World) (e : Ending) (w' : World) : Prop := e = .returned (.string ⟨#[]⟩) ∧ Rw.Rd w' b st ∧ Below b w w'
theorem Rw.below_grown {b : Nat} {w w' : World} {row : Option Nat} (hg : w.grownBy w' row) (hb : b ≤ w.heap.size) (hr : ∀ k, row = some k → b ≤ k) : Below b w w' := (Below.refl b w).grown hg hb hr
theorem Rw.step_some {st st' : Rw.St} {l : List UInt8} (h : Rw.step st l = some st') : ∃ r o, Rw.row (Fi.spl 59 [] l) = some r ∧ st.2.1 < r.1 ∧ Rw.ranged st.2.2 ((Fi.spl 59 [] l).getD 1 []) (Rw.quiet r) = some o ∧ (C.isC r.1 = true ∨ Rw.quiet r = true) ∧
    st' = (if Rw.quiet r then st.1 else st.1 ++ [r], r.1, o) := by
  unfold Rw.step at h
  rcases hr : Rw.row (Fi.spl 59 [] l) with _ | r
  · rw [hr] at h; cases h
  rw [hr, Option.bind_some] at h
  split at h
  · rename_i h1
    rcases ho : Rw.ranged st.2.2 ((Fi.spl 59 [] l).getD 1 []) (Rw.quiet r) with _ | o
    · rw [ho] at h; cases h
    rw [ho, Option.bind_some] at h
    split at h
    · rename_i h2
      simp only [Option.some.injEq] at h
      exact ⟨r, o, rfl, h1, ho, h2, h.symm⟩
    · cases h
  · cases h

set_option maxRecDepth 100000 in
set_option maxHeartbeats 4000000 in
theorem Rw.line_any (b : Nat) (st st' : Rw.St) (l : ByteArray) (w0 w : World) (hL : Rw.Laid w0) (h0 : w0.heap.size ≤ b) (hB0 : Below w0.heap.size w0 w) (hI : Rw.Rd w b st) (hl : l.size ≤ 1000) (hn : st.1.length ≤ 100000)
    (hst : Rw.step st l.data.toList = some st') : Calls Tryz.prog 28 #[.pointer (some ⟨b, 0, none⟩), .string l] w (Rw.RetLine b st' w) := by
  obtain ⟨r, o, hrow, hlt, hrg, hq, rfl⟩ := Rw.step_some hst
  obtain ⟨out, code, was⟩ := st
  obtain ⟨v, ads, hat, hown, has, hmaps⟩ := hI
  obtain ⟨c, k, m⟩ := r
  simp only at hlt hrg hq hat hown has hmaps hn ⊢
  have hLw := hL.next hB0
  have hS := Fi.split_any l (by omega) w hLw.1
  obtain ⟨f0, f1, f3, f5, h15, i0, i1, i3, i5, hne, hhex, hnum, hmp⟩ := Rw.row_some hrow
  have hlens : ∀ x ∈ Fi.spl 59 [] l.data.toList, x.length ≤ 1000 := fun x hx => by
    have := Fi.spl_sizes 59 l.data.toList [] x hx
    simp at this
    omega
  have hf1 : f1.length ≤ 1000 := hlens f1 (List.mem_of_getElem? i1)
  have hg1 : (Fi.spl 59 [] l.data.toList).getD 1 [] = f1 := by rw [List.getD_eq_getElem?_getD, i1]; rfl
  rw [hg1] at hrg
  obtain ⟨F, hF⟩ : ∃ F, Fi.spl 59 [] l.data.toList = F := ⟨_, rfl⟩
  rw [hF] at hrow h15 i1 hlens hS
  obtain ⟨j0, hj0, hy0, hy1, hy2⟩ := info_parts Rw.infoRow
  obtain ⟨nm, hnm⟩ : ∃ nm : ByteArray, ⟨f1.toArray⟩ = nm := ⟨_, rfl⟩
  have hnms : nm.size ≤ 1000000 := by rw [← hnm]; show f1.toArray.size ≤ _; simp; omega
  have hnml : nm.data.toList = f1 := by rw [← hnm]
  obtain ⟨wb, hwb⟩ : ∃ wb : ByteArray, ⟨was.toArray⟩ = wb := ⟨_, rfl⟩
  have hwbl : wb.data.toList = was := by rw [← hwb]
  rw [← hnml, ← hwbl] at hrg
  rw [hwb] at hat
  have hco : decide (c ≤ code) = false := decide_eq_false (by omega)
  have hQA := Rw.quiet_any c k
  obtain ⟨bc, hbc⟩ : ∃ x, C.isC c = x := ⟨_, rfl⟩
  obtain ⟨bq, hbq⟩ : ∃ x, Rw.quiet (c, k, m) = x := ⟨_, rfl⟩
  have hbq' : (decide (k = 0) && decide (m.length = 0)) = bq := hbq
  rw [hbc, hbq] at hq
  rw [hbq] at hrg ⊢
  obtain ⟨out', hout'⟩ : ∃ x, (if bq = true then out else out ++ [(c, k, m)]) = x := ⟨_, rfl⟩
  rw [hout']
  have HO := Lib.hid hout'
  have HBQ := Lib.hid hbq'
  have hU := C.utfis_any c
  rw [hbc] at hU
  have HQ := Lib.hid hq
  clear hbc hbq hbq' hq hout'
  have HROW := Lib.hid hrow
  have HRG := Lib.hid hrg
  have HLENS := Lib.hid hlens
  clear hst hhex hnum hmp i0 i3 i5 hrow hrg hlens hne hg1 hF hnml hwbl hwb hlt
  go_enter Tryz.func28, Tryz.ntmps28
  go_wp2_with fail
  refine hS.mono ?_
  rintro e w1 ⟨A, n, cp, rfl, hFn, hA, hb1⟩
  obtain rfl : n = 15 := by omega
  have hR := Rw.row_any A 15 cp w1.heap.size F (c, k, m) w1 HROW.out h15 (Nat.le_refl _) hA (fun x hx => by have := HLENS.out x hx; omega) (hLw.next hb1).2
  obtain ⟨ab, ao, rfl, habl, hac⟩ := hA (by rw [List.length_map]; omega)
  have hc1 := hac 1 (by rw [List.length_map]; omega)
  rw [List.getElem?_map, i1, Option.map_some, hnm] at hc1
  clear hac hS i1 hFn hnm
  have hHB1 := Lib.hid hb1
  clear hb1
  go_wp2_with fail
  refine hR.mono ?_
  rintro e w2 ⟨Am, cm, rfl, hSm, hb2⟩
  clear hR
  simp only at hSm
  have hc1' := ((bcell hb2).1 _ _ habl).trans hc1
  have habl2 : ab < w2.heap.size := Nat.lt_of_lt_of_le habl hb2.size
  have hbw2 : Below w.heap.size w w2 := hHB1.out.trans (hb2.mono hHB1.out.size)
  have hat2 := hat.below hbw2
  have hown2 := own_below hown hbw2 (Nat.le_refl _)
  have hmaps2 := hmaps.below hbw2
  obtain ⟨d1, d2, d3, d4, d5, d6⟩ := hat2.three
  have hbl2 : b < w2.heap.size := hat2.lt
  have hbl : b < w.heap.size := hat.lt
  clear hc1 habl hb2 hat hown hmaps
  have HBW := Lib.hid hbw2
  have HOWN := Lib.hid hown2
  have HMAPS := Lib.hid hmaps2
  have HSM := Lib.hid hSm
  clear hbw2 hown2 hmaps2 hSm
  go_wp2_with fail
  go_quiet (fail)
  go_wp2_with fail
  obtain ⟨w3, hw3⟩ : ∃ w3, (w2.alloc (.cells #[.int .i32 c, .int .i64 k, .slice Am m.length cm] 31)).drewN nq = w3 := ⟨_, rfl⟩
  have hb3 : Below w2.heap.size w2 w3 := by rw [← hw3]; exact ((Below.refl w2.heap.size w2).alloc (Nat.le_refl _) _).trans ((Fi.drewN_below _ _).mono (by simp))
  have hr3 : Rw.At w3 w2.heap.size 31 [.int .i32 c, .int .i64 k, .slice Am m.length cm] := by rw [← hw3]; exact (Rw.At.new w2 31 [.int .i32 c, .int .i64 k, .slice Am m.length cm]).below (Fi.drewN_below _ _)
  have hat3 := hat2.below hb3
  obtain ⟨m1, m2, m3, m4, m5, m6⟩ := hr3.three
  have hc3 := ((bcell hb3).1 _ _ habl2).trans hc1'
  have hrr3 : w2.heap.size < w3.heap.size := hr3.lt
  have hG := fun W hat => Rw.ranged_any b v code wb nm c k Am m.length cm o W (Rw.own_one HOWN.out) hat hnms (by rw [HBQ.out]; exact HRG.out)
  have hat3d : Rw.At w3.drew b 62 [v, .int .i32 code, .string wb] := hat3
  rw [hw3]
  clear hw3 d1 d2 d3 d4 d5 d6 hc1' habl2
  go_region_with (go_at_call 51; refine (hG _ hat3d).mono ?_; rintro e w4 ⟨rfl, hat4, hg4⟩)
  all_goals
    have hr4 : Rw.At w4 w2.heap.size 31 [.int .i32 c, .int .i64 k, .slice Am m.length cm] := (show Rw.At w3.drew _ _ _ from hr3).grown hg4 (by simp; omega)
    have hbel3 : Below w.heap.size w w3.drew := HBW.out.trans ((show Below w2.heap.size w2 w3.drew from hb3.drew).mono HBW.out.size)
    have hown4 := Rw.own_grown (own_below HOWN.out (show Below w2.heap.size w2 w3.drew from hb3.drew) (Nat.le_refl _)) (Nat.lt_succ_self b) hg4
    have hmaps4 := (HMAPS.out.below (show Below w2.heap.size w2 w3.drew from hb3.drew)).grown hg4 (by intro q hq; cases hq; exact hat3d.not (by decide))
    have hsm4 := (HSM.out.below (show Below w2.heap.size w2 w3.drew from hb3.drew)).grown hg4 (by intro q hq; cases hq; exact hat3d.not (by decide))
    have hbb4 : Below b w w4 := (hbel3.mono (Nat.le_of_lt hbl)).trans (Rw.below_grown hg4 (by show b ≤ w3.drew.heap.size; have := hb3.size; simp; omega) (by intro q hq; cases hq; exact Nat.le_refl _))
    have hsz4 : w2.heap.size < w4.heap.size := hr4.lt
    have hQ2 := hQA Am m.length cm
    rw [HBQ.out] at hQ2
    obtain ⟨p1, p2, p3, p4, p5, p6⟩ := hat4.three
    obtain ⟨r1, r2, r3, r4, r5, r6⟩ := hr4.three
    have HOWN4 := Lib.hid hown4
    have HMAPS4 := Lib.hid hmaps4
    have HSM4 := Lib.hid hsm4
    have HBB4 := Lib.hid hbb4
    clear hown4 hmaps4 hsm4 hbb4 hbel3 hg4 m1 m2 m3 m4 m5 m6 hc3
    rcases bq with _ | _
    · obtain rfl : bc = true := by
        rcases HQ.out with h | h
        · exact h
        · cases h
      go_wp2_with (first | (go_at_call 34; refine (hU _).mono ?_; rintro e w5 ⟨rfl, rfl⟩) | fail)
      refine (hQ2 _).mono ?_
      rintro e w5 ⟨rfl, hb5⟩
      have hat5 := (hat4.set 1 (.int .i32 c)).below hb5
      simp only [List.set_cons_succ, List.set_cons_zero] at hat5
      have hr5 := (hr4.other (show w2.heap.size ≠ b by omega) (.int .i32 c) (i := 1)).below hb5
      have hown5 := own_below (Rw.own_grown HOWN4.out (Nat.lt_succ_self b) (Rw.grown_set b 1 (.int .i32 c))) hb5 (Nat.le_refl _)
      have hmaps5 := (HMAPS4.out.grown (Rw.grown_set b 1 (.int .i32 c)) (by intro q hq; cases hq; exact hat4.not (by decide))).below hb5
      have hsm5 := (HSM4.out.grown (Rw.grown_set b 1 (.int .i32 c)) (by intro q hq; cases hq; exact hat4.not (by decide))).below hb5
      have hz5 : w4.heap.size ≤ w5.heap.size := Nat.le_trans (KeepsWalks.setCell w4 ⟨b, 1, none⟩ (.int .i32 c)).size hb5.size
      have hbb5 : Below b w w5 := (HBB4.out.setCell (p := ⟨b, 1, none⟩) (Nat.le_refl _) (.int .i32 c)).trans (hb5.mono (by have := (KeepsWalks.setCell w4 ⟨b, 1, none⟩ (.int .i32 c)).size; omega))
      obtain ⟨s1, s2, s3, s4, s5, s6⟩ := hat5.three
      obtain ⟨t1, t2, t3, t4, t5, t6⟩ := hr5.three
      have hwr5 : w2.heap.size < w5.heap.size := hr5.lt
      have hbl5 : b < w5.heap.size := hat5.lt
      have hown' := (hown5.alloc (.cells #[.int .i32 c, .int .i64 k, .slice Am m.length cm] 31)).drew
      have hnew := Lib.hid (Sl.lit (w := (w5.alloc (.cells #[.int .i32 c, .int .i64 k, .slice Am m.length cm] 31)).drew) (A := some ⟨w5.heap.size, 0, none⟩) (xs := [.int .i32 c, .int .i64 k, .slice Am m.length cm]) rfl 31 (0, 0) (heap_alloc_new w5 _))
      have hne := Rw.own_ne hown5 b (Nat.lt_succ_self b)
      have hs3 : b + 1 ≤ (w5.alloc (.cells #[.int .i32 c, .int .i64 k, .slice Am m.length cm] 31)).drew.heap.size := by simp; omega
      have hat5' : Rw.At (w5.alloc (.cells #[.int .i32 c, .int .i64 k, .slice Am m.length cm] 31)).drew b 62 [v, .int .i32 c, .string ⟨o.toArray⟩] := hat5.alloc _
      have HOWN5 := Lib.hid hown'
      have HMAPS5 := Lib.hid hmaps5
      have HSM5 := Lib.hid hsm5
      have HBB5 := Lib.hid hbb5
      have HNE := Lib.hid hne
      clear hown5 hown' hmaps5 hsm5 hbb5 hb5 p1 p2 p3 p4 p5 p6 r1 r2 r3 r4 r5 r6 hne
      go_wp2_with fail
      go_region_law ((refine step_appendSl _ (by rfl) _ _ _ (by rfl) (b + 1) 31 j0 _ 3 40 Tryz.underlying34 hj0 hy0 hy1 hy2 rfl (by omega) _ out.length _ (by rfl) HOWN5.out _ (some ⟨w5.heap.size, 0, none⟩) 1 1 [.int .i32 c, .int .i64 k, .slice Am m.length cm] (by rfl) (by rfl) hnew.out (by simp [Value.oneCell']) (by simp only [maxLen]; omega) (by omega) hs3 ?_; intro v1 w6 hown6 hb6 hgrow; have hat6 := hat5'.grown hgrow HNE.out; obtain ⟨z1, z2, z3, z4, z5, z6⟩ := hat6.three; obtain ⟨A6, c6, rfl⟩ := own_form hown6))
      all_goals
        go_wp2_with fail
        go_ret
        have ho := HO.out
        simp only [Bool.false_eq_true, if_false] at ho
        subst ho
        have bz : Below w5.heap.size w5 (w5.alloc (.cells #[.int .i32 c, .int .i64 k, .slice Am m.length cm] 31)).drew := ((Below.refl _ _).alloc (Nat.le_refl _) _).drew
        have e1 := ((HMAPS5.out.below bz).grown hgrow (Rw.own_not HOWN5.out (by decide))).grown (Rw.grown_set b 0 (.slice A6 (out.length + 1) c6)) (by intro q hq; cases hq; exact hat6.not (by decide))
        have e2 := ((HSM5.out.below bz).grown hgrow (Rw.own_not HOWN5.out (by decide))).grown (Rw.grown_set b 0 (.slice A6 (out.length + 1) c6)) (by intro q hq; cases hq; exact hat6.not (by decide))
        have e3 := Rw.own_grown hown6 (Nat.lt_succ_self b) (Rw.grown_set b 0 (.slice A6 (out.length + 1) c6))
        refine ⟨rfl, ⟨.slice A6 (out.length + 1) c6, ads ++ [(Am, cm)], hat6.set 0 _, ?_, by simp [has], e1.app has e2⟩, ?_⟩
        · show World.ownsRow _ _ _ _ _ (out ++ [(c, k, m)]).length (Rw.fl (out ++ [(c, k, m)]) (ads ++ [(Am, cm)]))
          rw [Rw.fl_app out ads (c, k, m) (Am, cm) has, List.length_append]
          exact e3
        · exact ((HBB5.out.trans (bz.mono (Nat.le_of_lt hbl5))).trans (hb6.mono (Nat.le_succ b))).setCell (p := ⟨b, 0, none⟩) (Nat.le_refl _) _
    · have ho := HO.out
      simp only [if_true] at ho
      subst ho
      have HT := HQ.out
      rcases bc with _ | _
      · go_wp2_with (first | (go_at_call 34; refine (hU _).mono ?_; rintro e w5 ⟨rfl, rfl⟩) | fail)
        refine (hQ2 _).mono ?_
        rintro e w4a ⟨rfl, hba⟩
        have hat4a := hat4.below hba
        have hr4a := hr4.below hba
        have HOWN4a := Lib.hid (own_below HOWN4.out hba (Nat.le_refl _))
        have HMAPS4a := Lib.hid (HMAPS4.out.below hba)
        have HBB4a := Lib.hid (HBB4.out.trans (hba.mono (Nat.le_of_lt hat4.lt)))
        have hsz4a : w2.heap.size < w4a.heap.size := hr4a.lt
        clear p1 p2 p3 p4 p5 p6 r1 r2 r3 r4 r5 r6 hba
        obtain ⟨p1, p2, p3, p4, p5, p6⟩ := hat4a.three
        obtain ⟨r1, r2, r3, r4, r5, r6⟩ := hr4a.three
        go_wp2_with fail
        refine (hQ2 _).mono ?_
        rintro e w5 ⟨rfl, hb5⟩
        have hat5 := (hat4a.set 1 (.int .i32 c)).below hb5
        simp only [List.set_cons_succ, List.set_cons_zero] at hat5
        have hown5 := own_below (Rw.own_grown HOWN4a.out (Nat.lt_succ_self b) (Rw.grown_set b 1 (.int .i32 c))) hb5 (Nat.le_refl _)
        have hmaps5 := (HMAPS4a.out.grown (Rw.grown_set b 1 (.int .i32 c)) (by intro q hq; cases hq; exact hat4a.not (by decide))).below hb5
        have hbb5 : Below b w w5 := (HBB4a.out.setCell (p := ⟨b, 1, none⟩) (Nat.le_refl _) (.int .i32 c)).trans (hb5.mono (by have := (KeepsWalks.setCell w4a ⟨b, 1, none⟩ (.int .i32 c)).size; omega))
        have HRES := Lib.hid (show Rw.Rd w5 b (out, c, o) from ⟨v, ads, hat5, hown5, has, hmaps5⟩)
        have HBB5 := Lib.hid hbb5
        clear hat5 hown5 hmaps5 hbb5 hb5
        go_wp2_with fail
        go_ret
        exact ⟨rfl, HRES.out, HBB5.out⟩
      · go_wp2_with (first | (go_at_call 34; refine (hU _).mono ?_; rintro e w5 ⟨rfl, rfl⟩) | fail)
        refine (hQ2 _).mono ?_
        rintro e w5 ⟨rfl, hb5⟩
        have hat5 := (hat4.set 1 (.int .i32 c)).below hb5
        simp only [List.set_cons_succ, List.set_cons_zero] at hat5
        have hown5 := own_below (Rw.own_grown HOWN4.out (Nat.lt_succ_self b) (Rw.grown_set b 1 (.int .i32 c))) hb5 (Nat.le_refl _)
        have hmaps5 := (HMAPS4.out.grown (Rw.grown_set b 1 (.int .i32 c)) (by intro q hq; cases hq; exact hat4.not (by decide))).below hb5
        have hbb5 : Below b w w5 := (HBB4.out.setCell (p := ⟨b, 1, none⟩) (Nat.le_refl _) (.int .i32 c)).trans (hb5.mono (by have := (KeepsWalks.setCell w4 ⟨b, 1, none⟩ (.int .i32 c)).size; omega))
        have HRES := Lib.hid (show Rw.Rd w5 b (out, c, o) from ⟨v, ads, hat5, hown5, has, hmaps5⟩)
        have HBB5 := Lib.hid hbb5
        clear hat5 hown5 hmaps5 hbb5 hb5
        go_wp2_with fail
        go_ret
        exact ⟨rfl, HRES.out, HBB5.out⟩
end Go.Proofs.YtppmcnpjglackaaGreatDoor
