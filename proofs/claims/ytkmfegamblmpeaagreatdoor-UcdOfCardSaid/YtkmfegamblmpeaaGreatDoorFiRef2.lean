/- The layer rows: plain, mapping, row, ranged, by walking their texts. -/
import Derived.Test.YtkmfegamblmpeaaGreatDoorClone
import Derived.Test.YtkmfegamblmpeaaGreatDoorRwLines
import Derived.Test.YtkmfegamblmpeaaGreatDoorFiNum
import Derived.Deep.DeepCutAuto
import Derived.BigQuiet
import Derived.Deep.QuietTactic
import Derived.Test.YtkmfegamblmpeaaGreatDoorFiPlain2
import Derived.RegionTactic
import Derived.BigRegion
namespace Go.Proofs.YtkmfegamblmpeaaGreatDoor
open Go.RowKit
set_option linter.unusedSimpArgs false
set_option linter.unusedVariables false

/-- A row's value. -/
def Rw.val (c k : Int) (A : Option Addr) (n cp : Nat) : Value := .agg #[.int .i32 c, .int .i64 k, .slice A n cp]

set_option maxHeartbeats 1000000 in
theorem Rw.quiet_any (c k : Int) (A : Option Addr) (n cp : Nat) (w : World) :
    Calls Tryz.prog 123 #[.agg #[.int .i32 c, .int .i64 k, .slice A n cp]] w fun e w' => e = .returned (.bool (decide (k = 0) && decide (n = 0))) ∧ Below w.heap.size w w' := by
  by_cases hk : k = 0
  · subst hk
    rcases Nat.eq_zero_or_pos n with rfl | hn
    · go_enter Tryz.func123, Tryz.ntmps123
      go_wp2
      go_ret
      exact ⟨rfl, (Below.refl _ _).alloc (Nat.le_refl _) _⟩
    · have h1 : ((n : Int) == 0) = false := by simp; omega
      go_enter Tryz.func123, Tryz.ntmps123
      go_wp2
      go_ret
      exact ⟨by rw [decide_eq_false (show ¬ n = 0 by omega)]; rfl, (Below.refl _ _).alloc (Nat.le_refl _) _⟩
  · have h1 : (k == 0) = false := by simp [hk]
    go_enter Tryz.func123, Tryz.ntmps123
    go_wp2
    go_ret
    exact ⟨by rw [decide_eq_false hk]; rfl, (Below.refl _ _).alloc (Nat.le_refl _) _⟩

theorem Rw.cut0_any (s e : ByteArray) (hs : s.size ≤ 1000000) (he : e.size ≤ 1000) (w : World) :
    Calls Tryz.prog 158 #[.string s, .string e] w fun x w' => x = .returned (.tuple #[.string ⟨(Rw.cutE s.data.toList e.data.toList).toArray⟩, .bool (Rw.ends s.data.toList e.data.toList)]) ∧ w' = w := by
  have hH := fun w => Tryz.stringslite_HasSuffix s e w (by omega)
  have hE : Lib.hasSuffix s.data.toList e.data.toList = Rw.ends s.data.toList e.data.toList := by
    unfold Lib.hasSuffix Rw.ends
    rw [Bool.eq_iff_iff, List.isSuffixOf_iff_suffix, Bool.and_eq_true, decide_eq_true_eq, beq_iff_eq, List.suffix_iff_eq_drop]
    constructor
    · intro h
      refine ⟨?_, h.symm⟩
      have := congrArg List.length h
      rw [List.length_drop] at this
      omega
    · exact fun h => h.2.symm
  obtain ⟨b, hb⟩ : ∃ b, Rw.ends s.data.toList e.data.toList = b := ⟨_, rfl⟩
  rw [hE] at hH
  cases b
  · have hc : (⟨(Rw.cutE s.data.toList e.data.toList).toArray⟩ : ByteArray) = s := by
      unfold Rw.cutE
      rw [hb, if_neg (by decide), Lib.mk_data]
    simp only [hb] at hH
    rw [hc, hb]
    clear hc hb hE
    go_enter Tryz.func158, Tryz.ntmps158
    go_wp2_with (refine (hH _).mono ?_; rintro x w1 ⟨rfl, rfl⟩)
    go_ret2
    exact ⟨rfl, rfl⟩
  · have hle : e.size ≤ s.size := by
      have h1 := hb
      unfold Rw.ends at h1
      rw [Bool.and_eq_true, decide_eq_true_eq] at h1
      simpa using h1.1
    have hc : s.extract 0 (s.size - e.size) = ⟨(Rw.cutE s.data.toList e.data.toList).toArray⟩ := by
      unfold Rw.cutE
      rw [hb, if_pos rfl, ← Lib.mk_data (s.extract 0 (s.size - e.size)), Lib.extract_data]
      simp
    simp only [hb] at hH
    rw [hb, ← hc]
    have h1 : (e.size : Int) ≤ s.size := by omega
    have h2 : (0 : Int) ≤ (s.size : Int) - e.size := by omega
    have h3 : (s.size : Int) - e.size ≤ s.size := by omega
    clear hc hb hE
    go_enter Tryz.func158, Tryz.ntmps158
    go_wp2_with (refine (hH _).mono ?_; rintro x w1 ⟨rfl, rfl⟩)
    go_ret2
    exact ⟨rfl, rfl⟩
theorem Rw.cut_any (s e : ByteArray) (hs : s.size ≤ 1000000) (he : e.size ≤ 1000) (w : World) :
    Calls Tryz.prog 141 #[.string s, .string e] w fun x w' => x = .returned (.tuple #[.string ⟨(Rw.cutE s.data.toList e.data.toList).toArray⟩, .bool (Rw.ends s.data.toList e.data.toList)]) ∧ w' = w := by
  go_enter Tryz.func141, Tryz.ntmps141
  go_wp2_with (refine (Rw.cut0_any s e hs he _).mono ?_; rintro x w1 ⟨rfl, rfl⟩)
  go_ret2
  exact ⟨rfl, rfl⟩

theorem Rw.head0 {s : ByteArray} {b : UInt8} (h : s.data.toList.head? = some b) : ∃ h : 0 < s.size, s[0] = b := by
  have h1 : 0 < s.size := by
    rcases hl : s.data.toList with _ | ⟨c, r⟩
    · rw [hl] at h; cases h
    · have : s.data.toList.length = s.size := by simp
      rw [hl] at this; simp at this; omega
  rw [Fi.head_get s h1] at h
  exact ⟨h1, by simpa using h⟩
theorem Rw.head1 {s : ByteArray} {b : UInt8} (hne : s.data.toList ≠ []) (h : s.data.toList.head? ≠ some b) : ∃ h : 0 < s.size, s[0] ≠ b := by
  have h1 : 0 < s.size := by
    have : s.data.toList.length = s.size := by simp
    rcases hl : s.data.toList with _ | ⟨c, r⟩
    · exact absurd hl hne
    · rw [hl] at this; simp at this; omega
  rw [Fi.head_get s h1] at h
  exact ⟨h1, by simpa using h⟩
/-- What a field's mapping answers. -/
def Rw.RetMap (m : List Int) (w : World) (e : Ending) (w' : World) : Prop :=
  ∃ A c, e = .returned (.tuple #[.slice A m.length c, .bool true]) ∧ Slt w' 21 A (m.map (Value.int .i32)) ∧ Below w.heap.size w w'
theorem Rw.mapping_any (s : ByteArray) (hs : s.size ≤ 1000000) (m : List Int) (hm : Rw.mp s.data.toList = some m) (w : World) :
    Calls Tryz.prog 140 #[.string s] w (Rw.RetMap m w) := by
  unfold Rw.mp at hm
  split at hm
  · rename_i h0
    simp only [Option.some.injEq] at hm
    subst hm
    rcases h0 with h0 | h0
    · have he : s.toList.isEmpty = true := by rw [ByteArray.toList_eq s, h0]; rfl
      clear h0
      go_enter Tryz.func140, Tryz.ntmps140
      go_wp2
      go_ret2
      exact ⟨none, 0, rfl, Slt.nil _ _ _, Below.refl _ _⟩
    · obtain ⟨h1, h2⟩ := Rw.head0 h0
      have he : s.toList.isEmpty = false := by
        rw [ByteArray.toList_eq s]
        rcases hl : s.data.toList with _ | ⟨b, r⟩
        · rw [hl] at h0; cases h0
        · rfl
      have h3 : (s[0].toNat : Int) = 60 := by rw [h2]; rfl
      have h4 : (0 : Int) < s.size := by omega
      clear h0 h2
      go_enter Tryz.func140, Tryz.ntmps140
      go_wp2
      go_ret2
      exact ⟨none, 0, rfl, Slt.nil _ _ _, Below.refl _ _⟩
  · rename_i h0
    split at hm
    · rename_i h5
      obtain ⟨h5, h6⟩ := h5
      simp only [Option.some.injEq] at hm
      have hne : s.data.toList ≠ [] := fun e => h0 (.inl e)
      obtain ⟨h1, h2⟩ := Rw.head1 hne fun e => h0 (.inr e)
      have he : s.toList.isEmpty = false := by
        rw [ByteArray.toList_eq s]
        rcases hl : s.data.toList with _ | ⟨b, r⟩
        · exact absurd hl hne
        · rfl
      have h3 : ((s[0].toNat : Int) == 60) = false := by
        have : s[0].toNat ≠ 60 := fun e => h2 (UInt8.toNat_inj.1 e)
        simp; omega
      have h4 : (0 : Int) < s.size := by omega
      have hH := Q.hexesT_any s hs
      have hall : (Q.bas (Fi.spl 32 [] s.data.toList)).all Q.ok = true := by
        unfold Q.bas
        rw [List.all_map]
        exact h5
      have hlen : (Q.bas (Fi.spl 32 [] s.data.toList)).length = m.length := by
        unfold Q.bas
        rw [List.length_map, ← hm, List.length_map]
      have hvals : Q.vals (Q.bas (Fi.spl 32 [] s.data.toList)) = m.map (Value.int .i32) := by
        rw [← hm]
        unfold Q.vals Q.bas Q.val
        rw [List.map_map, List.map_map]
        rfl
      unfold Q.RetHexesT at hH
      simp only [hall, if_true, hlen, hvals] at hH
      have hm2 : m.length ≤ 2 := by rw [← hm, List.length_map]; exact h6
      have h7 : (m.length : Int) ≤ 2 := by omega
      clear h0 h5 h6 hm hne h2 hall hlen hvals
      go_enter Tryz.func140, Tryz.ntmps140
      go_wp2_with fail
      refine (hH _).mono ?_
      rintro e w1 ⟨A, c, rfl, hS, hb⟩
      have HS := Lib.hid hS
      have HB := Lib.hid hb
      clear hS hb hH
      go_wp2_with fail
      go_ret2
      exact ⟨A, c, rfl, HS.out, HB.out⟩
    · cases hm

/-- What a line's row answers. -/
def Rw.RetRow (r : Rw.Row) (w : World) (e : Ending) (w' : World) : Prop :=
  ∃ A c, e = .returned (.tuple #[.agg #[.int .i32 r.1, .int .i64 r.2.1, .slice A r.2.2.length c], .string ⟨#[]⟩]) ∧ Slt w' 21 A (r.2.2.map (Value.int .i32)) ∧ Below w.heap.size w w'
theorem Rw.row_some {F : List (List UInt8)} {r : Rw.Row} (h : Rw.row F = some r) : ∃ f0 f1 f3 f5, F.length = 15 ∧ F[0]? = some f0 ∧ F[1]? = some f1 ∧ F[3]? = some f3 ∧ F[5]? = some f5 ∧ f1 ≠ [] ∧ Fi.hex f0 = some r.1 ∧ Fi.num f3 254 = some r.2.1 ∧ Rw.mp f5 = some r.2.2 := by
  unfold Rw.row at h
  split at h
  · rename_i h0
    obtain ⟨h0, h1⟩ := h0
    have g : ∀ i, i < 15 → F[i]? = some (F.getD i []) := fun i hi => by
      rw [List.getElem?_eq_getElem (by omega), List.getD_eq_getElem?_getD, List.getElem?_eq_getElem (by omega)]; rfl
    rcases hc : Fi.hex (F.getD 0 []) with _ | c
    · rw [hc] at h; cases h
    rcases hk : Fi.num (F.getD 3 []) 254 with _ | k
    · rw [hc, hk] at h; cases h
    rcases hm : Rw.mp (F.getD 5 []) with _ | m
    · rw [hc, hk, hm] at h; cases h
    rw [hc, hk, hm] at h
    simp only [Option.bind_some, Option.map_some, Option.some.injEq] at h
    subst h
    exact ⟨_, _, _, _, h0, g 0 (by omega), g 1 (by omega), g 3 (by omega), g 5 (by omega), h1, hc, hk, hm⟩
  · cases h

set_option maxRecDepth 100000 in
set_option maxHeartbeats 4000000 in
theorem Rw.row_any (A : Option Addr) (n cp B : Nat) (F : List (List UInt8)) (r : Rw.Row) (w : World) (hF : Rw.row F = some r) (hn : F.length = n) (hB : B ≤ w.heap.size) (hA : Sl w B A (F.map fun x => Value.string ⟨x.toArray⟩))
    (hsz : ∀ x ∈ F, x.length ≤ 100000) (hL : Fi.LaidN w) : Calls Tryz.prog 121 #[.slice A n cp] w (Rw.RetRow r w) := by
  obtain ⟨f0, f1, f3, f5, h15, i0, i1, i3, i5, hne, hhex, hnum, hmp⟩ := Rw.row_some hF
  obtain rfl : n = 15 := by omega
  obtain ⟨b, o, rfl, hb, hc⟩ := hA (by rw [List.length_map]; omega)
  have hc0 := hc 0 (by rw [List.length_map]; omega)
  have hc1 := hc 1 (by rw [List.length_map]; omega)
  have hc3 := hc 3 (by rw [List.length_map]; omega)
  have hc5 := hc 5 (by rw [List.length_map]; omega)
  rw [List.getElem?_map, i0, Option.map_some] at hc0
  rw [List.getElem?_map, i1, Option.map_some] at hc1
  rw [List.getElem?_map, i3, Option.map_some] at hc3
  rw [List.getElem?_map, i5, Option.map_some] at hc5
  have s3 := hsz f3 (List.mem_of_getElem? i3)
  have s5 := hsz f5 (List.mem_of_getElem? i5)
  obtain ⟨b0, hb0⟩ : ∃ x : ByteArray, ⟨f0.toArray⟩ = x := ⟨_, rfl⟩
  obtain ⟨b1, hb1⟩ : ∃ x : ByteArray, ⟨f1.toArray⟩ = x := ⟨_, rfl⟩
  obtain ⟨b3, hb3⟩ : ∃ x : ByteArray, ⟨f3.toArray⟩ = x := ⟨_, rfl⟩
  obtain ⟨b5, hb5⟩ : ∃ x : ByteArray, ⟨f5.toArray⟩ = x := ⟨_, rfl⟩
  have H1 : ∀ W : World, Calls Tryz.prog 126 #[.string b0] W fun e w' => e = .returned (.tuple #[.int .i32 r.1, .bool true]) ∧ w' = W := fun W => (Fi.hex_any b0 W).mono fun e w' h => ⟨by
    have := h.1
    unfold Fi.RetHex at this
    rw [this, ← hb0, show (⟨f0.toArray⟩ : ByteArray).data.toList = f0 from rfl, hhex]; rfl, h.2⟩
  have H2 : ∀ W : World, Fi.LaidN W → Calls Tryz.prog 139 #[.string b3, .int .i64 254] W fun e w' => e = .returned (.tuple #[.int .i64 r.2.1, .bool true]) ∧ Below W.heap.size W w' := fun W hW => (Fi.num_any b3 (by rw [← hb3]; show f3.toArray.size ≤ _; simpa using s3) 254 (by decide) W hW).mono fun e w' h => ⟨by
    have := h.1
    unfold Fi.RetNum at this
    rw [this, ← hb3, show (⟨f3.toArray⟩ : ByteArray).data.toList = f3 from rfl, hnum]; rfl, h.2⟩
  have H3 := Rw.mapping_any b5 (by rw [← hb5]; show f5.toArray.size ≤ _; simp; omega) r.2.2 (by rw [← hb5]; exact hmp)
  have e1 : b1.toList.isEmpty = false := by
    rw [← hb1, ByteArray.toList_eq]
    rcases hl : f1 with _ | ⟨x, t⟩
    · exact absurd hl hne
    · rfl
  rw [hb0] at hc0
  rw [hb1] at hc1
  rw [hb3] at hc3
  rw [hb5] at hc5
  rw [Nat.add_zero] at hc0
  obtain ⟨c, k, m⟩ := r
  simp only at H1 H2 H3
  have hbw : b < w.heap.size := by omega
  clear hc hA hF h15 i0 i1 i3 i5 hne hhex hnum hmp hb0 hb1 hb3 hb5 hsz s3 s5 hn
  go_enter Tryz.func121, Tryz.ntmps121
  go_wp2_with fail
  refine (H1 _).mono ?_
  rintro e w1 ⟨rfl, rfl⟩
  go_wp2_with fail
  refine (H2 _ (hL.next (((Below.refl _ _).alloc (Nat.le_refl _) _).alloc (by simp) _))).mono ?_
  rintro e w2 ⟨rfl, hb2⟩
  have k1 : Rw.At w2 w.heap.size 99 [.int .i32 0, .int .i64 0, .slice none 0 0] := ((Rw.At.new w 99 [.int .i32 0, .int .i64 0, .slice none 0 0]).alloc _).below hb2
  have k2 : Rw.At w2 (w.heap.size + 1) 99 [.int .i32 c, .int .i64 0, .slice none 0 0] := by
    have h := Rw.At.new (w.alloc (.cells #[.int .i32 0, .int .i64 0, .slice none 0 0] 99)) 99 [.int .i32 c, .int .i64 0, .slice none 0 0]
    rw [World.size_alloc] at h
    exact h.below hb2
  have hbb2 : Below w.heap.size w w2 := (((Below.refl w.heap.size w).alloc (Nat.le_refl _) _).alloc (by simp) _).trans (hb2.mono (by simp; omega))
  obtain ⟨d1, d2, d3, d4, d5, d6⟩ := k2.three
  have c5 := ((bcell hbb2).1 _ _ hbw).trans hc5
  clear hc0 hc1 hc3 hc5 hb2
  go_wp2_with fail
  refine (H3 _).mono ?_
  rintro e w3 ⟨Am, cm, rfl, hS, hb3⟩
  have k3 := (k1.other (show w.heap.size ≠ w.heap.size + 1 by omega) (.int .i64 k) (i := 1)).below hb3
  have k4 := (k2.set 1 (.int .i64 k)).below hb3
  simp only [List.set_cons_succ, List.set_cons_zero] at k4
  have hbb3 : Below w.heap.size w w3 := (hbb2.setCell (p := ⟨w.heap.size + 1, 1, none⟩) (Nat.le_succ _) (.int .i64 k)).trans (hb3.mono (Nat.le_trans hbb2.size (KeepsWalks.setCell w2 _ (.int .i64 k)).size))
  obtain ⟨g1, g2, g3, g4, g5, g6⟩ := k3.three
  obtain ⟨m1, m2, m3, m4, m5, m6⟩ := k4.three
  have HS := Lib.hid hS
  have HB := Lib.hid hbb3
  clear hS hb3 hbb3 hbb2 k1 k2 d1 d2 d3 d4 d5 d6 c5
  go_wp2_with fail
  have j1 := k4.set 2 (.slice Am m.length cm)
  have j2 := k3.other (show w.heap.size ≠ w.heap.size + 1 by omega) (.slice Am m.length cm) (i := 2)
  have j3 := j2.set 0 (.int .i32 c)
  have j4 := j3.set 1 (.int .i64 k)
  have j5 := j4.set 2 (.slice Am m.length cm)
  refine bodyPost_ret (Rw.results2 rfl _ _ w.heap.size _ _ _ _ rfl j5 Tryz.underlying99 rfl (by kernel_rfl)) rfl ⟨Am, cm, rfl, ?_, ?_⟩
  · exact ((((HS.out.setAt k4 (by decide) 2 _).setAt j2 (by decide) 0 _).setAt j3 (by decide) 1 _).setAt j4 (by decide) 2 _)
  · exact (((HB.out.setCell (p := ⟨w.heap.size + 1, 2, none⟩) (Nat.le_succ _) _).setCell (p := ⟨w.heap.size, 0, none⟩) (Nat.le_refl _) _).setCell (p := ⟨w.heap.size, 1, none⟩) (Nat.le_refl _) _).setCell (p := ⟨w.heap.size, 2, none⟩) (Nat.le_refl _) _
end Go.Proofs.YtkmfegamblmpeaaGreatDoor

/- The layer rows: ranged, by walking its text. -/
namespace Go.Proofs.YtkmfegamblmpeaaGreatDoor
open Go.RowKit
set_option linter.unusedSimpArgs false
set_option linter.unusedVariables false

def Rw.firstB : ByteArray := ⟨#[44, 32, 70, 105, 114, 115, 116, 62]⟩
def Rw.lastB : ByteArray := ⟨#[44, 32, 76, 97, 115, 116, 62]⟩
/-- What a range turns: the reader's third field alone. -/
def Rw.RetRange (b : Nat) (vo : Value) (code : Int) (o : List UInt8) (w : World) (e : Ending) (w' : World) : Prop :=
  e = .returned (.bool true) ∧ Rw.At w' b 171 [vo, .int .i32 code, .string ⟨o.toArray⟩] ∧ w.grownBy w' (some b)
theorem Rw.empty_iff (s : ByteArray) : s.toList.isEmpty = s.data.toList.isEmpty := by rw [ByteArray.toList_eq s]

set_option maxRecDepth 100000 in
set_option maxHeartbeats 4000000 in
theorem Rw.ranged_any (b : Nat) (vo : Value) (code : Int) (was name : ByteArray) (c k : Int) (A : Option Addr) (n cp : Nat) (o : List UInt8) (w : World) (hv : vo.oneCell' = true)
    (hat : Rw.At w b 171 [vo, .int .i32 code, .string was]) (hs : name.size ≤ 1000000) (hr : Rw.ranged was.data.toList name.data.toList (decide (k = 0) && decide (n = 0)) = some o) :
    Calls Tryz.prog 122 #[.pointer (some ⟨b, 0, none⟩), .string name, .agg #[.int .i32 c, .int .i64 k, .slice A n cp]] w (Rw.RetRange b vo code o w) := by
  have c1 := Rw.cut_any name Rw.firstB hs (by decide)
  have c2 := Rw.cut_any name Rw.lastB hs (by decide)
  rw [show Rw.firstB.data.toList = Rw.first from rfl] at c1
  rw [show Rw.lastB.data.toList = Rw.last from rfl] at c2
  have hQ := Rw.quiet_any c k A n cp
  have hlt := hat.lt
  obtain ⟨d1, d2, d3, d4, d5, d6⟩ := hat.three
  unfold Rw.ranged at hr
  obtain ⟨x1, hx1⟩ : ∃ x : ByteArray, ⟨(Rw.cutE name.data.toList Rw.first).toArray⟩ = x := ⟨_, rfl⟩
  obtain ⟨x2, hx2⟩ : ∃ x : ByteArray, ⟨(Rw.cutE name.data.toList Rw.last).toArray⟩ = x := ⟨_, rfl⟩
  have hx1s : x1.size ≤ 1000000 := by
    rw [← hx1]
    show (Rw.cutE name.data.toList Rw.first).toArray.size ≤ 1000000
    unfold Rw.cutE
    split <;> simp <;> omega
  have hx2s : x2.size ≤ 1000000 := by
    rw [← hx2]
    show (Rw.cutE name.data.toList Rw.last).toArray.size ≤ 1000000
    unfold Rw.cutE
    split <;> simp <;> omega
  obtain ⟨b1, hb1⟩ : ∃ x, Rw.ends name.data.toList Rw.first = x := ⟨_, rfl⟩
  obtain ⟨b2, hb2⟩ : ∃ x, Rw.ends name.data.toList Rw.last = x := ⟨_, rfl⟩
  rw [hx1, hb1] at c1
  rw [hx2, hb2] at c2
  rw [hb1, hb2] at hr
  unfold Rw.firstB at c1
  unfold Rw.lastB at c2
  split at hr
  · split at hr
    · rename_i h1 h2
      obtain ⟨rfl, h2, h3⟩ := h2
      simp only [Option.some.injEq] at hr
      subst hr
      rw [h3] at hQ
      have hw : x2 ++ (⟨#[44, 32, 70, 105, 114, 115, 116, 62]⟩ : ByteArray) = was := by
        rw [← hx2, show (⟨#[44, 32, 70, 105, 114, 115, 116, 62]⟩ : ByteArray) = ⟨Rw.first.toArray⟩ from rfl, Fi.ba_app, h2, Lib.mk_data]
      have hwe : was.toList.isEmpty = false := by
        rw [Rw.empty_iff, ← h2]
        simp [Rw.first]
      subst hw
      have hsz : ¬ 9223372036854775807 < x2.size + (⟨#[44, 32, 70, 105, 114, 115, 116, 62]⟩ : ByteArray).size := by
        have : (⟨#[44, 32, 70, 105, 114, 115, 116, 62]⟩ : ByteArray).size = 8 := rfl
        omega
      clear h1 h2 h3 hx1 hx2 hb1 hb2
      go_enter Tryz.func122, Tryz.ntmps122
      go_wp2_with fail
      refine (c1 _).mono ?_
      rintro e w1 ⟨rfl, rfl⟩
      go_wp2_with fail
      refine (c2 _).mono ?_
      rintro e w2 ⟨rfl, rfl⟩
      go_wp2_with fail
      refine (hQ _).mono ?_
      rintro e w3 ⟨rfl, hb3⟩
      have HB := Lib.hid hb3
      clear hb3
      go_wp2_with fail
      go_ret
      exact ⟨rfl, ((hat.set 2 (.string ⟨#[]⟩)).alloc _).below HB.out, Rw.grown_trans (Rw.grown_trans (Rw.grown_set b 2 _) (World.grownBy_alloc _ _ _)) (Rw.grown_bel HB.out)⟩
    · cases hr
  · split at hr
    · rename_i h1 h2
      subst h2
      split at hr
      · rename_i h3
        simp only [Option.some.injEq] at hr
        subst hr
        rw [h3] at hQ
        have hw : x1 ++ (⟨#[44, 32, 70, 105, 114, 115, 116, 62]⟩ : ByteArray) = ⟨(Rw.cutE name.data.toList Rw.first ++ Rw.first).toArray⟩ := by
          rw [← hx1, show (⟨#[44, 32, 70, 105, 114, 115, 116, 62]⟩ : ByteArray) = ⟨Rw.first.toArray⟩ from rfl, Fi.ba_app]
        obtain ⟨hwn, hcl⟩ : was.data.toList = [] ∧ b2 = false := by
          refine ⟨?_, ?_⟩
          · rcases hl : was.data.toList with _ | ⟨x, r⟩
            · rfl
            · exact absurd (.inl (by rw [hl]; simp)) h1
          · cases b2
            · rfl
            · exact absurd (.inr rfl) h1
        have hwe : was.toList.isEmpty = true := by rw [Rw.empty_iff, hwn]; rfl
        have hsz : ¬ 9223372036854775807 < x1.size + (⟨#[44, 32, 70, 105, 114, 115, 116, 62]⟩ : ByteArray).size := by
          have : (⟨#[44, 32, 70, 105, 114, 115, 116, 62]⟩ : ByteArray).size = 8 := rfl
          omega
        subst hcl
        have HW := Lib.hid hw
        clear hw h1 h3 hx1 hx2 hb1 hb2 hwn
        go_enter Tryz.func122, Tryz.ntmps122
        go_wp2_with fail
        refine (c1 _).mono ?_
        rintro e w1 ⟨rfl, rfl⟩
        go_wp2_with fail
        refine (c2 _).mono ?_
        rintro e w2 ⟨rfl, rfl⟩
        go_wp2_with fail
        refine (hQ _).mono ?_
        rintro e w3 ⟨rfl, hb3⟩
        have HB := Lib.hid hb3
        clear hb3
        go_wp2_with fail
        go_ret
        refine ⟨rfl, ?_, Rw.grown_trans ?_ (Rw.grown_bel HB.out)⟩
        · rw [← HW.out]
          first | exact (((hat.set 2 _).set 2 _).alloc _).below HB.out | exact ((hat.set 2 _).alloc _).below HB.out | exact (((hat.set 2 _).alloc _).set 2 _).below HB.out
        · first | exact Rw.grown_trans (Rw.grown_trans (Rw.grown_set b 2 _) (Rw.grown_set b 2 _)) (World.grownBy_alloc _ _ _) | exact Rw.grown_trans (Rw.grown_set b 2 _) (World.grownBy_alloc _ _ _) | exact Rw.grown_trans (Rw.grown_trans (Rw.grown_set b 2 _) (World.grownBy_alloc _ _ _)) (Rw.grown_set b 2 _)
      · cases hr
    · rename_i h1 h2
      simp only [Option.some.injEq] at hr
      subst hr
      obtain ⟨hwn, hcl⟩ : was.data.toList = [] ∧ b2 = false := by
        refine ⟨?_, ?_⟩
        · rcases hl : was.data.toList with _ | ⟨x, r⟩
          · rfl
          · exact absurd (.inl (by rw [hl]; simp)) h1
        · cases b2
          · rfl
          · exact absurd (.inr rfl) h1
      have hop : b1 = false := by simpa using h2
      have hwe : was.toList.isEmpty = true := by rw [Rw.empty_iff, hwn]; rfl
      subst hcl hop
      clear h1 h2 hx1 hx2 hb1 hb2 hwn
      go_enter Tryz.func122, Tryz.ntmps122
      go_wp2_with fail
      refine (c1 _).mono ?_
      rintro e w1 ⟨rfl, rfl⟩
      go_wp2_with fail
      refine (c2 _).mono ?_
      rintro e w2 ⟨rfl, rfl⟩
      go_wp2_with fail
      go_ret
      exact ⟨rfl, (hat.set 2 (.string ⟨#[]⟩)).alloc _, Rw.grown_trans (Rw.grown_set b 2 _) (World.grownBy_alloc _ _ _)⟩
end Go.Proofs.YtkmfegamblmpeaaGreatDoor

/- The document's answers for the layer field: HexText, Split, Strip, by walking their texts; the laws' same. -/
namespace Go.Proofs.YtkmfegamblmpeaaGreatDoor
open Go.RowKit Go.Stop
set_option linter.unusedSimpArgs false
set_option linter.unusedVariables false

end Go.Proofs.YtkmfegamblmpeaaGreatDoor

/- The document's answers for the layer field: Split, Strip, by walking their texts; field.Split; the laws' same. -/
namespace Go.Proofs.YtkmfegamblmpeaaGreatDoor
open Go.RowKit Go.Stop
set_option linter.unusedSimpArgs false
set_option linter.unusedVariables false

def Fi.vs (l : List (List UInt8)) : List Value := l.map fun x => Value.string ⟨x.toArray⟩
set_option maxRecDepth 100000 in
set_option maxHeartbeats 1000000 in
theorem Fi.split_any (s : ByteArray) (hs : s.size ≤ 1000000000) (w : World) (hL : Fi.Laid w) :
    Calls Tryz.prog 120 #[.string s] w (Fi.RetStrs w (Fi.spl 59 [] s.data.toList)) := by
  obtain ⟨m, hm⟩ := hL.1
  have h1 := Tryz.strings_Split s ⟨#[59]⟩ m w (by omega) hm (Nat.le_refl 1)
  have hlen := Lib.splitB_all ⟨#[59]⟩ (Nat.le_refl 1) 0 _ s rfl
  have heq := Fi.split_eq 59 _ s (Nat.le_refl _)
  obtain ⟨L, hL'⟩ : ∃ L, Lib.splitB ⟨#[59]⟩ 0 (Lib.countB s ⟨#[59]⟩) s = L := ⟨_, rfl⟩
  obtain ⟨n, hn⟩ : ∃ n, Lib.countB s ⟨#[59]⟩ + 1 = n := ⟨_, rfl⟩
  rw [hL'] at h1 hlen heq
  rw [hn] at h1 hlen
  have hvs : L.map Value.string = Fi.vs (Fi.spl 59 [] s.data.toList) := by
    rw [← heq]
    unfold Fi.vs
    rw [List.map_map]
    exact List.map_congr_left fun x _ => by show Value.string x = Value.string ⟨x.data.toList.toArray⟩; rw [Lib.mk_data]
  rw [hvs] at h1
  have hln : (Fi.spl 59 [] s.data.toList).length = n := by rw [← heq, List.length_map, hlen]
  have HLN := Lib.hid hln
  clear hvs heq hlen hL' hn hm hL hln
  obtain ⟨V, hV⟩ : ∃ V, Fi.vs (Fi.spl 59 [] s.data.toList) = V := ⟨_, rfl⟩
  have HV := Lib.hid hV
  rw [hV] at h1
  clear hV
  go_enter Tryz.func120, Tryz.ntmps120
  go_wp2_with fail
  refine h1.mono ?_
  rintro e w1 ⟨rfl, rfl⟩
  go_wp2_with fail
  go_ret
  refine ⟨some ⟨w.heap.size, 0, none⟩, n, n, rfl, HLN.out, ?_, (Below.refl _ _).alloc (Nat.le_refl _) _⟩
  intro _
  refine ⟨w.heap.size, 0, rfl, by simp, fun j hj => ?_⟩
  rw [Nat.zero_add, World.cell?_alloc_new, show (Fi.spl 59 [] s.data.toList).map (fun x => Value.string ⟨x.toArray⟩) = V from HV.out]
  simp

end Go.Proofs.YtkmfegamblmpeaaGreatDoor
