/- strings.SplitSeq at a blank: its contract, by walking its texts. -/
import Derived.Test.YtppmcnpjglackaaDoorRange
import Derived.Test.YtppmcnpjglackaaDoorFiNumPlain
namespace Go.Proofs.YtppmcnpjglackaaDoor
open Go.RowKit
attribute [local go_sem] Oper.semAt_some
set_option linter.unusedSimpArgs false
set_option linter.unusedVariables false

def Q.bas (l : List (List UInt8)) : List ByteArray := l.map fun x => ⟨x.toArray⟩
/-- How much of the text is left, read off the world. -/
def Q.left (b : Nat) (W : World) : Nat := match W.cell? ⟨b, 0, none⟩ with | some (.string r) => r.size | _ => 0
theorem Q.left_eq {W : World} {b : Nat} {t : TypeId} {r : ByteArray} (h : Boxed W b t (.string r)) : Q.left b W = r.size := by unfold Q.left; rw [h.cell]
theorem Q.kept {b : Nat} {ks : List Nat} {W W' : World} (h : R.Kept ks W W') {t : TypeId} {v : Value} (hb : Boxed W b t v) (hm : b ∈ ks) : Boxed W' b t v := h b hm _ hb
theorem Q.split_hit {r : ByteArray} {i : Nat} (h : Lib.indexByte r.data.toList 32 = i) : Q.bas (Fi.spl 32 [] r.data.toList) = r.extract 0 i :: Q.bas (Fi.spl 32 [] (r.extract (i + 1) r.size).data.toList) := by
  obtain ⟨h1, h2⟩ := Fi.idx_hit 32 _ i h
  have hd : (r.extract (i + 1) r.size).data.toList = r.data.toList.drop (i + 1) := by rw [Lib.extract_data, List.take_of_length_le (by simp)]
  have ht : (r.extract 0 i).data.toList = r.data.toList.take i := by rw [Lib.extract_data]; simp
  rw [hd]
  conv => lhs; rw [h1]
  rw [Fi.spl_hit 32 _ _ h2]
  unfold Q.bas
  rw [List.map_cons, ← ht, Lib.mk_data]
theorem Q.split_miss {r : ByteArray} (h : Lib.indexByte r.data.toList 32 = -1) : Q.bas (Fi.spl 32 [] r.data.toList) = [r] := by
  rw [Fi.spl_miss 32 _ (Fi.idx_miss 32 _ h)]
  unfold Q.bas
  rw [List.map_singleton, Lib.mk_data]
theorem Q.idx_lt {r : ByteArray} {i : Nat} (h : Lib.indexByte r.data.toList 32 = i) : i < r.size := by
  obtain ⟨h1, _⟩ := Fi.idx_hit 32 _ i h
  have := congrArg List.length h1
  have hl : r.data.toList.length = r.size := by simp
  rw [List.length_append, List.length_cons, List.length_take, List.length_drop, hl] at this
  omega

set_option maxRecDepth 100000 in
set_option maxHeartbeats 4000000 in
theorem Q.splitSeq1 (s : ByteArray) (hs : s.size ≤ 1000000) (n b : Nat) (hn : 1 ≤ n) (W : World) (h0 : Boxed W b 9 (.string s)) (h1 : Boxed W (b + 1) 9 (.string ⟨#[32]⟩)) (h2 : Boxed W (b + 2) 3 (.int .i64 0)) :
    R.Seq n Tryd.prog 127 #[.pointer (some ⟨b + 1, 0, none⟩), .pointer (some ⟨b, 0, none⟩), .pointer (some ⟨b + 2, 0, none⟩)] (fun x : ByteArray => #[Value.string x]) b [b, b + 1, b + 2]
      (fun xs => xs = Q.bas (Fi.spl 32 [] s.data.toList)) (fun pre => pre <+: Q.bas (Fi.spl 32 [] s.data.toList)) (Q.bas (Fi.spl 32 [] s.data.toList)).length W := fun l J Jx hJ hJx hY hj0 => by
  obtain ⟨L, hL⟩ : ∃ L, Q.bas (Fi.spl 32 [] s.data.toList) = L := ⟨_, rfl⟩
  rw [hL] at hY ⊢
  have c1 := h1.cell
  refine callsIn_of_wp Tryd.func127 rfl trivial ?_ rfl
  simp only [Tryd.ntmps127, List.size_toArray, List.length_cons, List.length_nil, Nat.reduceAdd, Nat.reduceSub, Array.replicate_succ, Array.replicate_zero, List.push_toArray, List.append_toArray, List.nil_append, List.cons_append]
  gi_wp2
  gi_loopw [7] (fun _ wr => ∃ (pre : List ByteArray) (r : ByteArray), L = pre ++ Q.bas (Fi.spl 32 [] r.data.toList) ∧ Boxed wr b 9 (.string r) ∧ Boxed wr (b + 1) 9 (.string ⟨#[32]⟩) ∧ Boxed wr (b + 2) 3 (.int .i64 0) ∧ J pre wr ∧ r.size ≤ s.size)
    (fun _ wr => Q.left b wr)
  case atStart => exact ⟨[], s, hL.symm, h0, h1, h2, hj0, Nat.le_refl _⟩
  case round =>
    obtain ⟨pre, r, hpre, b0, b1, b2, hJp, hrs⟩ := hrel
    have d0 := b0.cell
    have d1 := b1.cell
    have d2 := b2.cell
    by_cases hidx : Lib.indexByte r.data.toList 32 = -1
    · rw [Q.split_miss hidx] at hpre
      obtain ⟨fn, tmps, assign, body, hy, hR⟩ := hY pre r wr hJp (by rw [hpre]; simp) (by rw [hpre]; exact List.prefix_refl _)
      gi_wp2_with (refine ⟨trivial, ?_⟩; gi_at_call 97; refine (callsIn_wide.2 (Tryd.strings_Index_one r 32 _)).mono ?_; rintro e w1 ⟨rfl, rfl⟩; rw [hidx])
      refine hR.mono ?_
      rintro e W3 (⟨rfl, hJ3, hk3⟩ | ⟨rfl, hJx3⟩)
      · gi_wp2
        go_end0
        exact ⟨⟨_, rfl⟩, .inl ⟨pre ++ [r], hpre.symm, hJ3⟩⟩
      · gi_wp2
        go_end0
        exact ⟨⟨_, rfl⟩, .inr ⟨pre ++ [r], by rw [hpre]; exact List.prefix_refl _, hJx3⟩⟩
    · have hge := Lib.indexByte_ge r.data.toList 32
      obtain ⟨i, hi⟩ : ∃ i : Nat, Lib.indexByte r.data.toList 32 = i := ⟨(Lib.indexByte r.data.toList 32).toNat, by omega⟩
      have hir := Q.idx_lt hi
      rw [Q.split_hit hi] at hpre
      obtain ⟨x, hx⟩ : ∃ x, r.extract 0 i = x := ⟨_, rfl⟩
      obtain ⟨z, hz⟩ : ∃ z, r.extract (i + 1) r.size = z := ⟨_, rfl⟩
      rw [hx, hz] at hpre
      have hzs : z.size = r.size - (i + 1) := by rw [← hz, ByteArray.size_extract]; omega
      have i0 : ¬ (i : Int) < 0 := by omega
      have i1 : (0 : Int) ≤ (i : Int) := by omega
      have i2 : (i : Int) ≤ r.size := by omega
      have i3 : (0 : Int) ≤ (i : Int) + 1 := by omega
      have i4 : (i : Int) + 1 ≤ r.size := by omega
      obtain ⟨fn, tmps, assign, body, hy, hR⟩ := hY pre x wr hJp (by rw [hpre]; simp) ⟨_, by rw [hpre, List.append_assoc]; rfl⟩
      have HI := Lib.hid hi
      have HP := Lib.hid hpre
      clear hi hidx hpre hge
      gi_wp2_with (refine ⟨trivial, ?_⟩; gi_at_call 97; refine (callsIn_wide.2 (Tryd.strings_Index_one r 32 _)).mono ?_; rintro e w1 ⟨rfl, rfl⟩; rw [HI.out])
      refine hR.mono ?_
      rintro e W3 (⟨rfl, hJ3, hk3⟩ | ⟨rfl, hJx3⟩)
      · have k0 := Q.kept hk3 b0 (by simp)
        have k1 := Q.kept hk3 b1 (by simp)
        have k2 := Q.kept hk3 b2 (by simp)
        have e0 := k0.cell
        have e1 := k1.cell
        have e2 := k2.cell
        have f0 := k0.frozen
        have HJ3 := Lib.hid hJ3
        clear hk3 hJ3
        gi_wp2
        go_roundw
        case rel => exact ⟨pre ++ [x], z, by rw [HP.out]; simp, k0.set _, k1.other (by omega) _, k2.other (by omega) _, hJ _ _ _ _ HJ3.out (grownBy_setCell' W3 b (.string z)) (fun q e => by cases e; rfl), by omega⟩
        case measure => rw [Q.left_eq (k0.set _), Q.left_eq b0]; omega
      · gi_wp2
        refine bodyPost_ret (results_none rfl _ _ _) rfl ?_
        exact ⟨⟨_, rfl⟩, .inr ⟨pre ++ [x], ⟨_, by rw [HP.out, List.append_assoc]; rfl⟩, hJx3⟩⟩
end Go.Proofs.YtppmcnpjglackaaDoor
