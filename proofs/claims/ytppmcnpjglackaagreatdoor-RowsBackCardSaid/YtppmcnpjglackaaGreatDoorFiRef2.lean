/- The document's answers for the layer field: Split, Strip, by walking their texts; field.Split; the laws' same. -/
import Derived.Test.YtppmcnpjglackaaGreatDoorFiRef
namespace Go.Proofs.YtppmcnpjglackaaGreatDoor
open Go.RowKit Go.Stop
set_option linter.unusedSimpArgs false
set_option linter.unusedVariables false

theorem Fi.infoStr : (Tryz.prog.info? 9).map (fun i => (i.zero, i.size, i.bytes)) = some (some (.string ByteArray.empty), 1, 16) := by kernel_rfl
def Fi.vs (l : List (List UInt8)) : List Value := l.map fun x => Value.string ⟨x.toArray⟩
theorem Fi.vs_len (l : List (List UInt8)) : (Fi.vs l).length = l.length := by simp [Fi.vs]
theorem Fi.own_empty (w : World) (e : TypeId) (size : Nat) : (w.alloc (.cells #[] e)).ownsRow w.heap.size e size (.slice (some ⟨w.heap.size, 0, none⟩) 0 0) 0 [] :=
  ⟨by simp, .inr ⟨w.heap.size, 0, #[], rfl, Nat.le_refl _, heap_alloc_new w _, Nat.le_refl _, by simp, by simp, by simp⟩⟩
/-- What the document's Split has behind i bytes. -/
def Fi.spSt (c : UInt8) (l : List UInt8) (i : Nat) (ps : List (List UInt8)) (w : List UInt8) : Prop := Fi.spl c [] l = ps ++ Fi.spl c w (l.drop i)
theorem Fi.spSt_hit {c : UInt8} {l : List UInt8} {i : Nat} {ps : List (List UInt8)} {w : List UInt8} (h : Fi.spSt c l i ps w) {b : UInt8} (hb : l[i]? = some b) (hc : b = c) : Fi.spSt c l (i + 1) (ps ++ [w]) [] := by
  unfold Fi.spSt at h ⊢
  obtain ⟨hlt, he⟩ := List.getElem?_eq_some_iff.1 hb
  rw [h, List.drop_eq_getElem_cons hlt, he, Fi.spl, if_pos hc, List.append_assoc]
  rfl
theorem Fi.spSt_go {c : UInt8} {l : List UInt8} {i : Nat} {ps : List (List UInt8)} {w : List UInt8} (h : Fi.spSt c l i ps w) {b : UInt8} (hb : l[i]? = some b) (hc : ¬ b = c) : Fi.spSt c l (i + 1) ps (w ++ [b]) := by
  unfold Fi.spSt at h ⊢
  obtain ⟨hlt, he⟩ := List.getElem?_eq_some_iff.1 hb
  rw [h, List.drop_eq_getElem_cons hlt, he, Fi.spl, if_neg hc]
theorem Fi.spSt_end {c : UInt8} {l : List UInt8} {i : Nat} {ps : List (List UInt8)} {w : List UInt8} (h : Fi.spSt c l i ps w) (hi : l.length ≤ i) : Fi.spl c [] l = ps ++ [w] := by
  unfold Fi.spSt at h
  rw [h, List.drop_of_length_le hi]
  rfl
theorem Fi.ba_get (s : ByteArray) (i : Nat) (h : i < s.size) : s.data.toList[i]? = some s[i] := by
  rw [List.getElem?_eq_getElem (by simpa using h)]
  rfl

set_option maxRecDepth 100000 in
set_option maxHeartbeats 1000000 in
theorem Fi.split_any (s : ByteArray) (hs : s.size ≤ 1000000000) (w : World) (hL : Fi.Laid w) :
    Calls Tryz.prog 49 #[.string s] w (Fi.RetStrs w (Fi.spl 59 [] s.data.toList)) := by
  obtain ⟨m, hm⟩ := hL.1
  have h1 := Tryz.strings_Split s ⟨#[59]⟩ m w (by omega) hm (Nat.le_refl 1)
  have hlen := Lib.splitB_all ⟨#[59]⟩ (Nat.le_refl 1) 0 _ s rfl
  have heq := Fi.split_eq 59 _ s (Nat.le_refl _)
  obtain ⟨L, hL'⟩ : ∃ L, Lib.splitB ⟨#[59]⟩ 0 (Lib.countB s ⟨#[59]⟩) s = L := ⟨_, rfl⟩
  obtain ⟨n, hn⟩ : ∃ n, Lib.countB s ⟨#[59]⟩ + 1 = n := ⟨_, rfl⟩
  rw [hL'] at h1 hlen heq
  rw [hn] at h1 hlen
  have hvs : L.map Value.string = Fi.vs (Fi.spl 59 [] s.data.toList) := by
    rw [← heq]
    unfold Fi.vs
    rw [List.map_map]
    exact List.map_congr_left fun x _ => by show Value.string x = Value.string ⟨x.data.toList.toArray⟩; rw [Lib.mk_data]
  rw [hvs] at h1
  have hln : (Fi.spl 59 [] s.data.toList).length = n := by rw [← heq, List.length_map, hlen]
  have HLN := Lib.hid hln
  clear hvs heq hlen hL' hn hm hL hln
  obtain ⟨V, hV⟩ : ∃ V, Fi.vs (Fi.spl 59 [] s.data.toList) = V := ⟨_, rfl⟩
  have HV := Lib.hid hV
  rw [hV] at h1
  clear hV
  go_enter Tryz.func49, Tryz.ntmps49
  go_wp2_with fail
  refine h1.mono ?_
  rintro e w1 ⟨rfl, rfl⟩
  go_wp2_with fail
  go_ret
  refine ⟨some ⟨w.heap.size, 0, none⟩, n, n, rfl, HLN.out, ?_, (Below.refl _ _).alloc (Nat.le_refl _) _⟩
  intro _
  refine ⟨w.heap.size, 0, rfl, by simp, fun j hj => ?_⟩
  rw [Nat.zero_add, World.cell?_alloc_new, show (Fi.spl 59 [] s.data.toList).map (fun x => Value.string ⟨x.toArray⟩) = V from HV.out]
  simp

end Go.Proofs.YtppmcnpjglackaaGreatDoor
