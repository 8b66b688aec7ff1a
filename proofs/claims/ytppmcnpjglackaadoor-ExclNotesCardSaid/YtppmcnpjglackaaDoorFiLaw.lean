/- The document's answers for the layer field: Split, Strip, by walking their texts; field.Split; the laws' same. -/
import Derived.Test.YtppmcnpjglackaaDoorFiRef
import Derived.Laws.Bits128
import Derived.Laws.BitsAllLaws
namespace Go.Proofs.YtppmcnpjglackaaDoor
open Go.RowKit Go.Stop
set_option linter.unusedSimpArgs false
set_option linter.unusedVariables false

theorem Fi.infoStr : (Tryd.prog.info? 9).map (fun i => (i.zero, i.size, i.bytes)) = some (some (.string ByteArray.empty), 1, 16) := by kernel_rfl
def Fi.vs (l : List (List UInt8)) : List Value := l.map fun x => Value.string ⟨x.toArray⟩
theorem Fi.vs_len (l : List (List UInt8)) : (Fi.vs l).length = l.length := by simp [Fi.vs]
theorem Fi.own_empty (w : World) (e : TypeId) (size : Nat) : (w.alloc (.cells #[] e)).ownsRow w.heap.size e size (.slice (some ⟨w.heap.size, 0, none⟩) 0 0) 0 [] :=
  ⟨by simp, .inr ⟨w.heap.size, 0, #[], rfl, Nat.le_refl _, heap_alloc_new w _, Nat.le_refl _, by simp, by simp, by simp⟩⟩
/-- What the document's Split has behind i bytes. -/
def Fi.spSt (c : UInt8) (l : List UInt8) (i : Nat) (ps : List (List UInt8)) (w : List UInt8) : Prop := Fi.spl c [] l = ps ++ Fi.spl c w (l.drop i)
theorem Fi.spSt_hit {c : UInt8} {l : List UInt8} {i : Nat} {ps : List (List UInt8)} {w : List UInt8} (h : Fi.spSt c l i ps w) {b : UInt8} (hb : l[i]? = some b) (hc : b = c) : Fi.spSt c l (i + 1) (ps ++ [w]) [] := by
  unfold Fi.spSt at h ⊢
  obtain ⟨hlt, he⟩ := List.getElem?_eq_some_iff.1 hb
  rw [h, List.drop_eq_getElem_cons hlt, he, Fi.spl, if_pos hc, List.append_assoc]
  rfl
theorem Fi.spSt_go {c : UInt8} {l : List UInt8} {i : Nat} {ps : List (List UInt8)} {w : List UInt8} (h : Fi.spSt c l i ps w) {b : UInt8} (hb : l[i]? = some b) (hc : ¬ b = c) : Fi.spSt c l (i + 1) ps (w ++ [b]) := by
  unfold Fi.spSt at h ⊢
  obtain ⟨hlt, he⟩ := List.getElem?_eq_some_iff.1 hb
  rw [h, List.drop_eq_getElem_cons hlt, he, Fi.spl, if_neg hc]
theorem Fi.spSt_end {c : UInt8} {l : List UInt8} {i : Nat} {ps : List (List UInt8)} {w : List UInt8} (h : Fi.spSt c l i ps w) (hi : l.length ≤ i) : Fi.spl c [] l = ps ++ [w] := by
  unfold Fi.spSt at h
  rw [h, List.drop_of_length_le hi]
  rfl
theorem Fi.ba_get (s : ByteArray) (i : Nat) (h : i < s.size) : s.data.toList[i]? = some s[i] := by
  rw [List.getElem?_eq_getElem (by simpa using h)]
  rfl

set_option maxRecDepth 100000 in
set_option maxHeartbeats 1000000 in
theorem Fi.split_any (s : ByteArray) (hs : s.size ≤ 1000000000) (w : World) (hL : Fi.Laid w) :
    Calls Tryd.prog 36 #[.string s] w (Fi.RetStrs w (Fi.spl 59 [] s.data.toList)) := by
  obtain ⟨m, hm⟩ := hL.1
  have h1 := Tryd.strings_Split s ⟨#[59]⟩ m w (by omega) hm (Nat.le_refl 1)
  have hlen := Lib.splitB_all ⟨#[59]⟩ (Nat.le_refl 1) 0 _ s rfl
  have heq := Fi.split_eq 59 _ s (Nat.le_refl _)
  obtain ⟨L, hL'⟩ : ∃ L, Lib.splitB ⟨#[59]⟩ 0 (Lib.countB s ⟨#[59]⟩) s = L := ⟨_, rfl⟩
  obtain ⟨n, hn⟩ : ∃ n, Lib.countB s ⟨#[59]⟩ + 1 = n := ⟨_, rfl⟩
  rw [hL'] at h1 hlen heq
  rw [hn] at h1 hlen
  have hvs : L.map Value.string = Fi.vs (Fi.spl 59 [] s.data.toList) := by
    rw [← heq]
    unfold Fi.vs
    rw [List.map_map]
    exact List.map_congr_left fun x _ => by show Value.string x = Value.string ⟨x.data.toList.toArray⟩; rw [Lib.mk_data]
  rw [hvs] at h1
  have hln : (Fi.spl 59 [] s.data.toList).length = n := by rw [← heq, List.length_map, hlen]
  have HLN := Lib.hid hln
  clear hvs heq hlen hL' hn hm hL hln
  obtain ⟨V, hV⟩ : ∃ V, Fi.vs (Fi.spl 59 [] s.data.toList) = V := ⟨_, rfl⟩
  have HV := Lib.hid hV
  rw [hV] at h1
  clear hV
  go_enter Tryd.func36, Tryd.ntmps36
  go_wp2_with fail
  refine h1.mono ?_
  rintro e w1 ⟨rfl, rfl⟩
  go_wp2_with fail
  go_ret
  refine ⟨some ⟨w.heap.size, 0, none⟩, n, n, rfl, HLN.out, ?_, (Below.refl _ _).alloc (Nat.le_refl _) _⟩
  intro _
  refine ⟨w.heap.size, 0, rfl, by simp, fun j hj => ?_⟩
  rw [Nat.zero_add, World.cell?_alloc_new, show (Fi.spl 59 [] s.data.toList).map (fun x => Value.string ⟨x.toArray⟩) = V from HV.out]
  simp

end Go.Proofs.YtppmcnpjglackaaDoor

/- The document's Strip, by walking its text. -/
namespace Go.Proofs.YtppmcnpjglackaaDoor
open Go.RowKit Go.Stop
set_option linter.unusedSimpArgs false
set_option linter.unusedVariables false

theorem Fi.isEmpty (s : ByteArray) (l : List UInt8) (h : s.data.toList = l) : s.toList.isEmpty = l.isEmpty := by rw [ByteArray.toList_eq s, h]
theorem Fi.drop1 (s : ByteArray) (b : UInt8) (r : List UInt8) (h : s.data.toList = b :: r) : (s.extract 1 s.size).data.toList = r := by
  rw [Lib.extract_data, h, List.drop_one, List.tail_cons, List.take_of_length_le]
  have : s.data.toList.length = s.size := by simp
  rw [h, List.length_cons] at this
  omega

end Go.Proofs.YtppmcnpjglackaaDoor

/- The laws FieldHex and FieldParts, by walking their texts. -/
namespace Go.Proofs.YtppmcnpjglackaaDoor
open Go.RowKit Go.Stop
set_option linter.unusedSimpArgs false
set_option linter.unusedVariables false

theorem Fi.ba_len (s : ByteArray) : s.data.toList.length = s.size := by simp
def Fi.cutS (s : ByteArray) (n : Nat) : ByteArray := if n < s.size then s.extract 0 n else s
theorem Fi.cutS_list (s : ByteArray) (n : Nat) : (Fi.cutS s n).data.toList = s.data.toList.take n := by
  unfold Fi.cutS
  split
  · rw [Lib.extract_data]; simp
  · rw [List.take_of_length_le (by simp; omega)]
theorem Fi.cutS_size (s : ByteArray) (n : Nat) : (Fi.cutS s n).size ≤ n := by
  rw [← Fi.ba_len, Fi.cutS_list, List.length_take]; omega

set_option maxRecDepth 100000 in
set_option maxHeartbeats 400000 in
theorem Fi.cut_any (s : ByteArray) (n : Nat) (w : World) (hs : s.size ≤ maxLen) :
    Calls Tryd.prog 12 #[.string s, .int .i64 n] w fun e w' => e = .returned (.string (Fi.cutS s n)) ∧ w = w' := by
  unfold maxLen at hs
  by_cases h : n < s.size
  · have hc : Fi.cutS s n = s.extract 0 n := by unfold Fi.cutS; rw [if_pos h]
    have HC := Lib.hid hc
    clear hc
    go_enter Tryd.func12, Tryd.ntmps12
    go_wp2
    go_ret
    rw [HC.out]
    exact ⟨rfl, rfl⟩
  · have hc : Fi.cutS s n = s := by unfold Fi.cutS; rw [if_neg h]
    have HC := Lib.hid hc
    clear hc
    go_enter Tryd.func12, Tryd.ntmps12
    go_wp2
    go_ret
    rw [HC.out]
    exact ⟨rfl, rfl⟩

def Fi.hexV (l : List UInt8) : Int := (Fi.hex l).getD 0
theorem Fi.k1 : Fi.hex [48, 48, 69, 57] = some 233 := by decide +kernel
theorem Fi.k2 : Fi.hex [48, 48, 48, 69, 57] = none := by decide +kernel
theorem Fi.k3 : Fi.strip [48, 57, 53, 56, 32, 35, 32, 97, 32, 110, 111, 116, 101] = [48, 57, 53, 56] := by decide +kernel
theorem Fi.nd233 : Fi.nd 233 = 2 := by rw [Fi.nd, dif_neg (by decide), Fi.nd, dif_pos (by decide)]
theorem Fi.k4 : Fi.text 233 = [48, 48, 69, 57] := by unfold Fi.text; rw [Fi.nd233]; decide +kernel

theorem Fi.and21 (n : Int) : ∃ c : Nat, bits .and .i64 n 2097151 = (c : Int) ∧ c < 2097152 := by
  have hm : (BitVec.ofInt 64 2097151).toNat = 2 ^ 21 - 1 := by decide
  have key : (BitVec.ofInt 64 n &&& BitVec.ofInt 64 2097151).toNat = (n % ((2 ^ 64 : Nat) : Int)).toNat % 2 ^ 21 := by
    rw [BitVec.toNat_and, BitVec.toNat_ofInt, hm, Nat.and_two_pow_sub_one_eq_mod]
  refine ⟨(n % ((2 ^ 64 : Nat) : Int)).toNat % 2 ^ 21, ?_, ?_⟩
  · show IntKind.i64.wrap ((BitVec.ofInt 64 n &&& BitVec.ofInt 64 2097151).toNat : Nat) = _
    rw [key, IntKind.wrap_i64]
    omega
  · have : (2 : Nat) ^ 21 = 2097152 := by decide
    omega

theorem Fi.flat_take : ∀ (l : List (List UInt8)) (i : Nat), (l.take i).flatten.length ≤ l.flatten.length
  | [], i => by simp
  | x :: r, 0 => by simp
  | x :: r, i + 1 => by
    have := Fi.flat_take r i
    simp only [List.take_succ_cons, List.flatten_cons, List.length_append]
    omega
theorem Fi.glue_take (c : UInt8) (l : List (List UInt8)) (i : Nat) : (Fi.glue c (l.take i)).length ≤ (Fi.glue c l).length := by
  rcases l with _ | ⟨x, r⟩
  · simp [Fi.glue]
  rcases i with _ | i
  · simp [Fi.glue]
  simp only [List.take_succ_cons, Fi.glue, List.length_append, List.map_take]
  have := Fi.flat_take (r.map fun y => c :: y) i
  omega
theorem Fi.glue_size {l : List (List UInt8)} {t : List UInt8} (h : Fi.glue 59 l = t) (i : Nat) : (⟨(Fi.glue 59 (l.take i)).toArray⟩ : ByteArray).size ≤ t.length := by
  have := Fi.glue_take 59 l i
  rw [h] at this
  show (Fi.glue 59 (l.take i)).toArray.size ≤ _
  simpa using this

end Go.Proofs.YtppmcnpjglackaaDoor
