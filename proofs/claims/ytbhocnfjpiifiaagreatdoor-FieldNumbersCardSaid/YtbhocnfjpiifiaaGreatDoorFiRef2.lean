/- The document's answers for the layer field: Split, Strip, by walking their texts; field.Split; the laws' same. -/
import Derived.Test.YtbhocnfjpiifiaaGreatDoorFiRef
namespace Go.Proofs.YtbhocnfjpiifiaaGreatDoor
open Go.RowKit Go.Stop
set_option linter.unusedSimpArgs false
set_option linter.unusedVariables false

theorem Fi.infoStr : (Tryz.prog.info? 9).map (fun i => (i.zero, i.size, i.bytes)) = some (some (.string ByteArray.empty), 1, 16) := by kernel_rfl
def Fi.vs (l : List (List UInt8)) : List Value := l.map fun x => Value.string ⟨x.toArray⟩
theorem Fi.vs_len (l : List (List UInt8)) : (Fi.vs l).length = l.length := by simp [Fi.vs]
theorem Fi.own_empty (w : World) (e : TypeId) (size : Nat) : (w.alloc (.cells #[] e)).ownsRow w.heap.size e size (.slice (some ⟨w.heap.size, 0, none⟩) 0 0) 0 [] :=
  ⟨by simp, .inr ⟨w.heap.size, 0, #[], rfl, Nat.le_refl _, heap_alloc_new w _, Nat.le_refl _, by simp, by simp, by simp⟩⟩
/-- What the document's Split has behind i bytes. -/
def Fi.spSt (c : UInt8) (l : List UInt8) (i : Nat) (ps : List (List UInt8)) (w : List UInt8) : Prop := Fi.spl c [] l = ps ++ Fi.spl c w (l.drop i)
theorem Fi.spSt_hit {c : UInt8} {l : List UInt8} {i : Nat} {ps : List (List UInt8)} {w : List UInt8} (h : Fi.spSt c l i ps w) {b : UInt8} (hb : l[i]? = some b) (hc : b = c) : Fi.spSt c l (i + 1) (ps ++ [w]) [] := by
  unfold Fi.spSt at h ⊢
  obtain ⟨hlt, he⟩ := List.getElem?_eq_some_iff.1 hb
  rw [h, List.drop_eq_getElem_cons hlt, he, Fi.spl, if_pos hc, List.append_assoc]
  rfl
theorem Fi.spSt_go {c : UInt8} {l : List UInt8} {i : Nat} {ps : List (List UInt8)} {w : List UInt8} (h : Fi.spSt c l i ps w) {b : UInt8} (hb : l[i]? = some b) (hc : ¬ b = c) : Fi.spSt c l (i + 1) ps (w ++ [b]) := by
  unfold Fi.spSt at h ⊢
  obtain ⟨hlt, he⟩ := List.getElem?_eq_some_iff.1 hb
  rw [h, List.drop_eq_getElem_cons hlt, he, Fi.spl, if_neg hc]
theorem Fi.spSt_end {c : UInt8} {l : List UInt8} {i : Nat} {ps : List (List UInt8)} {w : List UInt8} (h : Fi.spSt c l i ps w) (hi : l.length ≤ i) : Fi.spl c [] l = ps ++ [w] := by
  unfold Fi.spSt at h
  rw [h, List.drop_of_length_le hi]
  rfl
theorem Fi.ba_get (s : ByteArray) (i : Nat) (h : i < s.size) : s.data.toList[i]? = some s[i] := by
  rw [List.getElem?_eq_getElem (by simpa using h)]
  rfl

set_option maxRecDepth 100000 in
set_option maxHeartbeats 4000000 in
theorem Fi.rsplit_any (c : UInt8) (s : ByteArray) (hs : s.size ≤ 1000000000) (w : World) :
    Calls Tryz.prog 11 #[.string s, .int .u8 (c.toNat : Int)] w (Fi.RetStrs w (Fi.spl c [] s.data.toList)) := by
  obtain ⟨i0, hi0, hz0, hz1, hz2⟩ := info_parts Fi.infoStr
  go_enter Tryz.func11, Tryz.ntmps11
  go_wp2
  go_loopw [5, 6, 7] (fun vo vw vi wr => ∃ (i : Nat) (ps : List (List UInt8)) (x : List UInt8), i ≤ s.size ∧ vi = .int .i64 i ∧ vw = .string ⟨x.toArray⟩ ∧ x.length ≤ i ∧ ps.length ≤ i ∧ Fi.spSt c s.data.toList i ps x ∧ wr.ownsRow w.heap.size 9 1 vo ps.length (Fi.vs ps) ∧ Below w.heap.size w wr) (fun _ _ vi _ => s.size - (intOf vi).toNat)
  case atStart => exact ⟨0, [], [], by omega, rfl, rfl, by simp, by simp, rfl, Fi.own_empty _ _ _, (Below.refl _ _).alloc (Nat.le_refl _) _⟩
  case round =>
    obtain ⟨i, ps, x, hi, rfl, rfl, hx, hp, hst, hown, hbr⟩ := hrel
    obtain ⟨w1, rfl⟩ : ∃ w1 : World, w1 = wr := ⟨_, rfl⟩
    have hs1 := hbr.size
    obtain ⟨q, hq⟩ : ∃ q, ps.length = q := ⟨_, rfl⟩
    rw [hq] at hp hown
    have HQ := Lib.hid hq
    obtain ⟨xb, hxb⟩ : ∃ xb : ByteArray, (⟨x.toArray⟩ : ByteArray) = xb := ⟨_, rfl⟩
    have hxs : xb.size = x.length := by rw [← hxb]; show x.toArray.size = _; simp
    have HXB := Lib.hid hxb
    rw [hxb]
    clear hq hxb
    by_cases hlt : (i : Int) < s.size
    · have hi' : i < s.size := by omega
      have n0 : (0 : Int) ≤ (i : Int) := by omega
      have hgt := Fi.ba_get s i hi'
      obtain ⟨b, hb⟩ : ∃ b, s[i] = b := ⟨_, rfl⟩
      rw [hb] at hgt
      by_cases hc : b = c
      · have hst2 := Fi.spSt_hit hst hgt hc
        have hbc : (b.toNat : Int) = (c.toNat : Int) := by rw [hc]
        have HST := Lib.hid hst2
        have HBR := Lib.hid hbr
        clear hst hst2 hgt hbr hc
        go_wp2_with (at_builtin; refine wpList_push1 _ rfl _ _ _ rfl w.heap.size 9 i0 _ 16 Tryz.underlying33 hi0 hz0 hz1 hz2 rfl _ q _ rfl hown _ rfl rfl (by simp only [maxLen]; omega) (by omega) hs1 ?_; intro v1 w2 hown2 hb2)
        exact ⟨⟨i + 1, ps ++ [x], [], by omega, by go_num, rfl, by simp, by rw [List.length_append, HQ.out]; simp; omega, HST.out, by rw [List.length_append, HQ.out, show Fi.vs (ps ++ [x]) = Fi.vs ps ++ [Value.string xb] by rw [← HXB.out]; simp [Fi.vs]]; exact hown2, HBR.out.trans hb2⟩, by simp [intOf]; omega⟩
      · have hst2 := Fi.spSt_go hst hgt hc
        have hbc : ¬ (b.toNat : Int) = (c.toNat : Int) := fun h => hc (UInt8.toNat_inj.1 (by omega))
        have hcat : ¬ 9223372036854775807 < xb.size + 1 := by omega
        have hex : s.extract i (i + 1) = ⟨#[b]⟩ := by
          apply ByteArray.ext
          apply Array.toList_inj.1
          rw [Lib.extract_data, show i + 1 - i = 1 by omega, List.take_one, List.head?_drop, hgt]
          rfl
        have HAPP := Lib.hid (show xb ++ (⟨#[b]⟩ : ByteArray) = ⟨(x ++ [b]).toArray⟩ by rw [← HXB.out]; exact Fi.ba_app x [b])
        have HST := Lib.hid hst2
        have HBR := Lib.hid hbr
        clear hst hst2 hgt hbr hc
        go_wp2_with fail
        exact ⟨⟨i + 1, ps, x ++ [b], by omega, by go_num, by first | exact congrArg Value.string HAPP.out | (congr 1; exact HAPP.out), by simp; omega, by rw [HQ.out]; omega, HST.out, by rw [HQ.out]; exact hown, HBR.out⟩, by simp [intOf]; omega⟩
    · obtain rfl : i = s.size := by omega
      have hend := Fi.spSt_end hst (by simp)
      have HE := Lib.hid hend
      have HBR := Lib.hid hbr
      clear hst hend hbr
      go_wp2_with (at_builtin; refine wpList_push1 _ rfl _ _ _ rfl w.heap.size 9 i0 _ 16 Tryz.underlying33 hi0 hz0 hz1 hz2 rfl _ q _ rfl hown _ rfl rfl (by simp only [maxLen]; omega) (by omega) hs1 ?_; intro v1 w2 hown2 hb2)
      obtain ⟨A1, c1, rfl⟩ := own_form hown2
      go_wp2
      go_ret
      rw [show Fi.vs ps ++ [Value.string xb] = Fi.vs (ps ++ [x]) by rw [← HXB.out]; simp [Fi.vs]] at hown2
      exact ⟨A1, q + 1, c1, rfl, by rw [HE.out, List.length_append, HQ.out]; rfl, by rw [HE.out]; exact Sl.of_own hown2, HBR.out.trans hb2⟩

end Go.Proofs.YtbhocnfjpiifiaaGreatDoor
