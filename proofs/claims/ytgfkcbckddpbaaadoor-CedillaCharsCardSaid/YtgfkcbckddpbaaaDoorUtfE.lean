/- Decode, the reference's Decode, and the law UtfDecodes' parts. -/
import Derived.Test.YtgfkcbckddpbaaaDoorUtfD
namespace Go.Proofs.YtgfkcbckddpbaaaDoor
open Go.RowKit
set_option linter.unusedSimpArgs false
set_option linter.unusedVariables false

/-- A new slice of whole numbers, and an integer beside it. -/
def RetOwn2 (el : TypeId) (k : IntKind) (l : List Int) (n : Int) (w : World) (e : Ending) (w' : World) : Prop :=
  ∃ A c, e = .returned (.tuple #[.slice A l.length c, .int .i64 n]) ∧ w'.ownsRow w.heap.size el 1 (.slice A l.length c) l.length (l.map (Value.int k)) ∧ Below w.heap.size w w'

theorem RetOwn2.mk {el : TypeId} {k : IntKind} {l : List Int} {n : Int} {w w' : World} {v : Value} {m : Nat} {xs : List Value} (h : w'.ownsRow w.heap.size el 1 v m xs) (hm : m = l.length) (hx : xs = l.map (Value.int k)) (hb : Below w.heap.size w w') :
    RetOwn2 el k l n w (.returned (.tuple #[v, .int .i64 n])) w' := by
  subst hm hx
  obtain ⟨A, c, rfl⟩ := own_form h
  exact ⟨A, c, rfl, h, hb⟩

def U.decN (r : List UInt8) : Int := if r = [] then 0 else 6
def U.decL (cs : List Int) (r : List UInt8) : List Int := if r = [] then cs else []
theorem U.decN_cons (a : UInt8) (r : List UInt8) : U.decN (a :: r) = 6 := rfl
theorem U.decL_cons (cs : List Int) (a : UInt8) (r : List UInt8) : U.decL cs (a :: r) = [] := rfl

set_option maxRecDepth 100000 in
set_option maxHeartbeats 1000000 in
theorem U.decode_any (s : ByteArray) (w : World) (hs : s.size ≤ 1000000000000) (hH : Heads w) (cs : List Int) (r : List UInt8) (hd : U.Dec s.data.toList cs r) :
    Calls Tryd.prog 20 #[.string s] w (RetOwn2 21 .i32 (U.decL cs r) (U.decN r) w) := by
  obtain ⟨d1, d2, d3⟩ := hd
  have hlen : s.size = (U.encs cs).length + r.length := by rw [← ba_len, d1, List.length_append]
  have D1 := Lib.hid d1
  have D2 := Lib.hid d2
  have D3 := Lib.hid d3
  have HL := Lib.hid hlen
  clear d1 d2 d3 hlen
  obtain ⟨i0, hi, hz0, hz1, hz2⟩ := info_parts infoRune
  go_enter Tryd.func20, Tryd.ntmps20
  go_wp2
  go_loopw [0, 4] (fun x v wr => ∃ a b y, cs = a ++ b ∧ x = .string y ∧ y.data.toList = U.encs b ++ r ∧ y.size ≤ s.size ∧ wr.ownsRow w.heap.size 21 1 v a.length (a.map (Value.int .i32)) ∧ Below w.heap.size w wr) (fun x _ _ => match x with | .string y => y.size | _ => 0)
  case atStart => exact ⟨[], cs, s, rfl, rfl, D1.out, Nat.le_refl _, World.ownsRow_nil _ _ _ _, Below.refl _ _⟩
  case round =>
    obtain ⟨a, b, y, hab, rfl, hy, hys, hown, hbel⟩ := hrel
    have hsz := hbel.size
    have hHr := hH.next hbel
    have hal : (U.encs a).length ≤ s.size := by rw [HL.out, hab, U.encs_append, List.length_append]; omega
    have hanl := U.encs_len a
    have HAB := Lib.hid hab
    have HY := Lib.hid hy
    have hym : y.size ≤ maxLen := by unfold maxLen; omega
    clear hab hy
    rcases b with _ | ⟨c, b⟩
    · have ha : cs = a := by rw [HAB.out, List.append_nil]
      rcases r with _ | ⟨r0, r'⟩
      · have he : y.toList.isEmpty = true := by rw [ba_list, HY.out]; rfl
        have HHA := Lib.hid ha
        clear ha
        go_wp2
        go_ret2
        exact RetOwn2.mk hown (by rw [show U.decL cs [] = cs from rfl, HHA.out]) (by rw [show U.decL cs [] = cs from rfl, HHA.out]) hbel
      · have he : y.toList.isEmpty = false := by rw [ba_list, HY.out]; rfl
        have h3 : U.next3 y.data.toList = (0, 0, false) := by rw [HY.out]; exact U.next3_none D3.out
        have H3 := Lib.hid h3
        clear h3 ha
        go_wp2_with fail
        refine (U.next_any _ _ hym hHr).mono ?_
        rintro e w1 ⟨rfl, hbel1⟩
        rw [H3.out]
        go_wp2
        go_ret2
        rw [U.decL_cons, U.decN_cons]
        exact RetOwn2.mk (World.ownsRow_nil _ _ _ _) rfl rfl (hbel.trans (hbel1.mono hsz))
    · have hc := D2.out c (by rw [HAB.out]; simp)
      obtain ⟨l1, l2⟩ := U.enc_pos c
      have hyl : y.size = (U.enc c).length + ((U.encs b).length + r.length) := by rw [← ba_len, HY.out, U.encs_cons, List.length_append, List.length_append, Nat.add_assoc]
      have h3 : U.next3 y.data.toList = (c, (U.enc c).length, true) := by rw [HY.out]; exact U.next3_some (U.dec_next hc)
      have he : y.toList.isEmpty = false := ba_nonempty y (by omega)
      obtain ⟨k, hk⟩ : ∃ k, (U.enc c).length = k := ⟨_, rfl⟩
      obtain ⟨z, hz⟩ : ∃ z : ByteArray, y.extract k y.size = z := ⟨_, rfl⟩
      have hzl : z.data.toList = U.encs b ++ r := by
        rw [← hz, ba_drop, HY.out, U.encs_cons, List.append_assoc, ← hk, List.drop_left]
      have hzs : z.size < y.size := by
        rw [hyl, ← ba_len, hzl, List.length_append]; omega
      have H3 := Lib.hid h3
      have HZL := Lib.hid hzl
      rw [hk] at l1 l2 H3 hyl
      have hky : k ≤ y.size := by omega
      have hcn := (U.isC_iff c).1 hc
      obtain ⟨c1, c2, -⟩ := hcn
      clear hk h3 hzl hyl
      have hal' : a.length + 1 ≤ 1000000000001 := by omega
      go_wp2_with fail
      refine (U.next_any _ _ hym hHr).mono ?_
      rintro e w1 ⟨rfl, hbel1⟩
      rw [H3.out]
      have hown1 := own_below hown hbel1 (Nat.le_refl _)
      have hb01 := hbel.trans (hbel1.mono hsz)
      have hs1 := hb01.size
      clear hown hbel1
      go_wp2_with (at_builtin; refine wpList_push1 _ rfl _ _ _ rfl w.heap.size 21 i0 _ 4 Tryd.underlying49 hi hz0 hz1 hz2 rfl _ a.length _ rfl hown1 _ rfl rfl (by simp only [maxLen]; omega) (by omega) hs1 ?_; intro v1 w2 hown2 hb2)
      exact ⟨⟨a ++ [c], b, z, by rw [HAB.out, List.append_assoc]; rfl, rfl, HZL.out, by omega, by rw [List.length_append, List.map_append]; exact hown2, hb01.trans hb2⟩, hzs⟩

def U.rdN (cs : List Int) (r : List UInt8) : Int := if r = [] then -1 else ((U.encs cs).length : Nat)
theorem U.rdN_cons (cs : List Int) (a : UInt8) (r : List UInt8) : U.rdN cs (a :: r) = ((U.encs cs).length : Nat) := rfl
theorem U.firstK_next {l : List UInt8} : U.firstK l = ((U.next3 l).1, (U.next3 l).2.1) := by
  rcases h : U.nextK l with _ | ⟨c, n⟩
  · rw [U.first_none h, U.next3_none h]
  · rw [U.first_some h, U.next3_some h]

end Go.Proofs.YtgfkcbckddpbaaaDoor
