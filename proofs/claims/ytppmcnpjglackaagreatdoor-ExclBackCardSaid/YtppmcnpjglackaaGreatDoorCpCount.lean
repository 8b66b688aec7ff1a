/- The layer cpset: Ranges, by walking its text. -/
import Derived.Test.YtppmcnpjglackaaGreatDoorCpOps
import Derived.Deep.RegionHeld3
import Derived.Deep.AppendLies
import Derived.Test.YtppmcnpjglackaaGreatDoorCpPlainD
namespace Go.Proofs.YtppmcnpjglackaaGreatDoor
open Go.RowKit
set_option linter.unusedSimpArgs false
set_option linter.unusedVariables false

theorem infoRange : (Tryz.prog.info? 73).map (fun i => (i.zero, i.size, i.bytes)) = some (some (.agg #[.int .i32 0, .int .i32 0]), 2, 8) := by kernel_rfl

/-- Pairs, cell by cell. -/
def C.fl (k : IntKind) : List (Int × Int) → List Value
  | [] => []
  | (x, y) :: t => .int k x :: .int k y :: C.fl k t
theorem C.fl_len (k : IntKind) : ∀ rs, (C.fl k rs).length = 2 * rs.length
  | [] => rfl
  | (x, y) :: t => by show (C.fl k t).length + 1 + 1 = 2 * (t.length + 1); rw [C.fl_len k t]; omega
theorem C.fl_app (k : IntKind) : ∀ a b, C.fl k (a ++ b) = C.fl k a ++ C.fl k b
  | [], b => rfl
  | (x, y) :: t, b => by show _ :: _ :: C.fl k (t ++ b) = _; rw [C.fl_app k t b]; rfl
theorem C.fl_get (k : IntKind) : ∀ (rs : List (Int × Int)) (i : Nat) (r : Int × Int), rs[i]? = some r → (C.fl k rs)[2 * i]? = some (.int k r.1) ∧ (C.fl k rs)[2 * i + 1]? = some (.int k r.2)
  | [], i, r, h => by simp at h
  | (x, y) :: t, 0, r, h => by simp at h; subst h; exact ⟨rfl, rfl⟩
  | (x, y) :: t, i + 1, r, h => by
    have := C.fl_get k t i r (by simpa using h)
    rw [show 2 * (i + 1) = 2 * i + 1 + 1 by omega]
    exact this

theorem own_ne {w : World} {base : Nat} {e : TypeId} {size n : Nat} {v : Value} {xs : List Value} (h : w.ownsRow base e size v n xs) (g : Nat) (hg : g < base) : v.ownBlock ≠ some g := fun hk => by have := (h.lt _ hk).1; omega

def RetRngs (rs : List (Int × Int)) (w : World) (e : Ending) (w' : World) : Prop :=
  ∃ A c, e = .returned (.slice A rs.length c) ∧ w'.ownsRow w.heap.size 73 2 (.slice A rs.length c) rs.length (C.fl .i32 rs) ∧ Below w.heap.size w w'

set_option maxRecDepth 100000 in
set_option maxHeartbeats 1000000 in
theorem C.ranges_any (A : Option Addr) (c n B : Nat) (l : List Int) (w : World) (hn : l.length = n) (hn' : n ≤ 1000000) (hev : n % 2 = 0) (hbd : ∀ x ∈ l, 0 ≤ x ∧ x ≤ 1114112) (hB : B ≤ w.heap.size) (hA : Sl w B A (l.map (Value.int .i32))) :
    Calls Tryz.prog 35 #[.agg #[.slice A n c]] w (RetRngs (C.rngs l) w) := by
  have HN := Lib.hid hn
  have HBD := Lib.hid hbd
  have HL := Lib.hid (C.rngs_len l)
  clear hn hbd
  obtain ⟨j0, hj0, hy0, hy1, hy2⟩ := info_parts infoRange
  go_enter Tryz.func35, Tryz.ntmps35
  go_wp2
  go_loopw [4, 3] (fun vi v wr => ∃ j k : Nat, k ≤ 2 * j ∧ 2 * j ≤ k ∧ k ≤ n ∧ vi = .int .i64 (k : Int) ∧ wr.ownsRow (w.heap.size + 1) 73 2 v j (C.fl .i32 ((C.rngs l).take j)) ∧ Below (w.heap.size + 1) (w.alloc (.cells #[.slice A n c] 42)) wr) (fun vi _ _ => n - (intOf vi).toNat)
  case atStart => exact ⟨0, 0, by omega, by omega, by omega, rfl, World.ownsRow_nil _ _ _ _, Below.refl _ _⟩
  case round =>
    obtain ⟨j, k, hk1, hk2, hj, rfl, hown, hbel⟩ := hrel
    have hsz : w.heap.size + 1 ≤ wr.heap.size := by have := hbel.size; simpa using this
    obtain ⟨hblk, hbw⟩ := ret_blk hbel
    obtain ⟨hrc, hrf⟩ := blk_cell hblk 0
    simp only [List.getElem?_toArray, List.getElem?_cons_zero] at hrc
    clear hblk
    by_cases hlt : k < n
    · obtain ⟨x, hx⟩ : ∃ x, l[k]? = some x := ⟨_, List.getElem?_eq_getElem (by rw [HN.out]; omega)⟩
      obtain ⟨y, hy⟩ : ∃ y, l[k + 1]? = some y := ⟨_, List.getElem?_eq_getElem (by rw [HN.out]; omega)⟩
      have hbx := HBD.out x (List.mem_of_getElem? hx)
      have hby := HBD.out y (List.mem_of_getElem? hy)
      obtain ⟨hb1, hb2⟩ := hbx
      obtain ⟨hb3, hb4⟩ := hby
      obtain ⟨b, o, rfl, hlb, hc0, hcj⟩ := hA.ints hx
      have hc1 := hcj _ _ hy
      rw [← (bcell hbw).1 _ _ (by omega)] at hc0 hc1
      have hne1 := own_ne hown w.heap.size (by omega)
      have hne2 := own_ne hown b (by omega)
      clear hcj hA
      have hg : (C.rngs l)[j]? = some (x, y - 1) := by
        obtain rfl : k = 2 * j := by omega
        rw [C.rngs_get l j (by rw [HN.out]; omega)]
        rw [List.getElem?_eq_getElem (by rw [HN.out]; omega)] at hx hy
        simp only [Option.some.injEq] at hx hy
        rw [hx, hy]
      have HG := Lib.hid hg
      have g1 : (k : Int) < n := by omega
      clear hg hx hy
      go_wp2
      have hnew := Lib.hid (Sl.lit (w := (wr.alloc (.cells #[.int .i32 x, .int .i32 (y - 1)] 73)).drew) (A := some ⟨wr.heap.size, 0, none⟩) (xs := [.int .i32 x, .int .i32 (y - 1)]) rfl 73 (0, 0) (heap_alloc_new wr _))
      have hown' := (hown.alloc (.cells #[.int .i32 x, .int .i32 (y - 1)] 73)).drew
      have hbS : Below (w.heap.size + 1) (w.alloc (.cells #[.slice (some ⟨b, o, none⟩) n c] 42)) ((wr.alloc (.cells #[.int .i32 x, .int .i32 (y - 1)] 73)).drew) := (hbel.alloc hsz _).drew
      have HBS := Lib.hid hbS
      clear hbS
      have q1 : (0 : Int) ≤ (k : Int) + 1 := by omega
      have q2 : (k : Int) + 1 < n := by omega
      have q3 : ((k : Int) + 1).toNat = k + 1 := by omega
      have q4 : (0 : Int) ≤ (k : Int) := by omega
      have hs3 : w.heap.size + 1 ≤ ((wr.alloc (.cells #[.int .i32 x, .int .i32 (y - 1)] 73)).drew).heap.size := by have := HBS.out.size; simpa using this
      have ew1 : IntKind.i64.wrap ((k : Int) + 1) = (k : Int) + 1 := by rw [IntKind.wrap_i64]; omega
      have ew2 : IntKind.i32.wrap (y - 1) = y - 1 := by rw [IntKind.wrap_i32]; omega
      go_region_held3 (fun w' => w'.cell? ⟨w.heap.size, 0, none⟩ = some (.slice (some ⟨b, o, none⟩) n c) ∧ w'.cell? ⟨b, o + k, none⟩ = some (.int .i32 x) ∧ w'.cell? ⟨b, o + (k + 1), none⟩ = some (.int .i32 y)) (first
      | go_keep
      | (go_split_ands
         refine ⟨?_, ?_, ?_⟩
         · (rw [hgrow.cell_far _ (by simp; omega) (Ne.symm hne1)]; assumption)
         · (rw [hgrow.cell_far _ (by simp; omega) (Ne.symm hne2)]; assumption)
         · (rw [hgrow.cell_far _ (by simp; omega) (Ne.symm hne2)]; assumption)))
        ((refine step_appendSl _ (by rfl) _ _ _ (by rfl) (w.heap.size + 1) 73 j0 _ 2 8 Tryz.underlying70 hj0 hy0 hy1 hy2 rfl (by omega) _ j _ (by rfl) hown' _ (some ⟨wr.heap.size, 0, none⟩) 1 1 [.int .i32 x, .int .i32 (y - 1)] (by rfl) (by rfl) hnew.out (by simp [Value.oneCell']) (by simp only [maxLen]; omega) (by omega) hs3 ?_; intro v1 w2 hown2 hb2 hgrow))
      clear q1 q2 q3 q4 ew1 ew2 hs3
      go_wp2
      refine ⟨⟨j + 1, k + 2, by omega, by omega, by omega, by go_num, ?_, HBS.out.trans hb2⟩, by simp [intOf]; omega⟩
      rw [List.take_add_one, HG.out, C.fl_app]
      exact hown2
    · obtain rfl : k = n := by omega
      have g1 : ¬ (k : Int) < k := by omega
      have e0 : (C.rngs l).take j = C.rngs l := List.take_of_length_le (by rw [HL.out, HN.out]; omega)
      have e1 : j = (C.rngs l).length := by rw [HL.out, HN.out]; omega
      rw [e0] at hown
      have E1 := Lib.hid e1
      clear e0 e1
      obtain ⟨A5, c5, rfl⟩ := own_form hown
      go_wp2
      go_ret
      refine ⟨A5, c5, congrArg (fun q => Ending.returned (.slice A5 q c5)) E1.out, ?_, hbw⟩
      rw [← E1.out]
      exact own_base hown (by omega)
end Go.Proofs.YtppmcnpjglackaaGreatDoor

/- The layer cpset: Count, Index, At, by walking their texts. -/
namespace Go.Proofs.YtppmcnpjglackaaGreatDoor
open Go.RowKit
set_option linter.unusedSimpArgs false
set_option linter.unusedVariables false

/-- Element i of a row of pairs. -/
theorem Sl.pair {w : World} {B : Nat} {A : Option Addr} {k : IntKind} {rs : List (Int × Int)} (h : Sl w B A (C.fl k rs)) {i : Nat} {r : Int × Int} (hr : rs[i]? = some r) :
    ∃ b o, A = some ⟨b, o, none⟩ ∧ b < B ∧ w.cell? ⟨b, o + i * 2, none⟩ = some (.int k r.1) ∧ w.cell? ⟨b, o + i * 2 + 1, none⟩ = some (.int k r.2) := by
  have hi : i < rs.length := (List.getElem?_eq_some_iff.1 hr).1
  obtain ⟨b, o, hA, hb, hc⟩ := h (by rw [C.fl_len]; omega)
  obtain ⟨h0, h1⟩ := C.fl_get k rs i r hr
  refine ⟨b, o, hA, hb, ?_, ?_⟩
  · rw [Nat.mul_comm, hc _ (by rw [C.fl_len]; omega), h0]
  · rw [Nat.mul_comm, Nat.add_assoc, hc _ (by rw [C.fl_len]; omega), h1]

set_option maxRecDepth 100000 in
set_option maxHeartbeats 1000000 in
theorem C.count_any (A : Option Addr) (c n B : Nat) (l : List Int) (w : World) (hn : l.length = n) (hn' : n ≤ 1000000) (hok : C.ok l) (hB : B ≤ w.heap.size) (hA : Sl w B A (l.map (Value.int .i32))) :
    Calls Tryz.prog 29 #[.agg #[.slice A n c]] w (fun e w' => e = .returned (.int .i64 (C.count l)) ∧ Below w.heap.size w w') := by
  have HR := Lib.hid (C.ranges_any A c n B l)
  have HN := Lib.hid hn
  have HOK := Lib.hid hok
  obtain ⟨cb1, cb2⟩ := C.count_bd hok
  have hpa := C.part_all l
  have hrl := C.rngs_len l
  rw [hn] at hrl
  obtain ⟨rs, hrs⟩ : ∃ rs, C.rngs l = rs := ⟨_, rfl⟩
  have HRS := Lib.hid hrs
  rw [hrs] at HR hpa hrl
  obtain ⟨m, hm⟩ : ∃ m, rs.length = m := ⟨_, rfl⟩
  rw [hm] at hpa hrl
  have HM := Lib.hid hm
  have HPA := Lib.hid hpa
  have hm' : m ≤ 500000 := by omega
  clear hn hok hpa hrl hrs hm
  go_enter Tryz.func29, Tryz.ntmps29
  go_wp2_with fail
  have hal : Below w.heap.size w (w.alloc (.cells #[.slice A n c] 42)) := (Below.refl _ _).alloc (Nat.le_refl _) _
  refine (HR.out _ HN.out hn' (by have := HOK.out.2.2; rw [HN.out] at this; exact this) HOK.out.2.1 (by simp; omega) (hA.belowN hal hB (Nat.le_refl _))).mono ?_
  rintro e w1 ⟨A5, c5, rfl, hown, hbel⟩
  have hS := Lib.hid (Sl.of_own hown)
  have hb1 := hal.trans (hbel.mono (by simp))
  rw [HM.out] at hown ⊢
  go_wp2
  go_loopw [9, 3] (fun vi v wr => ∃ i : Nat, i ≤ m ∧ vi = .int .i64 i ∧ v = .int .i64 (C.part l i) ∧ Below w1.heap.size w1 wr) (fun vi _ _ => m - (intOf vi).toNat)
  case atStart => exact ⟨0, by omega, rfl, by rw [C.part0], Below.refl _ _⟩
  case round =>
    obtain ⟨i, hi, rfl, rfl, hbr⟩ := hrel
    by_cases hlt : (i : Int) < m
    · obtain ⟨r, hr⟩ : ∃ r, rs[i]? = some r := ⟨_, List.getElem?_eq_getElem (by rw [HM.out]; omega)⟩
      obtain ⟨b, o, rfl, hlb, hc0, hc1⟩ := hS.out.pair hr
      rw [← (bcell hbr).1 _ _ (by omega)] at hc0 hc1
      have hr0 := hr
      rw [← HRS.out] at hr
      obtain ⟨r1, r2, r3, r4⟩ := C.rng_bd HOK.out hr
      have hp := Lib.hid (C.part_step HOK.out hr)
      obtain ⟨p1, p2⟩ := C.part_bd HOK.out i
      obtain ⟨p3, p4⟩ := C.part_bd HOK.out (i + 1)
      rw [hp.out] at p3 p4
      have hn0 : (0 : Int) ≤ (i : Int) := by omega
      clear hr hr0
      have hsr : w1.heap.size ≤ wr.heap.size := hbr.size
      go_wp2
      refine ⟨⟨i + 1, by omega, by go_num, ?_, ?_⟩, by simp [intOf]; omega⟩
      · rw [hp.out]
      · exact hbr.alloc hsr _
    · obtain rfl : i = m := by omega
      go_wp2
      go_ret
      exact ⟨ret_int HPA.out, hb1.trans (hbr.mono (by have := hb1.size; omega))⟩
end Go.Proofs.YtppmcnpjglackaaGreatDoor
