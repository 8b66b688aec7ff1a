/- The layer cpset: all characters of a set, by walking its text. -/
import Derived.Test.YtppmcnpjglackaaGreatDoorCpFind
import Derived.Test.YtppmcnpjglackaaGreatDoorCpChPlain2
import Derived.Test.YtppmcnpjglackaaGreatDoorCpCount
import Derived.Test.YtppmcnpjglackaaGreatDoorSlt
namespace Go.Proofs.YtppmcnpjglackaaGreatDoor
open Go.RowKit
set_option linter.unusedSimpArgs false
set_option linter.unusedVariables false

/-- n numbers, one behind the other. -/
def C.run (a : Int) (n : Nat) : List Int := (List.range n).map fun (i : Nat) => a + (i : Int)
theorem C.run_succ (a : Int) (n : Nat) : C.run a (n + 1) = C.run a n ++ [a + (n : Int)] := by
  unfold C.run; rw [List.range_succ, List.map_append]; rfl
theorem C.run_len (a : Int) (n : Nat) : (C.run a n).length = n := by simp [C.run]
/-- All of some ranges. -/
def C.all1 (rs : List (Int × Int)) : List Int := rs.flatMap fun r => C.run r.1 (r.2 - r.1 + 1).toNat
theorem C.all1_succ {rs : List (Int × Int)} {i : Nat} {r : Int × Int} (h : rs[i]? = some r) : C.all1 (rs.take (i + 1)) = C.all1 (rs.take i) ++ C.run r.1 (r.2 - r.1 + 1).toNat := by
  unfold C.all1
  rw [List.take_add_one, h, List.flatMap_append]
  simp
theorem C.all1_len (S : List Int) (hok : C.ok S) : ∀ i, i ≤ (C.rngs S).length → ((C.all1 ((C.rngs S).take i)).length : Int) = C.part S i
  | 0, _ => by simp [C.all1, C.part0]
  | i + 1, h => by
    obtain ⟨r, hr⟩ : ∃ r, (C.rngs S)[i]? = some r := ⟨_, List.getElem?_eq_getElem (by omega)⟩
    obtain ⟨b1, b2, b3, b4⟩ := C.rng_bd hok hr
    rw [C.all1_succ hr, C.part_step hok hr, List.length_append, C.run_len]
    have := C.all1_len S hok i (by omega)
    omega

theorem own_otype {w : World} {base : Nat} {e e' : TypeId} {size n g : Nat} {v : Value} {xs : List Value} {cs : Array Value} {fr : Nat × Nat} (h : w.ownsRow base e size v n xs) (hb : w.heap[g]? = some (.cells cs e' fr)) (he : e ≠ e') : some g ≠ v.ownBlock := by
  intro hv
  rcases h.2 with ⟨rfl, _⟩ | ⟨g2, cap, cur, rfl, _, hg2, _⟩
  · simp [Value.ownBlock] at hv
  · simp only [Value.ownBlock, Option.some.injEq] at hv
    subst hv
    rw [hb] at hg2
    simp only [Option.some.injEq, Obj.cells.injEq] at hg2
    exact he hg2.2.1.symm

theorem C.all1_bd {S : List Int} (hok : C.ok S) {i : Nat} (h : i ≤ (C.rngs S).length) : (C.all1 ((C.rngs S).take i)).length ≤ 1114112 := by
  have h1 := C.all1_len S hok i h
  have h2 := (C.part_bd hok i).2
  have h3 := (C.count_bd hok).2
  omega

def C.RetRunes (xs : List Int) (w : World) (e : Ending) (w' : World) : Prop :=
  ∃ A c, e = .returned (.slice A xs.length c) ∧ w'.ownsRow w.heap.size 21 1 (.slice A xs.length c) xs.length (xs.map (Value.int .i32)) ∧ Below w.heap.size w w'

set_option maxRecDepth 100000 in
set_option maxHeartbeats 1000000 in
theorem C.setchars_any (A : Option Addr) (c n B : Nat) (l : List Int) (w : World) (hn : l.length = n) (hn' : n ≤ 1000000) (hok : C.ok l) (hB : B ≤ w.heap.size) (hA : Sl w B A (l.map (Value.int .i32))) :
    Calls Tryz.prog 15 #[.agg #[.slice A n c]] w (C.RetRunes (C.all1 (C.rngs l)) w) := by
  have HR := Lib.hid (C.ranges_any A c n B l)
  have HN := Lib.hid hn
  have HOK := Lib.hid hok
  have HLEN := Lib.hid (fun i => C.all1_bd hok (i := i))
  have hrl := C.rngs_len l
  rw [hn] at hrl
  obtain ⟨rs, hrs⟩ : ∃ rs, C.rngs l = rs := ⟨_, rfl⟩
  have HRS := Lib.hid hrs
  rw [hrs] at HR hrl HLEN ⊢
  obtain ⟨m, hm⟩ : ∃ m, rs.length = m := ⟨_, rfl⟩
  rw [hm] at hrl HLEN
  have HM := Lib.hid hm
  have hm' : m ≤ 500000 := by omega
  obtain ⟨j0, hj0, hy0, hy1, hy2⟩ := info_parts infoRune
  clear hn hok hrl hrs hm
  go_enter Tryz.func15, Tryz.ntmps15
  go_wp2_with fail
  have hal : Below w.heap.size w (w.alloc (.cells #[.slice A n c] 42)) := (Below.refl _ _).alloc (Nat.le_refl _) _
  refine (HR.out _ HN.out hn' (by have := HOK.out.2.2; rw [HN.out] at this; exact this) HOK.out.2.1 (by simp; omega) (hA.belowN hal hB (Nat.le_refl _))).mono ?_
  rintro e w1 ⟨A5, c5, rfl, hown, hbel⟩
  have hS := Lib.hid (Sl.of_own hown)
  have hb1 := hal.trans (hbel.mono (by simp))
  rw [HM.out] at hown ⊢
  clear hown hA hbel hal
  go_wp2
  go_loopw [10, 3] (fun vi vo wr => ∃ (i : Nat) (acc : List Int), i ≤ m ∧ vi = .int .i64 i ∧ acc = C.all1 (rs.take i) ∧ wr.ownsRow w1.heap.size 21 1 vo acc.length (acc.map (Value.int .i32)) ∧ Below w1.heap.size w1 wr) (fun vi _ _ => m - (intOf vi).toNat)
  case atStart => exact ⟨0, [], by omega, rfl, rfl, World.ownsRow_nil _ _ _ _, Below.refl _ _⟩
  case round =>
    obtain ⟨i, acc, hi, rfl, hacc, hown, hbr⟩ := hrel
    obtain ⟨w2, rfl⟩ : ∃ w2 : World, w2 = wr := ⟨_, rfl⟩
    obtain ⟨q, hq⟩ : ∃ q, acc.length = q := ⟨_, rfl⟩
    rw [hq] at hown
    obtain ⟨A6, c6, rfl⟩ := own_form hown
    have HQ := Lib.hid hq
    have HACC := Lib.hid hacc
    have hs2 : w1.heap.size ≤ w2.heap.size := hbr.size
    by_cases hlt : (i : Int) < m
    · obtain ⟨⟨x, y⟩, hr⟩ : ∃ r, rs[i]? = some r := ⟨_, List.getElem?_eq_getElem (by rw [HM.out]; omega)⟩
      obtain ⟨b, o, rfl, hlb, hc0, hc1⟩ := hS.out.pair hr
      rw [← (bcell hbr).1 _ _ (by omega)] at hc0 hc1
      have hst := C.all1_succ hr
      have hr0 := hr
      rw [← HRS.out] at hr
      obtain ⟨r1, r2, r3, r4⟩ := C.rng_bd HOK.out hr
      have hlen := HLEN.out (i + 1) (by omega)
      rw [hst, List.length_append, C.run_len, ← hacc, hq] at hlen
      rw [← hacc] at hst
      simp only at r1 r2 r3 r4 hst hlen hc0 hc1
      obtain ⟨N, hN⟩ : ∃ N : Nat, (y - x + 1).toNat = N := ⟨_, rfl⟩
      rw [hN] at hst hlen
      have HST := Lib.hid hst
      have n0 : (0 : Int) ≤ (i : Int) := by omega
      have n1 : (i : Int) < m := by omega
      have hyN : y = x + (N : Int) - 1 := by omega
      subst hyN
      obtain ⟨W, hW⟩ : ∃ W, w2.alloc (.cells #[.int .i32 x, .int .i32 (x + (N : Int) - 1)] 73) = W := ⟨_, rfl⟩
      have hblk : W.heap[w2.heap.size]? = some (.cells #[.int .i32 x, .int .i32 (x + (N : Int) - 1)] 73) := by rw [← hW]; exact heap_alloc_new w2 _
      have hownW : W.ownsRow w1.heap.size 21 1 (.slice A6 q c6) q (acc.map (Value.int .i32)) := by rw [← hW]; exact hown.alloc _
      have hbrW : Below w1.heap.size w1 W := by rw [← hW]; exact hbr.alloc hs2 _
      have hzW : W.heap.size = w2.heap.size + 1 := by rw [← hW]; simp
      have HW := Lib.hid hW
      have HBLK := Lib.hid hblk
      clear hr hr0 hst hacc hq hW hblk hbr hown
      go_wp2
      rw [HW.out]
      go_loopw [3, 6] (fun vo2 vc wr2 => ∃ k : Nat, k ≤ N ∧ vc = .int .i32 (x + (k : Int)) ∧ wr2.ownsRow w1.heap.size 21 1 vo2 (q + k) ((acc ++ C.run x k).map (Value.int .i32)) ∧ wr2.heap[w2.heap.size]? = some (.cells #[.int .i32 x, .int .i32 (x + (N : Int) - 1)] 73) ∧ Below w1.heap.size w1 wr2 ∧ W.heap.size ≤ wr2.heap.size) (fun _ vc _ => (x + (N : Int) - intOf vc).toNat)
      case atStart =>
        refine ⟨0, by omega, by simp, ?_, HBLK.out, hbrW, Nat.le_refl _⟩
        simpa [C.run] using hownW
      case round =>
        obtain ⟨k, hk, rfl, hown3, hblk3, hb3, hz3⟩ := hrel
        obtain ⟨w3, rfl⟩ : ∃ w3 : World, w3 = wr := ⟨_, rfl⟩
        obtain ⟨A7, c7, rfl⟩ := own_form hown3
        obtain ⟨d0, _⟩ := blk_cell hblk3 0
        obtain ⟨d1, _⟩ := blk_cell hblk3 1
        simp only [List.getElem?_toArray, List.getElem?_cons_zero, List.getElem?_cons_succ] at d0 d1
        have hs3 : w1.heap.size ≤ w3.heap.size := hb3.size
        have hsr : w2.heap.size < w3.heap.size := by omega
        have b1 : 0 ≤ x + (k : Int) := by omega
        have b2 : x + (k : Int) ≤ 1114112 := by omega
        have HB3 := Lib.hid hblk3
        clear hblk3
        by_cases hlt3 : x + (k : Int) ≤ x + (N : Int) - 1
        · have hZ := Lib.hid (Sl.lit (w := w3.alloc (.cells #[.int .i32 (x + (k : Int))] 21)) (A := some ⟨w3.heap.size, 0, none⟩) (xs := [.int .i32 (x + (k : Int))]) rfl 21 (0, 0) (heap_alloc_new w3 _))
          have hba : Below w3.heap.size w3 (w3.alloc (.cells #[.int .i32 (x + (k : Int))] 21)) := (Below.refl _ _).alloc (Nat.le_refl _) _
          have hown4 := Lib.hid (own_below hown3 hba (Nat.le_refl _))
          have hs4 : w1.heap.size ≤ (w3.alloc (.cells #[.int .i32 (x + (k : Int))] 21)).heap.size := by simp; omega
          have HB4 := Lib.hid ((hba.block w2.heap.size hsr).trans HB3.out)
          have hb4 := hb3.alloc hs3 (.cells #[.int .i32 (x + (k : Int))] 21)
          have hz4 : w2.heap.size < (w3.alloc (.cells #[.int .i32 (x + (k : Int))] 21)).heap.size := by simp; omega
          have hne := own_otype hown4.out HB4.out (by decide)
          have HZ4 := Lib.hid (show w3.heap.size ≤ (w3.alloc (.cells #[.int .i32 (x + (k : Int))] 21)).heap.size by simp)
          clear hown3 hba hb3
          go_wp2_with (at_builtin; refine wpList_appendSl _ rfl _ _ _ rfl w1.heap.size 21 j0 _ 1 4 Tryz.underlying29 hj0 hy0 hy1 hy2 rfl (by omega) _ (q + k) _ rfl hown4.out _ (some ⟨w3.heap.size, 0, none⟩) 1 1 [.int .i32 (x + (k : Int))] rfl rfl hZ.out (by simp [Value.oneCell']) (by simp only [maxLen]; omega) (by omega) hs4 ?_; intro v1 w5 hown5 hb5 hgrow; obtain ⟨A8, c8, rfl⟩ := own_form hown5)
          refine ⟨⟨k + 1, by omega, by go_num, ?_, (hgrow.block _ hz4 hne).trans HB4.out, hb4.trans hb5, Nat.le_trans hz3 (Nat.le_trans HZ4.out hgrow.size)⟩, by simp [intOf]; omega⟩
          rw [C.run_succ, ← List.append_assoc, List.map_append, ← Nat.add_assoc]
          exact hown5
        · obtain rfl : k = N := by omega
          have hsz1 : w1.heap.size ≤ w3.heap.size := hs3
          go_wp2
          refine ⟨⟨i + 1, acc ++ C.run x k, by omega, by go_num, HST.out.symm, ?_, hb3⟩, by simp [intOf]; omega⟩
          rw [List.length_append, HQ.out, C.run_len]
          exact hown3
    · obtain rfl : i = m := by omega
      have e0 : acc = C.all1 rs := by rw [HACC.out, List.take_of_length_le (by rw [HM.out]; exact Nat.le_refl _)]
      have E0 := Lib.hid e0
      clear e0 hacc hq
      go_wp2
      go_ret
      refine ⟨A6, c6, (by rw [← E0.out, HQ.out]; rfl), ?_, hb1.trans (hbr.mono hb1.size)⟩
      rw [← E0.out, HQ.out]
      exact own_base hown hb1.size
end Go.Proofs.YtppmcnpjglackaaGreatDoor

/- The layer cpset: all characters of a set, in plain Lean. -/
namespace Go.Proofs.YtppmcnpjglackaaGreatDoor
set_option linter.unusedSimpArgs false
set_option linter.unusedVariables false

theorem C.run_mem {a : Int} {n : Nat} {d : Int} : d ∈ C.run a n ↔ a ≤ d ∧ d < a + (n : Int) := by
  unfold C.run
  rw [List.mem_map]
  constructor
  · rintro ⟨i, hi, rfl⟩
    rw [List.mem_range] at hi
    omega
  · rintro ⟨h1, h2⟩
    exact ⟨(d - a).toNat, by rw [List.mem_range]; omega, by omega⟩
theorem C.run_get {a : Int} {n i : Nat} (h : i < n) : (C.run a n)[i]? = some (a + (i : Int)) := by
  unfold C.run
  simp [List.getElem?_range h]
theorem C.all1_cons (x y : Int) (t : List Int) : C.all1 (C.rngs (x :: y :: t)) = C.run x (y - x).toNat ++ C.all1 (C.rngs t) := by
  show C.run x (y - 1 - x + 1).toNat ++ C.all1 (C.rngs t) = _
  rw [show y - 1 - x + 1 = y - x by omega]
theorem C.all1_mem (rs : List (Int × Int)) (d : Int) : d ∈ C.all1 rs ↔ C.inR rs d = true := by
  unfold C.all1 C.inR
  rw [List.mem_flatMap, List.any_eq_true]
  constructor
  · rintro ⟨r, hr, hd⟩
    rw [C.run_mem] at hd
    exact ⟨r, hr, by simp; omega⟩
  · rintro ⟨r, hr, hd⟩
    simp at hd
    exact ⟨r, hr, by rw [C.run_mem]; omega⟩
theorem C.all1_count {S : List Int} (hok : C.ok S) : ((C.all1 (C.rngs S)).length : Int) = C.count S := by
  have h := C.all1_len S hok _ (Nat.le_refl _)
  rw [List.take_length, C.part_all] at h
  exact h
theorem C.all1_at : ∀ {S : List Int}, C.ok S → ∀ {i : Nat} {d : Int}, (C.all1 (C.rngs S))[i]? = some d → C.at S (i : Int) = (d, true)
  | [], _, i, d, h => by simp [C.rngs, C.all1] at h
  | [x], hok, i, d, h => by have := hok.2.2; simp at this
  | x :: y :: t, hok, i, d, h => by
    have hxy : x < y := C.srt_head hok.1 y (by simp)
    rw [C.all1_cons] at h
    rw [C.at_pos _ (by omega)]
    show (if (i : Int) < y - x then (x + (i : Int), true) else C.atK t ((i : Int) - (y - x))) = _
    by_cases hi : (i : Int) < y - x
    · rw [if_pos hi]
      rw [List.getElem?_append_left (by rw [C.run_len]; omega), C.run_get (by omega)] at h
      simp at h
      rw [h]
    · rw [if_neg hi]
      rw [List.getElem?_append_right (by rw [C.run_len]; omega), C.run_len] at h
      have h2 := C.all1_at (C.ok_tail hok) h
      rw [C.at_pos _ (by omega)] at h2
      rw [← h2]
      congr 1
      omega
/-- The set of all characters of a set of characters is that set. -/
theorem C.chars_again {S : List Int} (hok : C.ok S) (hC : ∀ d, C.mem S d = true → C.isC d = true) : C.chars (C.all1 (C.rngs S)) = S := by
  obtain ⟨h1, h2⟩ := C.chars_spec (C.all1 (C.rngs S))
  refine C.canon _ _ h1.1 hok.1 fun d => ?_
  rw [h2 d]
  have e : decide (d ∈ C.all1 (C.rngs S)) = C.mem S d := by
    rw [← C.rngs_mem S hok d, Bool.eq_iff_iff, decide_eq_true_iff]
    exact C.all1_mem _ d
  rw [e]
  cases hm : C.mem S d
  · rfl
  · rw [hC d hm]; rfl
theorem C.cnt_or (p q r : Int → Bool) (h : ∀ i, r i = true → p i = true ∨ q i = true) : ∀ n, C.cnt r n ≤ C.cnt p n + C.cnt q n
  | 0 => Nat.zero_le _
  | n + 1 => by
    have ih := C.cnt_or p q r h n
    rw [C.cnt_succ, C.cnt_succ, C.cnt_succ]
    have := h n
    cases hr : r n <;> cases hp : p n <;> cases hq : q n <;> simp_all <;> omega
theorem C.cnt_one (x : Int) : ∀ n, C.cnt (fun d => decide (d = x)) n ≤ 1 ∧ (x < n ∨ C.cnt (fun d => decide (d = x)) n = 0)
  | 0 => by refine ⟨Nat.zero_le _, .inr rfl⟩
  | n + 1 => by
    obtain ⟨h1, h2⟩ := C.cnt_one x n
    rw [C.cnt_succ]
    by_cases h : ((n : Int)) = x
    · rw [if_pos (by simpa using h)]
      omega
    · rw [if_neg (by simpa using h)]
      omega
theorem C.cnt_list (n : Nat) : ∀ l : List Int, C.cnt (fun d => decide (d ∈ l)) n ≤ l.length
  | [] => by
    have : C.cnt (fun d => decide (d ∈ ([] : List Int))) n = C.cnt (fun _ => false) n := C.cnt_congr (fun i _ => by simp)
    rw [this]
    have : ∀ n, C.cnt (fun _ => false) n = 0 := by intro n; induction n with
      | zero => rfl
      | succ n ih => rw [C.cnt_succ, ih]; rfl
    rw [this]; exact Nat.zero_le _
  | x :: t => by
    have h1 := C.cnt_or (fun d => decide (d = x)) (fun d => decide (d ∈ t)) (fun d => decide (d ∈ x :: t)) (fun i hi => by simpa using hi) n
    have h2 := C.cnt_list n t
    have h3 := (C.cnt_one x n).1
    rw [List.length_cons]
    omega
theorem C.chars_count (l : List Int) : C.count (C.chars l) ≤ l.length := by
  obtain ⟨h1, h2⟩ := C.chars_spec l
  rw [C.count_cnt h1]
  have h3 := C.cnt_list 1114112 l
  have h4 : C.cnt (C.mem (C.chars l)) 1114112 ≤ C.cnt (fun d => decide (d ∈ l)) 1114112 := by
    have h5 := C.cnt_or (fun d => decide (d ∈ l)) (fun _ => false) (C.mem (C.chars l)) (fun i hi => by rw [h2 i] at hi; simp at hi; exact .inl (by simpa using hi.1)) 1114112
    have : ∀ n, C.cnt (fun _ => false) n = 0 := by intro n; induction n with
      | zero => rfl
      | succ n ih => rw [C.cnt_succ, ih]; rfl
    rw [this] at h5
    omega
  omega
theorem C.chF_len : ∀ (cs acc : List Int), (C.chF cs acc).length ≤ acc.length + 2 * cs.length
  | [], acc => by simp [C.chF]
  | c :: t, acc => by
    have h : (C.step C.isC acc c (c + 1)).length ≤ acc.length + 2 := by
      unfold C.step
      split
      · split
        · rw [List.length_append, List.length_dropLast]; simp; omega
        · rw [List.length_append]; simp
      · omega
    have h2 := C.chF_len t (C.step C.isC acc c (c + 1))
    show (C.chF t (C.step C.isC acc c (c + 1))).length ≤ _
    rw [List.length_cons]
    omega
theorem C.chars_len (l : List Int) : (C.chars l).length ≤ 2 * l.length := by
  have h1 := C.chF_len (C.once l) []
  have h2 : (C.once l).length ≤ l.length := by
    unfold C.once Lib.compactUpTo
    rw [List.length_map]
    exact Nat.le_trans (List.length_filter_le _ _) (by simp)
  unfold C.chars
  simp at h1
  omega
/-- The ranges of one character each. -/
def C.pts (l : List Int) : List (Int × Int) := (l.filter fun c => decide (0 ≤ c ∧ c ≤ 1114111)).map fun c => (c, c)
theorem C.pts_take {l : List Int} {i : Nat} {c : Int} (h : l[i]? = some c) : C.pts (l.take (i + 1)) = if 0 ≤ c ∧ c ≤ 1114111 then C.pts (l.take i) ++ [(c, c)] else C.pts (l.take i) := by
  unfold C.pts
  rw [List.take_add_one, h, List.filter_append, List.map_append]
  split <;> rename_i hc
  · simp [hc]
  · simp [hc]
theorem C.pts_good (l : List Int) : C.good (C.pts l) = true := by
  unfold C.good C.pts
  rw [List.all_eq_true]
  intro r hr
  rw [List.mem_map] at hr
  obtain ⟨c, hc, rfl⟩ := hr
  rw [List.mem_filter] at hc
  simp at hc ⊢
  omega
theorem C.pts_len (l : List Int) : (C.pts l).length ≤ l.length := by
  unfold C.pts
  rw [List.length_map]
  exact List.length_filter_le _ _
theorem C.pts_inR (l : List Int) (d : Int) : (C.inR (C.pts l) d && C.isC d) = (decide (d ∈ l) && C.isC d) := by
  cases hc : C.isC d
  · simp
  · rw [Bool.and_true, Bool.and_true, Bool.eq_iff_iff, decide_eq_true_iff]
    have hb : 0 ≤ d ∧ d ≤ 1114111 := by simp [C.isC] at hc; omega
    unfold C.inR C.pts
    rw [List.any_eq_true]
    constructor
    · rintro ⟨r, hr, hd⟩
      rw [List.mem_map] at hr
      obtain ⟨c, hcf, rfl⟩ := hr
      rw [List.mem_filter] at hcf
      simp at hd
      obtain rfl : c = d := by omega
      exact hcf.1
    · intro hm
      refine ⟨(d, d), ?_, by simp⟩
      rw [List.mem_map]
      exact ⟨d, by rw [List.mem_filter]; exact ⟨hm, by simpa using hb⟩, rfl⟩
theorem C.pts_mem (l : List Int) (d : Int) : C.mem (C.chars l) d = (C.inR (C.pts l) d && C.isC d) := by
  rw [(C.chars_spec l).2 d, C.pts_inR]
end Go.Proofs.YtppmcnpjglackaaGreatDoor

/- A set's characters rise. -/
namespace Go.Proofs.YtppmcnpjglackaaGreatDoor
set_option linter.unusedSimpArgs false
set_option linter.unusedVariables false

theorem CS.run_srt (a : Int) : ∀ n, C.srt (C.run a n)
  | 0 => List.Pairwise.nil
  | n + 1 => by
    rw [C.run_succ]
    unfold C.srt
    rw [List.pairwise_append]
    refine ⟨CS.run_srt a n, List.pairwise_singleton _ _, fun x hx y hy => ?_⟩
    rw [C.run_mem] at hx
    simp at hy
    omega
theorem CS.mem_ge {l : List Int} {z : Int} (h : C.mem l z = true) : ∃ y ∈ l, y ≤ z := by
  rcases Classical.em (∃ y ∈ l, y ≤ z) with h' | h'
  · exact h'
  · have : C.mem l z = false := C.mem_low fun y hy => by
      rcases Int.lt_or_le z y with h | h
      · exact h
      · exact absurd ⟨y, hy, h⟩ h'
    rw [this] at h; cases h
theorem CS.all1_srt : ∀ {S : List Int}, C.ok S → C.srt (C.all1 (C.rngs S))
  | [], _ => List.Pairwise.nil
  | [x], h => by have := h.2.2; simp at this
  | x :: y :: t, h => by
    have ht := C.ok_tail h
    rw [C.all1_cons]
    unfold C.srt
    rw [List.pairwise_append]
    refine ⟨CS.run_srt _ _, CS.all1_srt ht, fun u hu v hv => ?_⟩
    rw [C.run_mem] at hu
    rw [C.all1_mem, C.rngs_mem t ht] at hv
    obtain ⟨z, hz, hzv⟩ := CS.mem_ge hv
    have hxy : x < y := C.srt_head h.1 y (by simp)
    have h2 : y < z := C.srt_head (C.srt_tail h.1) z hz
    omega
theorem CS.all1_is {S : List Int} (hok : C.ok S) {c : Int} (h : c ∈ C.all1 (C.rngs S)) : C.mem S c = true := by
  rw [C.all1_mem, C.rngs_mem S hok] at h
  exact h
theorem CS.nodup {S : List Int} (hok : C.ok S) : (C.all1 (C.rngs S)).Nodup := (CS.all1_srt hok).imp fun h => Int.ne_of_lt h
end Go.Proofs.YtppmcnpjglackaaGreatDoor
