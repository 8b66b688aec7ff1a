/- The layer cpset: all characters of a set, in plain Lean. -/
import Derived.Test.YtamcpdggpdaioaaCpAll
import Derived.Test.YtamcpdggpdaioaaSoWalkB12
import Derived.Test.YtamcpdggpdaioaaCpIsPlain4
import Derived.Test.YtamcpdggpdaioaaCpPlainE
namespace Go.Proofs.Ytamcpdggpdaioaa
set_option linter.unusedSimpArgs false
set_option linter.unusedVariables false

theorem C.run_mem {a : Int} {n : Nat} {d : Int} : d ∈ C.run a n ↔ a ≤ d ∧ d < a + (n : Int) := by
  unfold C.run
  rw [List.mem_map]
  constructor
  · rintro ⟨i, hi, rfl⟩
    rw [List.mem_range] at hi
    omega
  · rintro ⟨h1, h2⟩
    exact ⟨(d - a).toNat, by rw [List.mem_range]; omega, by omega⟩
theorem C.run_get {a : Int} {n i : Nat} (h : i < n) : (C.run a n)[i]? = some (a + (i : Int)) := by
  unfold C.run
  simp [List.getElem?_range h]
theorem C.all1_cons (x y : Int) (t : List Int) : C.all1 (C.rngs (x :: y :: t)) = C.run x (y - x).toNat ++ C.all1 (C.rngs t) := by
  show C.run x (y - 1 - x + 1).toNat ++ C.all1 (C.rngs t) = _
  rw [show y - 1 - x + 1 = y - x by omega]
theorem C.all1_mem (rs : List (Int × Int)) (d : Int) : d ∈ C.all1 rs ↔ C.inR rs d = true := by
  unfold C.all1 C.inR
  rw [List.mem_flatMap, List.any_eq_true]
  constructor
  · rintro ⟨r, hr, hd⟩
    rw [C.run_mem] at hd
    exact ⟨r, hr, by simp; omega⟩
  · rintro ⟨r, hr, hd⟩
    simp at hd
    exact ⟨r, hr, by rw [C.run_mem]; omega⟩
theorem C.all1_count {S : List Int} (hok : C.ok S) : ((C.all1 (C.rngs S)).length : Int) = C.count S := by
  have h := C.all1_len S hok _ (Nat.le_refl _)
  rw [List.take_length, C.part_all] at h
  exact h
theorem C.all1_at : ∀ {S : List Int}, C.ok S → ∀ {i : Nat} {d : Int}, (C.all1 (C.rngs S))[i]? = some d → C.at S (i : Int) = (d, true)
  | [], _, i, d, h => by simp [C.rngs, C.all1] at h
  | [x], hok, i, d, h => by have := hok.2.2; simp at this
  | x :: y :: t, hok, i, d, h => by
    have hxy : x < y := C.srt_head hok.1 y (by simp)
    rw [C.all1_cons] at h
    rw [C.at_pos _ (by omega)]
    show (if (i : Int) < y - x then (x + (i : Int), true) else C.atK t ((i : Int) - (y - x))) = _
    by_cases hi : (i : Int) < y - x
    · rw [if_pos hi]
      rw [List.getElem?_append_left (by rw [C.run_len]; omega), C.run_get (by omega)] at h
      simp at h
      rw [h]
    · rw [if_neg hi]
      rw [List.getElem?_append_right (by rw [C.run_len]; omega), C.run_len] at h
      have h2 := C.all1_at (C.ok_tail hok) h
      rw [C.at_pos _ (by omega)] at h2
      rw [← h2]
      congr 1
      omega
/-- The set of all characters of a set of characters is that set. -/
theorem C.chars_again {S : List Int} (hok : C.ok S) (hC : ∀ d, C.mem S d = true → C.isC d = true) : C.chars (C.all1 (C.rngs S)) = S := by
  obtain ⟨h1, h2⟩ := C.chars_spec (C.all1 (C.rngs S))
  refine C.canon _ _ h1.1 hok.1 fun d => ?_
  rw [h2 d]
  have e : decide (d ∈ C.all1 (C.rngs S)) = C.mem S d := by
    rw [← C.rngs_mem S hok d, Bool.eq_iff_iff, decide_eq_true_iff]
    exact C.all1_mem _ d
  rw [e]
  cases hm : C.mem S d
  · rfl
  · rw [hC d hm]; rfl
theorem C.cnt_or (p q r : Int → Bool) (h : ∀ i, r i = true → p i = true ∨ q i = true) : ∀ n, C.cnt r n ≤ C.cnt p n + C.cnt q n
  | 0 => Nat.zero_le _
  | n + 1 => by
    have ih := C.cnt_or p q r h n
    rw [C.cnt_succ, C.cnt_succ, C.cnt_succ]
    have := h n
    cases hr : r n <;> cases hp : p n <;> cases hq : q n <;> simp_all <;> omega
theorem C.cnt_one (x : Int) : ∀ n, C.cnt (fun d => decide (d = x)) n ≤ 1 ∧ (x < n ∨ C.cnt (fun d => decide (d = x)) n = 0)
  | 0 => by refine ⟨Nat.zero_le _, .inr rfl⟩
  | n + 1 => by
    obtain ⟨h1, h2⟩ := C.cnt_one x n
    rw [C.cnt_succ]
    by_cases h : ((n : Int)) = x
    · rw [if_pos (by simpa using h)]
      omega
    · rw [if_neg (by simpa using h)]
      omega
theorem C.cnt_list (n : Nat) : ∀ l : List Int, C.cnt (fun d => decide (d ∈ l)) n ≤ l.length
  | [] => by
    have : C.cnt (fun d => decide (d ∈ ([] : List Int))) n = C.cnt (fun _ => false) n := C.cnt_congr (fun i _ => by simp)
    rw [this]
    have : ∀ n, C.cnt (fun _ => false) n = 0 := by intro n; induction n with
      | zero => rfl
      | succ n ih => rw [C.cnt_succ, ih]; rfl
    rw [this]; exact Nat.zero_le _
  | x :: t => by
    have h1 := C.cnt_or (fun d => decide (d = x)) (fun d => decide (d ∈ t)) (fun d => decide (d ∈ x :: t)) (fun i hi => by simpa using hi) n
    have h2 := C.cnt_list n t
    have h3 := (C.cnt_one x n).1
    rw [List.length_cons]
    omega
theorem C.chars_count (l : List Int) : C.count (C.chars l) ≤ l.length := by
  obtain ⟨h1, h2⟩ := C.chars_spec l
  rw [C.count_cnt h1]
  have h3 := C.cnt_list 1114112 l
  have h4 : C.cnt (C.mem (C.chars l)) 1114112 ≤ C.cnt (fun d => decide (d ∈ l)) 1114112 := by
    have h5 := C.cnt_or (fun d => decide (d ∈ l)) (fun _ => false) (C.mem (C.chars l)) (fun i hi => by rw [h2 i] at hi; simp at hi; exact .inl (by simpa using hi.1)) 1114112
    have : ∀ n, C.cnt (fun _ => false) n = 0 := by intro n; induction n with
      | zero => rfl
      | succ n ih => rw [C.cnt_succ, ih]; rfl
    rw [this] at h5
    omega
  omega
theorem C.chF_len : ∀ (cs acc : List Int), (C.chF cs acc).length ≤ acc.length + 2 * cs.length
  | [], acc => by simp [C.chF]
  | c :: t, acc => by
    have h : (C.step C.isC acc c (c + 1)).length ≤ acc.length + 2 := by
      unfold C.step
      split
      · split
        · rw [List.length_append, List.length_dropLast]; simp; omega
        · rw [List.length_append]; simp
      · omega
    have h2 := C.chF_len t (C.step C.isC acc c (c + 1))
    show (C.chF t (C.step C.isC acc c (c + 1))).length ≤ _
    rw [List.length_cons]
    omega
theorem C.chars_len (l : List Int) : (C.chars l).length ≤ 2 * l.length := by
  have h1 := C.chF_len (C.once l) []
  have h2 : (C.once l).length ≤ l.length := by
    unfold C.once Lib.compactUpTo
    rw [List.length_map]
    exact Nat.le_trans (List.length_filter_le _ _) (by simp)
  unfold C.chars
  simp at h1
  omega
/-- The ranges of one character each. -/
def C.pts (l : List Int) : List (Int × Int) := (l.filter fun c => decide (0 ≤ c ∧ c ≤ 1114111)).map fun c => (c, c)
theorem C.pts_take {l : List Int} {i : Nat} {c : Int} (h : l[i]? = some c) : C.pts (l.take (i + 1)) = if 0 ≤ c ∧ c ≤ 1114111 then C.pts (l.take i) ++ [(c, c)] else C.pts (l.take i) := by
  unfold C.pts
  rw [List.take_add_one, h, List.filter_append, List.map_append]
  split <;> rename_i hc
  · simp [hc]
  · simp [hc]
theorem C.pts_good (l : List Int) : C.good (C.pts l) = true := by
  unfold C.good C.pts
  rw [List.all_eq_true]
  intro r hr
  rw [List.mem_map] at hr
  obtain ⟨c, hc, rfl⟩ := hr
  rw [List.mem_filter] at hc
  simp at hc ⊢
  omega
theorem C.pts_len (l : List Int) : (C.pts l).length ≤ l.length := by
  unfold C.pts
  rw [List.length_map]
  exact List.length_filter_le _ _
theorem C.pts_inR (l : List Int) (d : Int) : (C.inR (C.pts l) d && C.isC d) = (decide (d ∈ l) && C.isC d) := by
  cases hc : C.isC d
  · simp
  · rw [Bool.and_true, Bool.and_true, Bool.eq_iff_iff, decide_eq_true_iff]
    have hb : 0 ≤ d ∧ d ≤ 1114111 := by simp [C.isC] at hc; omega
    unfold C.inR C.pts
    rw [List.any_eq_true]
    constructor
    · rintro ⟨r, hr, hd⟩
      rw [List.mem_map] at hr
      obtain ⟨c, hcf, rfl⟩ := hr
      rw [List.mem_filter] at hcf
      simp at hd
      obtain rfl : c = d := by omega
      exact hcf.1
    · intro hm
      refine ⟨(d, d), ?_, by simp⟩
      rw [List.mem_map]
      exact ⟨d, by rw [List.mem_filter]; exact ⟨hm, by simpa using hb⟩, rfl⟩
theorem C.pts_mem (l : List Int) (d : Int) : C.mem (C.chars l) d = (C.inR (C.pts l) d && C.isC d) := by
  rw [(C.chars_spec l).2 d, C.pts_inR]
end Go.Proofs.Ytamcpdggpdaioaa
