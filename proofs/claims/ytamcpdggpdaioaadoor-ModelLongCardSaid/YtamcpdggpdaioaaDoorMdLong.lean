/- The chain of mappings of the law ModelLong, in plain words. -/
import Derived.Test.YtamcpdggpdaioaaDoorMdTab
namespace Go.Proofs.YtamcpdggpdaioaaDoor
/-- A chain of n characters, each mapped to the next one and one more. -/
def Md.link (i : Nat) : Rw.Row := (16384 + (i : Int), 0, [16384 + (i : Int) + 1, 12288])
def Md.chain (n : Nat) : List Rw.Row := (List.range n).map Md.link
theorem Md.chain_len (n : Nat) : (Md.chain n).length = n := by simp [Md.chain]
theorem Md.chain_get {n i : Nat} (h : i < n) : (Md.chain n)[i]? = some (Md.link i) := by
  unfold Md.chain
  rw [List.getElem?_map, List.getElem?_range h]
  rfl
theorem Md.chain_mem {n : Nat} {r : Rw.Row} (h : r ∈ Md.chain n) : ∃ i, i < n ∧ r = Md.link i := by
  unfold Md.chain at h
  obtain ⟨i, hi, rfl⟩ := List.mem_map.1 h
  exact ⟨i, List.mem_range.1 hi, rfl⟩
theorem Md.chain_succ (n : Nat) : Md.chain (n + 1) = Md.chain n ++ [Md.link n] := by
  unfold Md.chain
  rw [List.range_succ, List.map_append]
  rfl
theorem Md.low_kind {c : Int} (h : c = 12288 ∨ (16384 ≤ c ∧ c ≤ 17000)) : Hg.ofK c = 0 ∧ C.isC c = true := by
  unfold Hg.ofK C.isC
  constructor
  · rw [if_neg (by omega), if_neg (by omega), if_neg (by omega), if_pos (by omega)]
  · exact decide_eq_true (by omega)
theorem Md.rowsBad_chain : ∀ (m s : Nat) (last : Int), last < 16384 + (s : Int) → s + m ≤ 100 → Md.rowsBad last ((List.range m).map fun i => Md.link (s + i)) = 0
  | 0, _, _, _, _ => rfl
  | m + 1, s, last, h, hm => by
    rw [List.range_succ_eq_map, List.map_cons, List.map_map, Md.rowsBad]
    have hb : Md.bad last (Md.link (s + 0)) = 0 := by
      have k1 := Md.low_kind (c := 16384 + ((s + 0 : Nat) : Int)) (.inr (by omega))
      have k2 := Md.low_kind (c := 16384 + ((s + 0 : Nat) : Int) + 1) (.inr (by omega))
      have k3 := Md.low_kind (c := 12288) (.inl rfl)
      have hl : decide ((16384 + ((s + 0 : Nat) : Int)) ≤ last) = false := decide_eq_false (by omega)
      unfold Md.bad Md.link
      simp only [List.any_cons, List.any_nil, k1.1, k1.2, k2.1, k2.2, k3.1, k3.2, hl]
      simp
    rw [if_pos hb]
    have := Md.rowsBad_chain m (s + 1) (Md.link (s + 0)).1 (by unfold Md.link; simp only; omega) (by omega)
    refine Eq.trans ?_ this
    refine congrArg (Md.rowsBad _) ?_
    refine List.map_congr_left fun i _ => ?_
    show Md.link (s + (i + 1)) = Md.link (s + 1 + i)
    rw [show s + (i + 1) = s + 1 + i by omega]
theorem Md.chain_right {n : Nat} (hn : n ≤ 60) : Md.rowsBad (-1) (Md.chain n) = 0 := by
  have := Md.rowsBad_chain n 0 (-1) (by omega) (by omega)
  refine Eq.trans ?_ this
  congr 1
  unfold Md.chain
  refine List.map_congr_left fun i _ => ?_
  rw [Nat.zero_add]
theorem Md.chain_mp {n k : Nat} (hn : n ≤ 60) (hk : k < n) : Md.mp (Md.chain n) (16384 + (k : Int)) = [16384 + ((k + 1 : Nat) : Int), 12288] := by
  obtain ⟨h1, h2⟩ := Md.rowsBad_zero _ _ (Md.chain_right hn)
  have hm : Md.link k ∈ Md.chain n := List.mem_of_getElem? (Md.chain_get hk)
  have := Md.mp_row h2 hm (h1 _ hm).1
  rw [show (16384 + (k : Int)) = (Md.link k).1 from rfl, this]
  show [16384 + (k : Int) + 1, 12288] = _
  rw [show (16384 + (k : Int) + 1) = 16384 + ((k + 1 : Nat) : Int) by omega]
theorem Md.chain_end {n : Nat} {c : Int} (h : c = 12288 ∨ (16384 + (n : Int) ≤ c ∧ c ≤ 17000)) : Md.mp (Md.chain n) c = [] := by
  unfold Md.mp Md.rmp
  rw [Md.pairK_zero (Md.low_kind (by omega)).1, if_neg (by simp), Md.find_none (fun r hr => by
    obtain ⟨i, hi, rfl⟩ := Md.chain_mem hr
    unfold Md.link
    simp only
    omega)]
  rfl
theorem Md.chain_lv {n : Nat} (hn : n ≤ 60) : ∀ (d m k : Nat), k + d = n → d ≤ m → Md.lv (Md.mp (Md.chain n)) m (16384 + (k : Int)) = some ((16384 + (n : Int)) :: List.replicate d 12288)
  | 0, m, k, hk, _ => by
    obtain rfl : k = n := by omega
    rw [Md.lv_plain _ m (Md.chain_end (.inr ⟨Int.le_refl _, by omega⟩))]
    rfl
  | d + 1, 0, k, hk, hm => by omega
  | d + 1, m + 1, k, hk, hm => by
    rw [Md.lv, Md.chain_mp hn (by omega), if_neg (by simp), Md.lvL, Md.chain_lv hn d m (k + 1) (by omega) (by omega), Option.bind_some, Md.lvL, Md.lv_plain _ m (Md.chain_end (.inl rfl))]
    show some _ = _
    congr 1
    rw [show d + 1 = d + 1 from rfl, List.replicate_succ']
    rfl
theorem Md.chain_full {n k : Nat} (hn : n ≤ 60) (hk : k ≤ n) : Md.full (Md.chain n) (16384 + (k : Int)) = if n - k + 1 ≤ 32 then some ((16384 + (n : Int)) :: List.replicate (n - k) 12288) else none := by
  unfold Md.full
  rw [Md.exp_lv _ _ _ _ (by simp), Md.chain_lv hn (n - k) _ k (by omega) (by rw [Md.chain_len]; omega), Option.bind_some]
  unfold Md.fit
  simp
theorem Md.chain_cls (n : Nat) (c : Int) : Md.cls (Md.chain n) c = 0 := by
  unfold Md.cls
  cases h : Md.find (Md.chain n) c with
  | none => rfl
  | some r =>
    obtain ⟨i, _, rfl⟩ := Md.chain_mem (Md.find_some h).1
    rfl
theorem Md.twice_chain (T : List Rw.Row) (X : Int → Bool) : ∀ (m s : Nat) (seen : List (List Int)), (∀ x ∈ seen, ∀ a b, x = [a, b] → a ≤ 16384 + (s : Int)) → Md.twice T X seen ((List.range m).map fun i => Md.link (s + i)) = false
  | 0, _, _, _ => rfl
  | m + 1, s, seen, h => by
    have e : ((List.range m).map Nat.succ).map (fun i => Md.link (s + i)) = (List.range m).map fun i => Md.link (s + 1 + i) := by
      rw [List.map_map]
      refine List.map_congr_left fun i _ => ?_
      show Md.link (s + (i + 1)) = Md.link (s + 1 + i)
      rw [show s + (i + 1) = s + 1 + i by omega]
    rw [List.range_succ_eq_map, List.map_cons, e, Md.twice]
    split
    · have hc : seen.contains (Md.link (s + 0)).2.2 = false := by
        rw [Bool.eq_false_iff]
        intro hc
        have := h _ (List.contains_iff_mem.1 hc) _ _ rfl
        omega
      rw [hc, Bool.false_or]
      refine Md.twice_chain T X m (s + 1) _ fun x hx a b hab => ?_
      rcases List.mem_append.1 hx with h1 | h1
      · have := h x h1 a b hab; omega
      · rw [List.mem_singleton] at h1
        subst h1
        injection hab with h2 _
        omega
    · exact Md.twice_chain T X m (s + 1) _ fun x hx a b hab => by have := h x hx a b hab; omega
theorem Md.chain_chk {n : Nat} (X : Int → Bool) (hn : n ≤ 60) : Md.chk (Md.chain n) X = if n + 1 ≤ 32 then 0 else 4 := by
  unfold Md.chk
  rw [Md.chain_right hn, if_neg (by simp)]
  have ht : Md.twice (Md.chain n) X [] (Md.chain n) = false := by
    have := Md.twice_chain (Md.chain n) X n 0 [] (fun x hx => absurd hx List.not_mem_nil)
    refine Eq.trans ?_ this
    congr 1
    unfold Md.chain
    refine List.map_congr_left fun i _ => ?_
    rw [Nat.zero_add]
  rw [ht]
  by_cases h : n + 1 ≤ 32
  · have hf : Md.fullBad (Md.chain n) = false := by
      unfold Md.fullBad
      rw [List.any_eq_false]
      intro r hr
      obtain ⟨i, hi, rfl⟩ := Md.chain_mem hr
      rw [show (Md.link i).1 = 16384 + (i : Int) from rfl, Md.chain_full hn (by omega), if_pos (by omega)]
      simp
    rw [hf, if_pos h]
    rfl
  · have hf : Md.fullBad (Md.chain n) = true := by
      unfold Md.fullBad
      rw [List.any_eq_true]
      refine ⟨Md.link 0, List.mem_of_getElem? (Md.chain_get (by omega)), ?_⟩
      rw [show (Md.link 0).1 = 16384 + ((0 : Nat) : Int) from rfl, Md.chain_full hn (by omega), if_neg (by omega)]
      rfl
    rw [hf, if_neg h, if_pos rfl]
end Go.Proofs.YtamcpdggpdaioaaDoor
