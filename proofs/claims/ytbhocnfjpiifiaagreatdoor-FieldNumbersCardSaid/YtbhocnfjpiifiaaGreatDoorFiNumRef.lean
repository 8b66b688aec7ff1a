/- The document's answers for the layer field: Digits, Num, Hex, by walking their texts. -/
import Derived.Test.YtbhocnfjpiifiaaGreatDoorFiNumPlain
import Derived.Test.YtbhocnfjpiifiaaGreatDoorFiRef
namespace Go.Proofs.YtbhocnfjpiifiaaGreatDoor
open Go.RowKit Go.Stop
set_option linter.unusedSimpArgs false
set_option linter.unusedVariables false

theorem Fi.dec_step {u x : Nat} {s : List UInt8} (hx : 0 < x) (h : Lib.decDigits u = Lib.decDigits x ++ s) :
    Lib.decDigits u = (if x / 10 = 0 then [] else Lib.decDigits (x / 10)) ++ (UInt8.ofNat (48 + x % 10) :: s) := by
  rw [h, Lib.decDigits]
  by_cases hx10 : x < 10
  · rw [dif_pos hx10, if_pos (by omega), Nat.mod_eq_of_lt hx10]; rfl
  · rw [dif_neg hx10, if_neg (by omega), List.append_assoc]; rfl

set_option maxRecDepth 100000 in
set_option maxHeartbeats 4000000 in
theorem Fi.digits_any (u : Nat) (w : World) (hu : u < 9223372036854775808) :
    Calls Tryz.prog 18 #[.int .i64 u] w fun e w' => e = .returned (.string ⟨(Lib.decDigits u).toArray⟩) ∧ Below w.heap.size w w' := by
  go_enter Tryz.func18, Tryz.ntmps18
  go_wp2
  go_loopw [0, 3, 4] (fun vx vs vi wr => ∃ (i x : Nat) (s : List UInt8), vx = .int .i64 x ∧ vs = .string ⟨s.toArray⟩ ∧ vi = .int .i64 i ∧ i ≤ 64 ∧ s.length = i ∧ x < 2 ^ (63 - i) ∧ ((i = 0 ∧ x = u ∧ s = []) ∨ (0 < i ∧ Lib.decDigits u = (if x = 0 then [] else Lib.decDigits x) ++ s)) ∧ Below w.heap.size w wr) (fun _ _ vi _ => 65 - (intOf vi).toNat)
  case atStart => exact ⟨0, u, [], rfl, rfl, rfl, by omega, rfl, by simpa using hu, .inl ⟨rfl, rfl, rfl⟩, Below.refl _ _⟩
  case round =>
    obtain ⟨i, x, s, rfl, rfl, rfl, hi, hsl, hx, hor, hbr⟩ := hrel
    obtain ⟨w1, rfl⟩ : ∃ w1 : World, w1 = wr := ⟨_, rfl⟩
    have hs1 := hbr.size
    have HBR := Lib.hid hbr
    have hC := Fi.conv1 w1 (48 + (x : Int) % 10)
    rw [show (48 + (x : Int) % 10).toNat = 48 + x % 10 by omega] at hC
    have HSL := Lib.hid hsl
    have hcat : ¬ 9223372036854775807 < 1 + s.length := by omega
    have HBA := Lib.hid (hbr.alloc hs1 (.cells #[.int .u8 (48 + (x : Int) % 10)] 5))
    clear hsl
    have hx64 : x < 9223372036854775808 := by
      have : 2 ^ (63 - i) ≤ 2 ^ 63 := Nat.pow_le_pow_right (by decide) (by omega)
      have e : (2 : Nat) ^ 63 = 9223372036854775808 := by decide
      omega
    by_cases hgo : i = 0 ∨ 0 < x
    · have hst : Lib.decDigits u = (if x / 10 = 0 then [] else Lib.decDigits (x / 10)) ++ (UInt8.ofNat (48 + x % 10) :: s) := by
        rcases hor with ⟨rfl, rfl, rfl⟩ | ⟨h0, h⟩
        · rcases Nat.eq_zero_or_pos x with rfl | hp
          · rw [Lib.decDigits]; rfl
          · exact Fi.dec_step hp (by simp)
        · have hp : 0 < x := by omega
          rw [if_neg (by omega)] at h
          exact Fi.dec_step hp h
      have hi64 : i < 63 := by
        rcases hgo with rfl | hp
        · omega
        · rcases Nat.lt_or_ge i 63 with h | h
          · exact h
          · have : 63 - i = 0 := by omega
            rw [this] at hx; omega
      have hx2 : x / 10 < 2 ^ (63 - (i + 1)) := by
        have e : 63 - i = (63 - (i + 1)) + 1 := by omega
        rw [e, Nat.pow_succ] at hx
        omega
      have HST := Lib.hid hst
      have HX2 := Lib.hid hx2
      clear hst hx2 hx hor hbr
      obtain ⟨dg, hdg⟩ : ∃ dg, UInt8.ofNat (48 + x % 10) = dg := ⟨_, rfl⟩
      rw [hdg] at hC HST
      have HAPP := Lib.hid (Fi.ba_app [dg] s)
      clear hdg
      rcases Nat.eq_zero_or_pos i with hi0 | hp
      · have HI := Lib.hid hi0
        subst hi0
        go_wp2
        refine ⟨⟨1, x / 10, dg :: s, by go_num, by first | exact congrArg Value.string HAPP.out | (congr 1; exact HAPP.out), rfl, by omega, by rw [List.length_cons, HSL.out], HX2.out, .inr ⟨by omega, HST.out⟩, HBA.out⟩, by simp [intOf]⟩
      · have hne : ¬ (i : Int) = 0 := by omega
        have hx0 : 0 < x := by omega
        have hxp : (x : Int) > 0 := by omega
        go_wp2
        refine ⟨⟨i + 1, x / 10, dg :: s, by go_num, by first | exact congrArg Value.string HAPP.out | (congr 1; exact HAPP.out), by go_num, by omega, by rw [List.length_cons, HSL.out], HX2.out, .inr ⟨by omega, HST.out⟩, HBA.out⟩, by simp [intOf]; omega⟩
    · have hx0 : x = 0 := by omega
      have hi0 : 0 < i := by omega
      subst hx0
      have hf : Lib.decDigits u = s := by
        rcases hor with ⟨h, _⟩ | ⟨_, h⟩
        · omega
        · simpa using h
      have HF := Lib.hid hf
      have hne : ¬ (i : Int) = 0 := by omega
      clear hor hf hx hgo hC
      go_wp2
      go_ret
      exact ⟨by rw [HF.out]; rfl, hbr⟩

/-- A number; -1: it is none. -/
theorem Fi.numV_bd (l : List UInt8) (h : l.all Fi.isD = true) : 0 ≤ Fi.numV l ∧ Fi.numV l < ((10 ^ l.length : Nat) : Int) := by
  have key : ∀ (n : Nat) (l : List UInt8), l.length = n → l.all Fi.isD = true → 0 ≤ Fi.numV l ∧ Fi.numV l < ((10 ^ l.length : Nat) : Int) := by
    intro n
    induction n with
    | zero =>
      intro l hl _
      obtain rfl : l = [] := List.length_eq_zero_iff.1 hl
      simp [Fi.numV]
    | succ n ih =>
      intro l hl h
      rcases List.eq_nil_or_concat l with rfl | ⟨m, b, hmb⟩
      · simp at hl
      rw [List.concat_eq_append] at hmb
      subst hmb
      rw [List.length_append, List.length_singleton] at hl
      rw [List.all_append, Bool.and_eq_true] at h
      obtain ⟨i0, i1⟩ := ih m (by omega) h.1
      have hb : Fi.isD b = true := by simpa using h.2
      unfold Fi.isD at hb
      rw [Bool.and_eq_true, decide_eq_true_eq, decide_eq_true_eq] at hb
      rw [Fi.numV_snoc, List.length_append, List.length_singleton, Nat.pow_succ, Int.natCast_mul]
      omega
  exact key _ l rfl h

set_option maxRecDepth 100000 in
set_option maxHeartbeats 4000000 in
theorem Fi.rnum_any (s : ByteArray) (most : Int) (hm : most ≤ 1000000000) (w : World) :
    Calls Tryz.prog 9 #[.string s, .int .i64 most] w fun e w' => e = .returned (.int .i64 ((Fi.num s.data.toList most).getD (-1))) ∧ Below w.heap.size w w' := by
  have hnd : ∀ {l : List UInt8}, l.all Fi.isD = false → Fi.num l most = none := fun {l} h => Fi.num_none_of fun u _ he => by
    rw [he] at h
    have := List.all_eq_true.2 (Fi.dec_digits u)
    rw [this] at h
    cases h
  by_cases h0 : s = ⟨#[]⟩
  · have hN : Fi.num s.data.toList most = none := Fi.num_none_of fun u _ he => Fi.dec_ne u (by rw [← he, h0])
    have he : s.toList.isEmpty = true := by rw [h0, ByteArray.toList_eq]; rfl
    have HN := Lib.hid hN
    clear hN hnd
    go_enter Tryz.func9, Tryz.ntmps9
    go_wp2_with fail
    go_ret
    exact ⟨by rw [HN.out]; rfl, Below.refl _ _⟩
  have he : s.toList.isEmpty = false := by
    rw [ByteArray.toList_eq s]
    rcases s with ⟨⟨l⟩⟩
    rcases l with _ | ⟨x, t⟩
    · exact absurd rfl h0
    · rfl
  rcases Nat.lt_or_ge 10 s.size with hbig | hle
  · have hN : Fi.num s.data.toList most = none := Fi.num_none_of fun u hu hq => by
      have h1 := Fi.dec_len 9 u (by rw [show (10 : Nat) ^ (9 + 1) = 10000000000 from by decide]; omega)
      rw [← hq] at h1
      have h2 : s.data.toList.length = s.size := by simp
      omega
    have hb' : (s.size : Int) > 10 := by omega
    have HN := Lib.hid hN
    clear hN hnd h0
    go_enter Tryz.func9, Tryz.ntmps9
    go_wp2_with fail
    go_ret
    exact ⟨by rw [HN.out]; rfl, Below.refl _ _⟩
  have hle' : ¬ (s.size : Int) > 10 := by omega
  go_enter Tryz.func9, Tryz.ntmps9
  go_wp2_with fail
  go_loop [5, 6] (fun vn vi => ∃ i : Nat, i ≤ s.size ∧ vi = .int .i64 i ∧ vn = .int .i64 (Fi.numV (s.data.toList.take i)) ∧ (s.data.toList.take i).all Fi.isD = true) (fun _ vi => s.size - (intOf vi).toNat)
  case atStart => exact ⟨0, by omega, rfl, rfl, rfl⟩
  case round =>
    obtain ⟨i, hi, rfl, rfl, hg⟩ := hrel
    have hv := Fi.numV_bd _ hg
    have hp10 : (10 : Nat) ^ (s.data.toList.take i).length ≤ 10 ^ 10 := Nat.pow_le_pow_right (by decide) (by rw [List.length_take]; omega)
    rw [show (10 : Nat) ^ 10 = 10000000000 from by decide] at hp10
    obtain ⟨v, hvv⟩ : ∃ v, Fi.numV (s.data.toList.take i) = v := ⟨_, rfl⟩
    rw [hvv] at hv
    have hv0 : 0 ≤ v := hv.1
    have hv1 : v < 10000000000 := by omega
    clear hv hp10
    by_cases hlt : (i : Int) < s.size
    · have hi' : i < s.size := by omega
      have hsn := Fi.take_snoc s i hi'
      have n0 : (0 : Int) ≤ (i : Int) := by omega
      obtain ⟨b, hb⟩ : ∃ b, s[i] = b := ⟨_, rfl⟩
      rw [hb] at hsn
      have hb255 := b.toNat_lt
      by_cases hd : Fi.isD b = true
      · have hval : Fi.numV (s.data.toList.take (i + 1)) = 10 * v + ((b.toNat : Int) - 48) := by rw [hsn, Fi.numV_snoc, hvv]
        have hgood : (s.data.toList.take (i + 1)).all Fi.isD = true := by rw [hsn, List.all_append, hg]; simpa using hd
        unfold Fi.isD at hd
        rw [Bool.and_eq_true, decide_eq_true_eq, decide_eq_true_eq] at hd
        have d1 : ¬ (b.toNat : Int) < 48 := by omega
        have d2 : ¬ (b.toNat : Int) > 57 := by omega
        have HV := Lib.hid hval
        have HG := Lib.hid hgood
        rw [hvv]
        clear hsn hg hval hgood hvv hnd h0
        go_wp2_with fail
        exact ⟨⟨i + 1, by omega, by go_num, by rw [HV.out]; go_num, HG.out⟩, by simp [intOf]; omega⟩
      · have hN : Fi.num s.data.toList most = none := hnd (by
          rw [Bool.eq_false_iff]
          intro hall
          have hmem : b ∈ s.data.toList.take (i + 1) := by rw [hsn]; simp
          exact hd (List.all_eq_true.1 hall b (List.mem_of_mem_take hmem)))
        have HN := Lib.hid hN
        unfold Fi.isD at hd
        rw [Bool.and_eq_true, decide_eq_true_eq, decide_eq_true_eq] at hd
        clear hsn hg hvv hnd hN h0
        rcases Int.lt_or_le (b.toNat : Int) 48 with d1 | d1
        · clear hd
          go_wp2_with fail
          go_ret
          exact ⟨by rw [HN.out]; rfl, Below.refl _ _⟩
        · have d1' : ¬ (b.toNat : Int) < 48 := by omega
          have d2 : (b.toNat : Int) > 57 := by omega
          clear hd
          go_wp2_with fail
          go_ret
          exact ⟨by rw [HN.out]; rfl, Below.refl _ _⟩
    · obtain rfl : i = s.size := by omega
      rw [Fi.take_all] at hg hvv ⊢
      obtain ⟨u, hu⟩ : ∃ u : Nat, v = u := ⟨v.toNat, by omega⟩
      subst hu
      rw [hvv]
      by_cases hbig : (u : Int) > most
      · have hN : Fi.num s.data.toList most = none := by
          unfold Fi.num Fi.isNum
          rw [hvv, decide_eq_false (by omega), Bool.and_false]
          rfl
        have HN := Lib.hid hN
        clear hg hvv hnd hN h0
        go_wp2_with fail
        go_ret
        exact ⟨by rw [HN.out]; rfl, Below.refl _ _⟩
      · obtain ⟨t, ht⟩ : ∃ t : ByteArray, (⟨(Lib.decDigits u).toArray⟩ : ByteArray) = t := ⟨_, rfl⟩
        have hI := fun W => Fi.digits_any u W (by omega)
        simp only [ht] at hI
        by_cases heq : t = s
        · have hN : Fi.num s.data.toList most = some (u : Int) := by
            rw [← heq, ← ht]
            exact Fi.isNum_dec u most (by omega)
          have HN := Lib.hid hN
          subst heq
          clear hg hvv hnd hN h0 ht
          go_wp2_with fail
          refine (hI _).mono ?_
          rintro e w2 ⟨rfl, hb2⟩
          go_wp2_with fail
          go_ret
          exact ⟨by rw [HN.out]; rfl, hb2⟩
        · have hN : Fi.num s.data.toList most = none := by
            unfold Fi.num Fi.isNum
            rw [hvv, Int.toNat_natCast, beq_eq_false_iff_ne.2 (fun h => heq (by rw [← ht, ← h, Lib.mk_data])), Bool.false_and]
            rfl
          have HN := Lib.hid hN
          have hbeq : (t.toList == s.toList) = false := by
            rw [beq_eq_false_iff_ne, ByteArray.toList_eq, ByteArray.toList_eq]
            exact fun h => heq (by rw [← Lib.mk_data t, h, Lib.mk_data])
          clear hg hvv hnd hN h0 ht
          go_wp2_with fail
          refine (hI _).mono ?_
          rintro e w2 ⟨rfl, hb2⟩
          go_wp2_with fail
          go_ret
          exact ⟨by rw [HN.out]; rfl, hb2⟩
end Go.Proofs.YtbhocnfjpiifiaaGreatDoor
