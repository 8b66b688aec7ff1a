/- The package digits, by walking its text: bytes (a range over slices.Backward), Put. -/
import Derived.Test.YthcdecncnppjaaaDoorNmTk
import Derived.Test.YthcdecncnppjaaaDoorRange
import Derived.Maps.AppendAt
namespace Go.Proofs.YthcdecncnppjaaaDoor
open Go.RowKit
attribute [local go_sem] Oper.semAt_some
set_option linter.unusedSimpArgs false
set_option linter.unusedVariables false
/-- What comes: the digits' places and the digits, the highest first. -/
def Nm.pairs (l : List Nat) : List (Nat × Nat) := (List.range l.length).reverse.map fun i => (i, l.getD i 0)
theorem Nm.pairs_len (l : List Nat) : (Nm.pairs l).length = l.length := by simp [Nm.pairs]
theorem Nm.pairs_get {l : List Nat} {k : Nat} (hk : k < l.length) : (Nm.pairs l)[l.length - 1 - k]? = some (k, l.getD k 0) := by
  unfold Nm.pairs
  rw [List.getElem?_map, List.getElem?_reverse (by rw [List.length_range]; omega), List.length_range, show l.length - 1 - (l.length - 1 - k) = k by omega, List.getElem?_range hk]
  rfl
theorem Nm.pairs_pre {l : List Nat} {k : Nat} (hk : k < l.length) : (Nm.pairs l).take (l.length - (k + 1)) ++ [(k, l.getD k 0)] = (Nm.pairs l).take (l.length - k) := by
  rw [show l.length - k = l.length - (k + 1) + 1 by omega, List.take_add_one, show l.length - (k + 1) = l.length - 1 - k by omega, Nm.pairs_get hk]
  rfl
theorem Nm.backward_any (A : Option Addr) (m c : Nat) (w : World) :
    Calls Tryd.prog 30 #[.slice A m c] w fun e w' => e = .returned (.func (.func 41) #[] #[.pointer (some ⟨w.heap.size, 0, none⟩)]) ∧ w' = w.alloc (.cells #[.slice A m c] 25) := by
  go_enter Tryd.func30, Tryd.ntmps30
  go_wp2
  go_ret
  exact ⟨rfl, rfl⟩
set_option maxRecDepth 100000 in
set_option maxHeartbeats 4000000 in
theorem Nm.back1 (A : Option Addr) (m c : Nat) (l : List Nat) (n b : Nat) (ks : List Nat) (hn : 1 ≤ n) (hm : l.length = m) (hm2 : m ≤ 1000000) (hbk : b ∈ ks) (W : World) (h0 : Boxed W b 25 (.slice A m c)) (hc : ∀ W', R.Kept ks W W' → Sl W' W'.heap.size A (Nm.u32s l)) :
    R.Seq n Tryd.prog 41 #[.pointer (some ⟨b, 0, none⟩)] (fun x : Nat × Nat => #[Value.int .i64 (x.1 : Int), .int .u32 (x.2 : Int)]) b ks
      (fun xs => xs = Nm.pairs l) (fun pre => pre <+: Nm.pairs l) (Nm.pairs l).length W := fun L J Jx hJ hJx hY hj0 => by
  have HM := hy' hm
  have HC := hy' hc
  have d0 := h0.cell
  clear hm hc
  refine callsIn_of_wp Tryd.func41 rfl trivial ?_ rfl
  simp only [Tryd.ntmps41, List.size_toArray, List.length_cons, List.length_nil, Nat.reduceAdd, Nat.reduceSub, Array.replicate_succ, Array.replicate_zero, List.push_toArray, List.append_toArray, List.nil_append, List.cons_append]
  gi_wp2
  gi_loopw [3] (fun vi wr => ∃ (k : Nat), vi = .int .i64 ((k : Int) - 1) ∧ k ≤ m ∧ J ((Nm.pairs l).take (m - k)) wr ∧ R.Kept ks W wr ∧ Boxed wr b 25 (.slice A m c))
    (fun vi wr => (intOf vi + 1).toNat)
  case atStart => exact ⟨m, rfl, Nat.le_refl _, by simpa using hj0, fun k _ o h => h, h0⟩
  case round =>
    obtain ⟨k, rfl, hk, hJp, hkp, hbx⟩ := hrel
    have e0 := hbx.cell
    rcases k with _ | k
    · gi_wp2
      go_end0
      refine ⟨⟨_, rfl⟩, .inl ⟨_, rfl, ?_⟩⟩
      rw [Nat.sub_zero, List.take_of_length_le (by rw [Nm.pairs_len, HM.o]; exact Nat.le_refl _)] at hJp
      exact hJp
    · have ek : ((k + 1 : Nat) : Int) - 1 = k := by omega
      rw [ek]
      have kg : (k : Int) ≥ 0 := by omega
      have km : (k : Int) < m := by omega
      have hgx : l[k]? = some (l.getD k 0) := Nm.get_of (by rw [HM.o]; omega)
      have hpp := Nm.pairs_pre (l := l) (k := k) (by rw [HM.o]; omega)
      obtain ⟨d, hd⟩ : ∃ d, l.getD k 0 = d := ⟨_, rfl⟩
      rw [hd] at hgx hpp
      rw [HM.o] at hpp
      obtain ⟨gb, go, hA, hgb, hcell⟩ := Nm.sl_get (HC.o wr hkp) hgx
      subst hA
      obtain ⟨fn, tmps, assign, body, hy, hR⟩ := hY _ (k, d) wr hJp (by rw [List.length_take, Nm.pairs_len, HM.o]; omega) (by rw [hpp]; exact List.take_prefix _ _)
      rw [hpp] at hR
      have HKP := hy' hkp
      clear hgx hd hpp hkp
      gi_wp2
      refine hR.mono ?_
      rintro e W3 (⟨rfl, hJ3, hk3⟩ | ⟨rfl, hJx3⟩)
      · have HJ3 := hy' hJ3
        have HK3 := hy' (R.Kept.trans HKP.o hk3)
        have HBX := hy' (show Boxed W3 b 25 (.slice (some ⟨gb, go, none⟩) m c) from hk3 b hbk _ hbx)
        clear hJ3 hk3
        gi_wp2
        go_roundw
        case rel => exact ⟨k, rfl, by omega, HJ3.o, HK3.o, HBX.o⟩
        case measure => first | (simp [intOf]; done) | (simp [intOf]; omega)
      · gi_wp2
        refine bodyPost_ret (results_none rfl _ _ _) rfl ?_
        exact ⟨⟨_, rfl⟩, .inr ⟨_, List.take_prefix _ _, hJx3⟩⟩
/-- A number's bytes, the highest first, without noughts ahead. -/
def Nm.BE (n : Nat) (out : List Nat) : Prop := Nm.be 256 out = n ∧ out.head? ≠ some 0 ∧ ∀ d ∈ out, d < 256
def Nm.BytesPost (n L : Nat) (w : World) (e : Ending) (w' : World) : Prop :=
  ∃ (out : List Nat) (A : Option Addr) (c : Nat), e = .returned (.slice A out.length c) ∧ Nm.BE n out ∧ out.length ≤ 4 * L ∧ Slt w' 5 A (Nm.u8s out) ∧ Below w.heap.size w w'
theorem Nm.BE.zero : Nm.BE 0 [] := ⟨rfl, by simp, fun d hd => by simp at hd⟩
/-- One byte more. -/
theorem Nm.BE.step {n x : Nat} {out : List Nat} (h : Nm.BE n out) (hx : x < 256) (hc : x ≠ 0 ∨ 0 < out.length) : Nm.BE (n * 256 + x) (out ++ [x]) := by
  obtain ⟨h1, h2, h3⟩ := h
  refine ⟨by rw [Nm.be_snoc, h1], ?_, fun d hd => ?_⟩
  · cases out with
    | nil => simp at hc ⊢; exact hc
    | cons y r => simpa using h2
  · rcases List.mem_append.1 hd with h | h
    · exact h3 d h
    · simp at h; omega
theorem Nm.BE.skip {n : Nat} {out : List Nat} (h : Nm.BE n out) (hl : out.length = 0) : Nm.BE (n * 256 + 0) out := by
  obtain ⟨h1, h2, h3⟩ := h
  have := List.eq_nil_of_length_eq_zero hl
  subst this
  have h4 : n = 0 := h1.symm
  subst h4
  exact ⟨rfl, h2, h3⟩
theorem Nm.slt_kept {W W' : World} {t : TypeId} {A : Option Addr} {xs : List Value} {ks : List Nat} (h : Slt W t A xs) (hk : R.Kept ks W W') (hm : ∀ a, A = some a → a.block ∈ ks) : Slt W' t A xs := by
  intro hx
  obtain ⟨b, o, cs, hA, hb, hc⟩ := h hx
  exact ⟨b, o, cs, hA, hk b (hm _ hA) _ hb, hc⟩
/-- The blocks that a range over digits leaves as they are. -/
def Nm.ks (b : Nat) : Option Addr → List Nat
  | none => [b]
  | some a => [b, a.block]
theorem Nm.pairs_next {l : List Nat} {pre : List (Nat × Nat)} {x : Nat × Nat} (h : pre ++ [x] <+: Nm.pairs l) : pre.length < l.length ∧ x = (l.length - 1 - pre.length, l.getD (l.length - 1 - pre.length) 0) := by
  have hl := h.length_le
  rw [List.length_append, List.length_singleton, Nm.pairs_len] at hl
  refine ⟨by omega, ?_⟩
  have h1 : (pre ++ [x])[pre.length]? = some x := by simp
  have h2 := (List.prefix_iff_getElem?.1 h) pre.length (by simp)
  have h3 := Nm.pairs_get (l := l) (k := l.length - 1 - pre.length) (by omega)
  rw [show l.length - 1 - (l.length - 1 - pre.length) = pre.length by omega] at h3
  rw [h3] at h2
  simp at h2
  exact h2.symm
set_option maxRecDepth 100000 in
set_option maxHeartbeats 4000000 in
theorem Nm.bytes_any (v : Value) (n L : Nat) (w : World) (hL : L ≤ 100000) (h : Nm.Is w v n L) :
    Calls Tryd.prog 21 #[v] w (Nm.BytesPost n L w) := by
  obtain ⟨i0, hi, hz0, hz1, hz2⟩ := info_parts infoByte
  have HLI := hy' (fun W (hW : Below w.heap.size w W) => Nm.getLimbs_any v n L W (by omega) (h.below hW))
  obtain ⟨A0, m0, c0, l0, rfl, -⟩ := h
  refine (callsIn_wide (n := 5)).1 ?_
  refine callsIn_of_wp_marks Tryd.func21 rfl trivial ?_ rfl
  simp only [Tryd.ntmps21, List.size_toArray, List.length_cons, List.length_nil, Nat.reduceAdd, Nat.reduceSub, Array.replicate_succ, Array.replicate_zero, List.push_toArray, List.append_toArray, List.nil_append, List.cons_append]
  obtain ⟨wa, hwa⟩ : ∃ wa, (w.alloc (.cells #[.slice A0 m0 c0] 27)).alloc (.cells #[.slice none 0 0] 23) = wa := ⟨_, rfl⟩
  have hba : Below w.heap.size w wa := by rw [← hwa]; exact ((Below.refl _ _).alloc (Nat.le_refl _) _).alloc (by simp) _
  have hata : Rw.At wa (w.heap.size + 1) 23 [.slice none 0 0] := by
    rw [← hwa]; exact (by simp : (w.alloc (.cells #[.slice A0 m0 c0] 27)).heap.size = w.heap.size + 1) ▸ Rw.At.new (w.alloc (.cells #[.slice A0 m0 c0] 27)) 23 [.slice none 0 0]
  have hsza : wa.heap.size = w.heap.size + 2 := by rw [← hwa]; simp
  have HWA := hy' hwa
  have HBA := hy' hba
  have HATA := hy' hata
  have HSA := hy' hsza
  clear hwa hba hata hsza
  gi_wp2_with (refine ⟨trivial, ?_⟩; gi_at_call 20; rw [HWA.o]; refine (callsIn_wide.2 (HLI.o wa HBA.o)).mono ?_; rintro e w1 ⟨l, A1, c1, rfl, hown1, hcan1, hval1, hlen1, hb1⟩; have HO1 := hy' hown1; have HC1 := hy' hcan1; have HV1 := hy' hval1; have HL1 := hy' hlen1; have HB1 := hy' hb1; clear hown1 hcan1 hval1 hlen1 hb1)
  refine ⟨trivial, ?_⟩
  refine (callsIn_wide.2 (Nm.backward_any A1 l.length c1 _)).mono ?_
  rintro e w2 ⟨rfl, hw2⟩
  have HW2 := hy' hw2
  clear hw2
  gi_wp2
  have hw2 := HW2.o
  have hz : w2.heap.size = w1.heap.size + 1 := by rw [hw2]; simp
  have hb2 : Below w1.heap.size w1 w2 := by rw [hw2]; exact (Below.refl _ _).alloc (Nat.le_refl _) _
  have q3 : Boxed w2 (w.heap.size + 1) 23 (.slice none 0 0) := (HATA.o.below HB1.o).below hb2
  have qb : Boxed w2 w1.heap.size 25 (.slice A1 l.length c1) := by rw [hw2]; exact Rw.At.new w1 25 [.slice A1 l.length c1]
  have hsl : Slt w2 47 A1 (Nm.u32s l) := (Slt.of_own HO1.o).below hb2
  have hB0 : Below w.heap.size w w2 := HBA.o.trans ((HB1.o.trans (hb2.mono HB1.o.size)).mono HBA.o.size)
  have hw12 : w.heap.size + 2 ≤ w1.heap.size := by rw [← HSA.o]; exact HB1.o.size
  obtain ⟨b, hbb⟩ : ∃ b, w1.heap.size = b := ⟨_, rfl⟩
  have hka : ∀ a, A1 = some a → w.heap.size + 2 ≤ a.block ∧ a.block < b := by
    intro a ha
    subst ha
    rcases HO1.o.2 with ⟨hv, _⟩ | ⟨g, cap, cur, hv, hg, hh, _⟩
    · cases hv
    · cases hv
      exact ⟨by rw [← HSA.o]; exact hg, by rw [← hbb]; exact heap_lt hh⟩
  have hkm : ∀ a, A1 = some a → a.block ∈ Nm.ks b A1 := by
    intro a ha
    subst ha
    simp [Nm.ks]
  have hks : ∀ k ∈ Nm.ks b A1, k < b + 1 ∧ k ≠ w.heap.size + 1 := by
    intro k hk
    cases hA : A1 with
    | none => rw [hA] at hk; simp [Nm.ks] at hk; subst hk; exact ⟨by omega, by omega⟩
    | some a =>
      rw [hA] at hk
      have := hka a hA
      simp [Nm.ks] at hk
      rcases hk with rfl | rfl
      · exact ⟨by omega, by omega⟩
      · exact ⟨by omega, by omega⟩
  have hbks : b ∈ Nm.ks b A1 := by cases A1 <;> simp [Nm.ks]
  rw [hbb] at hz qb hw12
  obtain ⟨m, hm⟩ : ∃ m, l.length = m := ⟨_, rfl⟩
  have hmL : m ≤ L := by rw [← hm]; exact HL1.o
  rw [hm] at qb ⊢
  rw [hbb]
  have hdig : ∀ i, n / 4294967296 ^ i % 4294967296 = l.getD i 0 := fun i => by rw [← HV1.o]; exact Nm.digit HC1.o.1 i
  have htop : n / 4294967296 ^ m = 0 := by rw [← HV1.o]; exact Nm.cmp_top HC1.o.1 (by omega)
  have hseq := fun (W : World) (hW : Below w2.heap.size w2 W) => Nm.back1 A1 m c1 l (5 - 1) b (Nm.ks b A1) (by omega) hm (by omega) hbks W ((hW.block _ (by omega)).trans qb) (fun W' hk => (Nm.slt_kept (hsl.below hW) hk hkm).sl)
  have HDIG := hy' hdig
  have HTOP := hy' htop
  have HM := hy' hm
  have HKS := hy' hks
  clear hdig htop hw2 hka hkm hbb hm hks
  refine R.range (n := 5) (by omega) (gf := 41) (lb := #[.pointer (some ⟨b, 0, none⟩)]) rfl (enters_of Tryd.func41 (by kernel_rfl) rfl)
    (b := b) (by omega) (ks := Nm.ks b A1) (fun k hk => by have := (HKS.o k hk).1; omega) hseq (fun _ => rfl)
    (fun pre W => ∃ (out : List Nat) (Ao : Option Addr) (co : Nat), Boxed W (w.heap.size + 1) 23 (.slice Ao out.length co) ∧ W.ownsRow (b + 1) 5 1 (.slice Ao out.length co) out.length (Nm.u8s out) ∧ Nm.BE (n / 4294967296 ^ (m - pre.length)) out ∧ out.length ≤ 4 * pre.length ∧ pre.length ≤ m ∧ Below w.heap.size w W ∧ b + 1 ≤ W.heap.size)
    (fun _ _ _ => False)
    (by
      rintro pre X Y row ⟨out, Ao, co, a1, a2, a3, a4, a5, a6, a7⟩ hg hr
      exact ⟨out, Ao, co, R.box_kept a1 hg hr (by omega), R.own_kept a2 hg hr (by omega), a3, a4, a5, R.below_kept a6 a6.size hg hr (by omega) (by omega), Nat.le_trans a7 hg.size⟩)
    (fun _ _ _ _ _ h _ _ => h)
    ⟨[], none, 0, q3, World.ownsRow_nil _ _ _ _, by rw [List.length_nil, Nat.sub_zero, HTOP.o]; exact Nm.BE.zero, by simp, by simp, hB0, by omega⟩
    (fun (x : Nat × Nat) => { tmps := #[.agg #[.slice A0 m0 c0], .pointer (some ⟨w.heap.size, 0, none⟩), .slice none 0 0, .pointer (some ⟨w.heap.size + 1, 0, none⟩), undef, .int .u32 (x.2 : Int), undef, undef, .agg #[.slice A0 m0 c0], .slice A1 m c1,
      .func (.func 41) #[] #[.pointer (some ⟨b, 0, none⟩)], .int .i64 (x.1 : Int), .int .u32 (x.2 : Int), undef, undef, undef, undef, undef, undef, undef, undef, undef, undef, undef, undef, undef, undef, undef, undef, undef, undef, undef, undef, undef], defers := [] }) ?assign ?body ?done ?stop
  case assign =>
    intro l x W K hK
    gi_wp2
    exact hK
  case body =>
    rintro l' pre x W ⟨out, Ao, co, hv, hrow, hBE, hlen, hpm, hB, hDW⟩ hlenN hSp
    obtain ⟨hpl, rfl⟩ := Nm.pairs_next hSp
    rw [HM.o] at hpl ⊢
    rw [hz]
    obtain ⟨i, hi'⟩ : ∃ i, m - 1 - pre.length = i := ⟨_, rfl⟩
    obtain ⟨d, hd⟩ : ∃ d, l.getD i 0 = d := ⟨_, rfl⟩
    rw [hi', hd]
    have hdig := HDIG.o i
    rw [hd] at hdig
    have hdl : d < 4294967296 := by rw [← hdig]; exact Nat.mod_lt _ (by decide)
    rw [show m - pre.length = i + 1 by omega, Nm.pow32] at hBE
    have d0 : (0 : Int) ≤ d := by omega
    have d1 : (d : Int) < 4294967296 := by omega
    have HV := hy' hv
    have HR := hy' hrow
    have HBE := hy' hBE
    have HB' := hy' hB
    have HDIG2 := hy' hdig
    have HI := hy' hi'
    have hi2 : i + pre.length + 1 = m := by omega
    clear hv hrow hBE hB hdig hd hi' hlenN hSp
    gi_wp2
    gi_loopw [6] (fun vk wr => ∃ (j : Nat) (o2 : List Nat) (A2 : Option Addr) (c2 : Nat), vk = .int .i64 ((j : Int) - 1) ∧ j ≤ 4 ∧ Boxed wr (w.heap.size + 1) 23 (.slice A2 o2.length c2) ∧ wr.ownsRow (b + 1) 5 1 (.slice A2 o2.length c2) o2.length (Nm.u8s o2) ∧ Nm.BE (n / 256 ^ (4 * i + j)) o2 ∧ o2.length + j ≤ 4 * (pre.length + 1) ∧ KeepsFrom (b + 1) W wr ∧ R.Kept (Nm.ks b A1) W wr ∧ Below w.heap.size w wr ∧ b + 1 ≤ wr.heap.size)
      (fun vk wr => (intOf vk + 1).toNat)
    case atStart => exact ⟨4, out, Ao, co, rfl, by omega, HV.o, HR.o, HBE.o, by omega, ⟨Nat.le_refl _, fun k o _ h _ => h⟩, fun k _ o h => h, HB'.o, hDW⟩
    case round =>
      obtain ⟨j, o2, A2, c2, rfl, hj4, hvr, hor, hbs, hlr, hkf, hkp, hbb, hDr⟩ := hrel
      obtain ⟨ln, hln⟩ : ∃ k, o2.length = k := ⟨_, rfl⟩
      rw [hln] at hvr hor hlr
      have HLN := hy' hln
      have HVR := hy' hvr
      have HOR := hy' hor
      have HBS := hy' hbs
      have HKF := hy' hkf
      have HKP := hy' hkp
      have HBB := hy' hbb
      have cv := hvr.cell
      clear hvr hor hbs hkf hkp hbb hln
      rcases j with _ | j
      · have hfin : Nm.BE (n / 4294967296 ^ (m - (pre.length + 1))) o2 := by rw [show m - (pre.length + 1) = i by omega, Nm.pow32]; exact HBS.o
        have HFIN := hy' hfin
        clear hfin
        gi_wp2
        exact ⟨HKF.o, HKP.o, o2, A2, c2, by rw [HLN.o]; exact HVR.o, by rw [HLN.o]; exact HOR.o, by rw [List.length_append, List.length_singleton]; exact HFIN.o, by rw [List.length_append, List.length_singleton, HLN.o]; omega, by rw [List.length_append, List.length_singleton]; omega, HBB.o, hDr⟩
      · have ek : ((j + 1 : Nat) : Int) - 1 = j := by omega
        rw [ek]
        have jg : (j : Int) ≥ 0 := by omega
        have jg0 : (0 : Int) ≤ 8 * (j : Int) := by omega
        have jg3 : 8 * (j : Int) ≤ 32 := by omega
        obtain ⟨Z, hZ⟩ : ∃ Z, 2 ^ (8 * j) = Z := ⟨_, rfl⟩
        have hZI : (2 : Int) ^ ((8 : Int) * j).toNat = Z := by rw [show ((8 : Int) * j).toNat = 8 * j by omega, Nm.pow2_toNat, hZ]
        obtain ⟨e, he⟩ : ∃ e, d / Z = e := ⟨_, rfl⟩
        have heI : (d : Int) / Z = e := by rw [← he]; exact (Int.natCast_ediv _ _).symm
        obtain ⟨y, hy⟩ : ∃ y, e % 256 = y := ⟨_, rfl⟩
        have hyI : (e : Int) % 256 = y := by omega
        have hyl : y < 256 := by omega
        have hyb : n / 256 ^ (4 * i + j) % 256 = y := by
          rw [← Nm.byte_at n i j (by omega), HDIG2.o, hZ, he, hy]
        have hnext := Nm.byte_next n (4 * i + j)
        rw [hyb] at hnext
        have HBSJ := HBS.o
        rw [show 4 * i + (j + 1) = 4 * i + j + 1 by omega] at HBSJ
        have y0 : (0 : Int) ≤ y := by omega
        have y1 : (y : Int) < 256 := by omega
        have cf := HVR.o.frozen
        have cl := HVR.o.lt
        by_cases hy0 : y = 0
        · by_cases hl0 : ln = 0
          · have hbs2 := Nm.BE.skip HBSJ (by rw [HLN.o]; exact hl0)
            rw [hy0] at hnext
            rw [hnext] at hbs2
            have HBS2 := hy' hbs2
            have yI : ((y : Int) != 0) = false := by simp; omega
            have lI : ¬ (0 : Int) < ln := by omega
            clear hZ he hy hyb hnext HBSJ hbs2
            gi_wp2
            exact ⟨⟨j, o2, A2, c2, rfl, by omega, by rw [HLN.o]; exact HVR.o, by rw [HLN.o]; exact HOR.o, HBS2.o, by rw [HLN.o]; omega, HKF.o, HKP.o, HBB.o, hDr⟩, by first | (simp [intOf]; done) | (simp [intOf]; omega)⟩
          · have hbs2 := Nm.BE.step HBSJ hyl (.inr (by rw [HLN.o]; omega))
            rw [hnext] at hbs2
            have HBS := hy' hbs2
            have l1 : (0 : Int) < ln := by omega
            have l2 : 0 < ln := by omega
            have l5 : ¬ ln = 0 := by omega
            have HLL := hy' (show ln + (j + 1) ≤ 4 * (pre.length + 1) ∧ pre.length < m ∧ j + 1 ≤ 4 from ⟨hlr, hpl, hj4⟩)
            clear hi2 hlr hj4 hpl hpm
            subst hy0
            have hyI0 : (e : Int) % 256 = 0 := by omega
            have lI : (0 : Int) < ln := by omega
            clear hZ he hy hyb hnext HBSJ hbs2 hl0 hyI y0 y1
            gi_wp2_with first | (gi_at_builtin; refine wpListIn_append_own _ rfl _ _ 23 rfl (b + 1) 5 i0 (.int .u8 0) 1 1 Tryd.underlying23 hi hz0 hz1 hz2 rfl (by decide) _ _ _ rfl (HOR.o.alloc _) ⟨wr.heap.size, 0, none⟩ 1 1 [.int .u8 0] rfl rfl (cell_one_new _ _ _) (by simp [Value.oneCell']) (by have := HLL.o; simp only [maxLen]; omega) (by have := HLL.o; omega) (by simp; omega) ?_; intro v' w3 hown' hgrow _;  obtain ⟨g', cap', rfl⟩ := ownsRow_succ hown'; obtain ⟨g1, g2, g3, g4, g5, g6, g7⟩ := R.appended (n₀ := w.heap.size) (ks := Nm.ks b A1) HVR.o (by decide) HOR.o hDr (by omega) (by omega) HKS.o hown' hgrow; have hc1 := g1.cell; have hf1 := g1.frozen; have G2 := hy' g2; have G3 := hy' g3; have G4 := hy' g4; have G5 := hy' g5; have G6 := hy' g6; clear g1 g2 g3 g4 g5 g6 g7 hown' hgrow) | fail
            exact ⟨⟨j, o2 ++ [0], _, _, by first | rfl | go_num, by have := HLL.o; omega, by rw [List.length_append, HLN.o]; exact G2.o, by rw [List.length_append, HLN.o, show Nm.u8s (o2 ++ [0]) = Nm.u8s o2 ++ [Value.int .u8 0] by simp [Nm.u8s]]; exact G3.o, HBS.o, by rw [List.length_append, List.length_singleton, HLN.o]; have := HLL.o; omega, HKF.o.trans G4.o, R.Kept.trans HKP.o G5.o, HBB.o.trans G6.o, Nat.le_trans hDr G4.o.size⟩, by first | (simp [intOf]; done) | (simp [intOf]; omega)⟩
        · have hbs2 := Nm.BE.step HBSJ hyl (.inl hy0)
          rw [hnext] at hbs2
          have HBS := hy' hbs2
          have yI : ((y : Int) != 0) = true := by simp; omega
          clear hZ he hy hyb hnext HBSJ hbs2 hy0
          gi_wp2_with first | (gi_at_builtin; refine wpListIn_append_own _ rfl _ _ 23 rfl (b + 1) 5 i0 (.int .u8 0) 1 1 Tryd.underlying23 hi hz0 hz1 hz2 rfl (by decide) _ _ _ rfl (HOR.o.alloc _) ⟨wr.heap.size, 0, none⟩ 1 1 [.int .u8 (y : Int)] rfl rfl (cell_one_new _ _ _) (by simp [Value.oneCell']) (by simp only [maxLen]; omega) (by omega) (by simp; omega) ?_; intro v' w3 hown' hgrow _; obtain ⟨g', cap', rfl⟩ := ownsRow_succ hown'; obtain ⟨g1, g2, g3, g4, g5, g6, g7⟩ := R.appended (n₀ := w.heap.size) (ks := Nm.ks b A1) HVR.o (by decide) HOR.o hDr (by omega) (by omega) HKS.o hown' hgrow; have hc1 := g1.cell; have hf1 := g1.frozen; have G2 := hy' g2; have G3 := hy' g3; have G4 := hy' g4; have G5 := hy' g5; have G6 := hy' g6; clear g1 g2 g3 g4 g5 g6 g7 hown' hgrow) | fail
          exact ⟨⟨j, o2 ++ [y], _, _, by first | rfl | go_num, by omega, by rw [List.length_append, HLN.o]; exact G2.o, by rw [List.length_append, HLN.o, show Nm.u8s (o2 ++ [y]) = Nm.u8s o2 ++ [Value.int .u8 (y : Int)] by simp [Nm.u8s]]; exact G3.o, HBS.o, by rw [List.length_append, List.length_singleton, HLN.o]; omega, HKF.o.trans G4.o, R.Kept.trans HKP.o G5.o, HBB.o.trans G6.o, Nat.le_trans hDr G4.o.size⟩, by first | (simp [intOf]; done) | (simp [intOf]; omega)⟩
  case done =>
    rintro E ys W hE rfl ⟨out, Ao, co, hv, hrow, hBE, hlen, hpm, hB, hDW⟩ hK
    have cv := hv.cell
    rw [Nm.pairs_len, HM.o, Nat.sub_self, Nat.pow_zero, Nat.div_one] at hBE
    rw [Nm.pairs_len, HM.o] at hlen
    have HBE := hy' hBE
    clear hBE
    gi_wp2
    refine ⟨by simp, .inl ⟨_, _, rfl, run_takeDeferred hK, ?_⟩⟩
    refine ⟨_, results_tmp rfl _ _ _, ?_⟩
    exact ⟨out, Ao, co, rfl, HBE.o, by omega, Slt.of_own (ownsRow_putObj hrow _ hK rfl), hB.trans (belowK_b (w := w) (Nat.le_refl _) W E _ _ (by omega) hK rfl rfl)⟩
  case stop =>
    rintro E c pre W hE hpre hF hK
    exact hF.elim
end Go.Proofs.YthcdecncnppjaaaDoor
