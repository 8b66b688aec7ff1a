/- The package prod, by walking its text: the long division. -/
import Derived.Test.YthcdecncnppjaaaDoorNmLeft
import Derived.Test.YthcdecncnppjaaaDoorNmPlain3
import Derived.Test.YthcdecncnppjaaaDoorShelf
import Derived.Test.YthcdecncnppjaaaDoorFam
import Derived.Lib.BitFns
import Derived.Test.YthcdecncnppjaaaDoorStage
namespace Go.Proofs.YthcdecncnppjaaaDoor
open Go.RowKit
set_option linter.unusedSimpArgs false
set_option linter.unusedVariables false
theorem Nm.bl : ∀ (f x : Nat), 0 < x → x < 2 ^ f → ∃ k, Lib.bitLenAux f x = k + 1 ∧ 2 ^ k ≤ x ∧ x < 2 ^ (k + 1) := by
  intro f
  induction f with
  | zero => intro x h1 h2; simp at h2; omega
  | succ f ih =>
    intro x h1 h2
    unfold Lib.bitLenAux
    rw [if_neg (by omega)]
    rcases Nat.eq_zero_or_pos (x / 2) with h0 | h0
    · refine ⟨0, ?_, by simp; omega, by simp; omega⟩
      rw [h0]
      cases f with
      | zero => rfl
      | succ f => unfold Lib.bitLenAux; rw [if_pos rfl]
    · obtain ⟨k, k1, k2, k3⟩ := ih (x / 2) h0 (by rw [Nat.pow_succ] at h2; omega)
      refine ⟨k + 1, by rw [k1]; omega, ?_, ?_⟩
      · rw [Nat.pow_succ]; omega
      · rw [Nat.pow_succ]; omega
theorem Nm.lead (x : Nat) (h0 : 0 < x) (h1 : x < 4294967296) : ∃ b : Nat, (32 : Int) - (Lib.bitLen x : Int) = b ∧ b ≤ 31 ∧ 2 ^ (31 - b) ≤ x ∧ x < 2 ^ (32 - b) := by
  obtain ⟨k, k1, k2, k3⟩ := Nm.bl 64 x h0 (by omega)
  have hk : k < 32 := by
    have : 2 ^ k < 2 ^ 32 := by omega
    exact (Nat.pow_lt_pow_iff_right (by decide : 1 < 2)).1 this
  unfold Lib.bitLen
  rw [k1]
  exact ⟨31 - k, by omega, by omega, by rw [show 31 - (31 - k) = k by omega]; exact k2, by rw [show 32 - (31 - k) = k + 1 by omega]; exact k3⟩
section
variable {P : Program}
/-- 'append(s, u)', as wpList_push1, with what else is kept. -/
theorem Nm.wpList_push {ops : Array Oper} {rest : List Oper} {o : Oper} {a : Act} {Q : Exit → Act → World → Prop} (w : World) (hgd : o.guard = none) (s x : Operand) (t : TypeId)
    (ho : o.op = .call { callee := .builtin .append, args := #[s, x], argTypes := #[t, t] })
    (base : Nat) (e : TypeId) (i : TypeInfo) (z : Value) (bytes : Nat) (ht : P.underlying t = some (.slice e)) (hi : P.info? e = some i) (hz : i.zero = some z)
    (hsize : i.size = 1) (hby : i.bytes = bytes) (hzs : z.cells.size = 1)
    (v : Value) (n : Nat) (xs : List Value) (hs : a.eval s = v) (hown : w.ownsRow base e 1 v n xs)
    (u : Value) (h1 : u.oneCell' = true) (hx : a.eval x = .slice (some ⟨w.heap.size, 0, none⟩) 1 1)
    (h63 : n + 1 ≤ maxLen) (hbytes : (n + 1) * bytes ≤ 140737488355328) (hbase : base ≤ w.heap.size)
    (h : ∀ v' w', w'.ownsRow base e 1 v' (n + 1) (xs ++ [u]) → Below base w w' → (w.alloc (.cells #[u] e)).grownBy w' v.ownBlock → wpList P ops Q rest (a.put o.dst v') w') :
    wpList P ops Q (o :: rest) a (w.alloc (.cells #[u] e)) :=
  wpList_plain hgd fun _ hK => wp_push1 _ s x t ho base e i z bytes ht hi hz hsize hby hzs v n xs hs (hown.alloc _) u h1 w.heap.size hx (by simp) h63 hbytes (by simp; omega) fun v' w' h2 h3 h4 => hK _ _ (h v' w' h2 (((Below.refl _ _).alloc hbase _).trans h3) h4)
end
/-- What the long division answers. -/
def Nm.LongPost (X Y nq n : Nat) (w : World) (e : Ending) (w' : World) : Prop :=
  ∃ (g g' c : Nat) (Q R : List Nat), e = .returned (.tuple #[.slice (some ⟨g, 0, none⟩) nq nq, .slice (some ⟨g', 0, none⟩) n c]) ∧ Q.length = nq ∧ R.length = n ∧ Nm.Ok Q ∧ Nm.Ok R ∧ Nm.val Q = X / Y ∧ Nm.val R = X % Y ∧ Nm.At w' g Q ∧ Nm.At w' g' R ∧ Below w.heap.size w w'
set_option maxRecDepth 100000 in
set_option maxHeartbeats 2000000 in
theorem Nm.long_any (Ax Ay : Option Addr) (nx n cx cy m : Nat) (lx ly : List Nat) (w : World) (hnx : lx.length = nx) (hny : ly.length = n) (hm : nx = m + n) (hn2 : 2 ≤ n) (hx1 : nx ≤ 100000) (hcx : Nm.Can lx) (hcy : Nm.Can ly) (hX : Sl w w.heap.size Ax (Nm.u32s lx)) (hY : Sl w w.heap.size Ay (Nm.u32s ly)) :
    Calls Tryd.prog 29 #[.slice Ax nx cx, .slice Ay n cy] w (Nm.LongPost (Nm.val lx) (Nm.val ly) (m + 1) n w) := by
  obtain ⟨i0, hi, hz0, hz1, hz2⟩ := info_parts infoU32
  -- the highest digit of the divisor
  have hgt : ly[n - 1]? = some (ly.getD (n - 1) 0) := Nm.get_of (by omega)
  obtain ⟨t, ht⟩ : ∃ t, ly.getD (n - 1) 0 = t := ⟨_, rfl⟩
  rw [ht] at hgt
  have htl : t < 4294967296 := hcy.1 t (List.mem_of_getElem? hgt)
  have ht0 : 0 < t := by
    rcases Nat.eq_zero_or_pos t with h | h
    · subst h
      exact absurd (by rw [List.getLast?_eq_getElem?, hny]; exact hgt) hcy.2
    · exact h
  obtain ⟨b, hb, hb31, hb1, hb2⟩ := Nm.lead t ht0 htl
  have HLZ := hy' (fun W => Tryd.bits_LeadingZeros32 (t : Int) W (by omega) (by omega))
  rw [Int.toNat_natCast, hb] at HLZ
  obtain ⟨by_, oy, rfl, hby, hcelly⟩ := Nm.sl_get hY hgt
  obtain ⟨n', hn'⟩ : ∃ k, n = k + 2 := ⟨n - 2, by omega⟩
  subst hn'
  obtain ⟨hV1, hV2, hV3⟩ := Nm.norm (n := n' + 1) hcy.1 (by omega) (by rw [show n' + 1 = n' + 2 - 1 by omega]; exact ht) hb31 hb1 hb2
  rw [Nm.powB] at hV2
  obtain ⟨X, hXe⟩ : ∃ X, Nm.val lx = X := ⟨_, rfl⟩
  obtain ⟨Y, hYe⟩ : ∃ Y, Nm.val ly = Y := ⟨_, rfl⟩
  have hYlt : Y < 4294967296 ^ (n' + 2) := by rw [← hYe, ← hny]; exact Nm.val_lt hcy.1
  have hst := Nm.long_start (l := lx) (m := m) (n := n' + 1) (b := b) hcx.1 (by omega) hV3
  have HLX := hy' (fun W (hW : Below w.heap.size w W) => Nm.left_any Ax nx cx w.heap.size b lx W hnx (by omega) hW.size hcx.1 (hX.belowN hW (Nat.le_refl _) (Nat.le_refl _)) hb31)
  have HLY := hy' (fun W (hW : Below w.heap.size w W) => Nm.left_any (some ⟨by_, oy, none⟩) (n' + 2) cy w.heap.size b ly W hny (by omega) hW.size hcy.1 (hY.belowN hW (Nat.le_refl _) (Nat.le_refl _)) hb31)
  rw [hXe] at HLX hst ⊢
  rw [hYe] at HLY hst hV1 hV2 hV3 ⊢
  obtain ⟨V, hV⟩ : ∃ V, Y * 2 ^ b = V := ⟨_, rfl⟩
  rw [hV] at HLY hst hV1 hV2 hV3
  have HST := hy' hst
  have HV := hy' hV
  have HV1 := hy' hV1
  have HV2 := hy' hV2
  have HYL := hy' hYlt
  have HNX := hy' hnx
  have nI : (0 : Int) ≤ (n' : Int) + 2 - 1 := by omega
  have hcc : oy + (n' + 1) = oy + (n' + 2 - 1) := by omega
  rw [← hcc] at hcelly
  have HZP := hy' (Nat.pow_pos (n := b) (show 0 < 2 by decide))
  clear hgt ht hV1 hV2 hV3 hst hV hXe hYe hcx hcy hX hY hnx hny hb hb1 hb2 hcc hYlt
  subst hm
  go_enter Tryd.func29, Tryd.ntmps29
  go_wp2_with fail
  refine (HLZ.o w).mono ?_
  rintro e w' ⟨rfl, hw'⟩
  rw [hw']
  clear hw'
  go_wp2_with fail
  refine (HLY.o w (Below.refl _ _)).mono ?_
  rintro e w1 ⟨gv, Vl, rfl, hVl, hVok, hVv, hgv, hatv, hb1⟩
  have HVL := hy' hVl
  have HVOK := hy' hVok
  have HVV := hy' hVv
  have HATV := hy' hatv
  have HB1 := hy' hb1
  have HGV := hy' hgv
  clear hVl hVok hVv hatv hb1 hgv
  go_wp2_with fail
  refine (HLX.o w1 HB1.o).mono ?_
  rintro e w2 ⟨gu, U0, rfl, hUl, hUok, hUv, hgu, hatu, hb2⟩
  have HUL := hy' hUl
  have HUOK := hy' hUok
  have HUV := hy' hUv
  have HATU := hy' hatu
  have HB2 := hy' (HB1.o.trans (hb2.mono HB1.o.size))
  have HGU := hy' hgu
  have HATV2 := hy' (HATV.o.below hb2)
  clear hUl hUok hUv hatu hb2 hgu
  go_upto_region 6 with (first | (at_make; refine wpList_make_full _ rfl _ _ _ rfl w2.heap.size 47 i0 _ 1 Tryd.underlying25 hi hz0 hz1 _ _ _ _ (m + 1) rfl rfl (by go_num) (by go_num) (by rw [hz2]; omega) (by simp only [maxLen]; omega) (Nat.le_refl _) ?_; intro w3 hown hgr) | fail)
  rw [Nm.made_zeros] at hown
  have hatq : Nm.At w3 w2.heap.size (List.replicate (m + 1) 0) := Nm.own_at hown
  have hbe0 := Below.grown (Below.refl w2.heap.size w2) hgr (Nat.le_refl _) (by intro k hk; cases hk)
  obtain ⟨gq, hgq⟩ : ∃ g, w2.heap.size = g := ⟨_, rfl⟩
  have HQ0 := hy' hatq
  have HB3 := hy' (HB2.o.trans (hbe0.mono HB2.o.size))
  have HATV3 := hy' (HATV2.o.below hbe0)
  have HATU3 := hy' (HATU.o.below hbe0)
  have hu2 := HATU.o.lt
  have hv1 := HATV.o.lt
  have hwb : w.heap.size ≤ w2.heap.size := HB2.o.size
  rw [hgq] at HQ0 hu2 hwb ⊢
  have HGO := hy' (show gv < gu ∧ gu < gq ∧ w.heap.size ≤ gv from ⟨Nat.lt_of_lt_of_le hv1 HGU.o, hu2, HGV.o⟩)
  clear hown hgr hatq hbe0 hgq hu2 hv1 hwb
  go_wp2_with fail
  go_loopw [11] (fun vj wr => ∃ (k : Nat) (U Q : List Nat), vj = .int .i64 ((k : Int) - 1) ∧ k ≤ m + 1 ∧ U.length = m + (n' + 2) + 1 ∧ Nm.Ok U ∧ Nm.val U < 4294967296 ^ k * V ∧ Q.length = m + 1 ∧ Nm.Ok Q ∧ (∀ i, i < k → Q.getD i 0 = 0) ∧ Nm.val U + V * Nm.val Q = X * 2 ^ b ∧ Nm.At wr gv Vl ∧ Nm.At wr gu U ∧ Nm.At wr gq Q ∧ Below w.heap.size w wr) (fun vj _ => (intOf vj + 1).toNat)
  case atStart => exact ⟨m + 1, U0, _, by first | rfl | (congr 1; omega), Nat.le_refl _, HUL.o, HUOK.o, by rw [HUV.o]; exact HST.o, by simp, Nm.ok_zeros _, fun i _ => by simp [List.getD, List.getElem?_replicate]; split <;> rfl, by rw [Nm.val_zeros, HUV.o]; simp, HATV3.o, HATU3.o, HQ0.o, HB3.o⟩
  case round =>
    obtain ⟨k, U, Q, rfl, hk, hUl, hUok, hUlt, hQl, hQok, hQz, hUQ, hatv, hatu, hatq, hbe⟩ := hrel
    have HUL2 := hy' hUl
    have HUOK2 := hy' hUok
    have HULT := hy' hUlt
    have HQL := hy' hQl
    have HQOK := hy' hQok
    have HQZ := hy' hQz
    have HUQ := hy' hUQ
    have HTV := hy' hatv
    have HTU := hy' hatu
    have HTQ := hy' hatq
    have HBE := hy' hbe
    clear hUl hUok hUlt hQl hQok hQz hUQ hatv hatu hatq hbe
    rcases k with _ | j
    · obtain ⟨wq, rfl⟩ : ∃ q : World, q = wr := ⟨_, rfl⟩
      have hUV := HULT.o
      simp only [Nat.pow_zero, Nat.one_mul] at hUV
      obtain ⟨k1, k2⟩ := Nm.long_end HZP.o HV.o.symm hUV HUQ.o
      have hYp : 0 < Y := by
        rcases Nat.eq_zero_or_pos Y with h | h
        · have := HV.o; rw [h] at this; omega
        · exact h
      have hR : Nm.val (U ++ [0]) / 2 ^ b % 4294967296 ^ (n' + 2) = X % Y := by
        rw [Nm.val_snoc0, k2]
        exact Nat.mod_eq_of_lt (Nat.lt_trans (Nat.mod_lt _ hYp) HYL.o)
      have HK1 := hy' k1
      have HR := hy' hR
      have hown := own_of_at (base := gu) HTU.o (Nat.le_refl _) (m + (n' + 2) + 1) 1 (by rw [Nm.u32s_len, HUL2.o]; omega) (by simp only [maxLen]; omega)
      have HOWN := hy' hown
      have hgq := HTQ.o.lt
      have hgul := HTU.o.lt
      clear k1 k2 hR hUV hown
      go_wp2_with (at_builtin; refine Nm.wpList_push _ rfl _ _ _ rfl gu 47 i0 _ 4 Tryd.underlying25 hi hz0 hz1 hz2 rfl _ (m + (n' + 2) + 1) _ rfl HOWN.o (.int .u32 0) rfl rfl (by simp only [maxLen]; omega) (by omega) (by omega) ?_; intro v1 w4 hown4 hb4 hgr4; obtain ⟨A4, c4, rfl⟩ := own_form hown4; have HOW4 := hy' hown4; have HGR4 := hy' hgr4; clear hown4 hb4 hgr4)
      have hba : Below w.heap.size w (wq.alloc (.cells #[.int .u32 0] 47)) := HBE.o.alloc HBE.o.size _
      have hgr5 : (wq.alloc (.cells #[.int .u32 0] 47)).grownBy w4 (some gu) := HGR4.o
      have hb4 : Below w.heap.size w w4 := hba.grown hgr5 hba.size (by intro k hk; simp only [Option.some.injEq] at hk; have := HGO.o; omega)
      have hatq4 : Nm.At w4 gq Q := Rw.At.grown (Rw.At.alloc HTQ.o _) hgr5 (by simp only [ne_eq, Option.some.injEq]; have := HGO.o; omega)
      have hu0 : Nm.u32s U ++ [Value.int .u32 0] = Nm.u32s (U ++ [0]) := by simp [Nm.u32s]
      have hsl := Sl.of_own HOW4.o
      rw [hu0] at hsl
      have hrt := Nm.right_any A4 (m + (n' + 2) + 1 + 1) c4 w4.heap.size b (n' + 2) (U ++ [0]) w4 (by rw [List.length_append, HUL2.o]; rfl) (by omega) (by omega) (Nat.le_refl _) (fun d hd => by
        rcases List.mem_append.1 hd with h | h
        · exact HUOK2.o d h
        · simp at h; omega) hsl hb31
      rw [show ((n' + 2 : Nat) : Int) = (n' : Int) + 2 by omega, HR.o] at hrt
      have HRT := hy' hrt
      have HB4 := hy' hb4
      have HTQ4 := hy' hatq4
      clear hba hb4 hatq4 hu0 hsl hrt hgr5
      refine HRT.o.mono ?_
      rintro e w5 ⟨g', R, rfl, hRl, hRok, hRv, hatr, hb5⟩
      have HRL := hy' hRl
      have HROK := hy' hRok
      have HRV := hy' hRv
      have HATR := hy' hatr
      have HTQ5 := hy' (HTQ4.o.below hb5)
      have HB5 := hy' (HB4.o.trans (hb5.mono HB4.o.size))
      clear hRl hRok hRv hatr hb5
      go_wp2_with fail
      go_ret2
      exact ⟨gq, g', _, Q, R, rfl, HQL.o, HRL.o, HQOK.o, HROK.o, HK1.o, HRV.o, HTQ5.o, HATR.o, HB5.o⟩
    · have ek : ((j + 1 : Nat) : Int) - 1 = j := by omega
      rw [ek]
      have jg : (j : Int) ≥ 0 := by omega
      obtain ⟨wq, rfl⟩ : ∃ q : World, q = wr := ⟨_, rfl⟩
      go_upto_region 9 with (fail)
      have hnc : ¬ (m + (n' + 2) + 1 = j + n') := by omega
      have hgv1 : Vl[n' + 1]? = some (Vl.getD (n' + 1) 0) := Nm.get_of (by rw [HVL.o]; omega)
      have hgv0 : Vl[n']? = some (Vl.getD n' 0) := Nm.get_of (by rw [HVL.o]; omega)
      obtain ⟨v1, hv1⟩ : ∃ v, Vl.getD (n' + 1) 0 = v := ⟨_, rfl⟩
      obtain ⟨v0, hv0⟩ : ∃ v, Vl.getD n' 0 = v := ⟨_, rfl⟩
      rw [hv1] at hgv1
      rw [hv0] at hgv0
      have HG : Hy (∀ W, Below wq.heap.size wq W → (∀ u : Stg.Later Stg.Ex W, u.val.cell? ⟨gv, n' + 1, none⟩ = some (.int .u32 (v1 : Int))) ∧ (∀ u : Stg.Later Stg.Ex W, u.val.cell? ⟨gv, n', none⟩ = some (.int .u32 (v0 : Int)))) := hy' fun W hW =>
        have h0 := HTV.o.below hW
        ⟨Stg.cells (h0.cell hgv1) h0.lt, Stg.cells (h0.cell hgv0) h0.lt⟩
      have HV1G := hy' hgv1
      have HV0G := hy' hgv0
      have HQQ0 := hy' (Below.refl wq.heap.size wq).drew
      have hVd1 : V / 4294967296 ^ (n' + 1) % 4294967296 = v1 := by rw [← HVV.o, Nm.digit HVOK.o]; exact hv1
      have hVd0 : V / 4294967296 ^ n' % 4294967296 = v0 := by rw [← HVV.o, Nm.digit HVOK.o]; exact hv0
      obtain ⟨u2, hu2⟩ : ∃ u, Nm.val U / 4294967296 ^ (j + n' + 2) % 4294967296 = u := ⟨_, rfl⟩
      obtain ⟨u1, hu1⟩ : ∃ u, Nm.val U / 4294967296 ^ (j + n' + 1) % 4294967296 = u := ⟨_, rfl⟩
      obtain ⟨u0, hu0⟩ : ∃ u, Nm.val U / 4294967296 ^ (j + n') % 4294967296 = u := ⟨_, rfl⟩
      have huse := fun q => Nm.guess_use (q := q) HULT.o HV1.o HV2.o hu2 hu1 hu0 hVd1 hVd0
      have HUSE := hy' huse
      have HGS := hy' (fun W (hW : Below wq.heap.size wq W) => Nm.guess_any gu (j + (n' + 2) - 2) (m + (n' + 2) + 1 - (j + (n' + 2) - 2)) (m + (n' + 2) + 1 - (j + (n' + 2) - 2)) u2 u1 u0 v1 v0 W (by omega) (by omega) (Nat.lt_of_lt_of_le HTU.o.lt hW.size)
        ((HTU.o.below hW).cell (by rw [Nm.get_of (show j + (n' + 2) - 2 < U.length by rw [HUL2.o]; omega), ← Nm.digit HUOK2.o, show j + (n' + 2) - 2 = j + n' by omega, hu0]))
        ((HTU.o.below hW).cell (by rw [Nm.get_of (show j + (n' + 2) - 2 + 1 < U.length by rw [HUL2.o]; omega), ← Nm.digit HUOK2.o, show j + (n' + 2) - 2 + 1 = j + n' + 1 by omega, hu1]))
        ((HTU.o.below hW).cell (by rw [Nm.get_of (show j + (n' + 2) - 2 + 2 < U.length by rw [HUL2.o]; omega), ← Nm.digit HUOK2.o, show j + (n' + 2) - 2 + 2 = j + n' + 2 by omega, hu2]))
        (by rw [← hu2]; exact Nat.mod_lt _ (by decide)) (by rw [← hu1]; exact Nat.mod_lt _ (by decide)) (by rw [← hu0]; exact Nat.mod_lt _ (by decide)) (by rw [← hVd1]; exact Nat.mod_lt _ (by decide)) (by rw [← hVd0]; exact Nat.mod_lt _ (by decide)) (huse 0).1 (huse 0).2.1)
      have nn : (0 : Int) ≤ (n' : Int) + 2 - 2 := by omega
      have nn2 : (n' : Int) + 2 - 2 < (n' : Int) + 2 := by omega
      have nn1 : (n' : Int) + 2 - 1 < (n' : Int) + 2 := by omega
      clear hgv1 hgv0 hv1 hv0 hVd1 hVd0 hu2 hu1 hu0 huse
      refine Stg.wp_region (by kernel_rfl) Stg.Ex Stg.Ex.rel ?_
      refine Stg.readW (by kernel_rfl) ?_; intro K hK; go_big_quiet_op; go_big_quiet_on
      refine Stg.readW (by kernel_rfl) ?_; intro K hK; go_big_quiet_op; go_big_quiet_on
      refine Stg.readW (by kernel_rfl) ?_; intro K hK; go_big_quiet_op; go_big_quiet_on
      refine Stg.readW (by kernel_rfl) ?_; intro K hK; go_big_quiet_op; go_big_quiet_on
      refine Stg.readW (by kernel_rfl) ?_; intro K hK; go_big_quiet_op; go_big_quiet_on
      refine Stg.readW (by kernel_rfl) ?_; intro K hK; go_big_quiet_op; go_big_quiet_on
      refine Stg.readW (by kernel_rfl) ?_; intro K hK; go_big_quiet_op; go_big_quiet_on
      refine Stg.readW (by kernel_rfl) ?_; intro K hK; go_big_quiet_op; go_big_quiet_on
      refine Stg.readW (by kernel_rfl) ?_; intro K hK; go_big_quiet_op; go_big_quiet_on
      refine Stg.readW (by kernel_rfl) ?_; intro K hK; go_big_quiet_op; go_big_quiet_on
      obtain ⟨f0, f1⟩ := HG.o wq.drew HQQ0.o
      refine Stg.read 0 (by kernel_rfl) wq.drew rfl ?_; intro K hK; go_big_quiet_op; go_big_quiet_on
      refine Stg.readW (by kernel_rfl) ?_; intro K hK; go_big_quiet_op; go_big_quiet_on
      refine Stg.readW (by kernel_rfl) ?_; intro K hK; go_big_quiet_op; go_big_quiet_on
      refine Stg.readW (by kernel_rfl) ?_; intro K hK; go_big_quiet_op; go_big_quiet_on
      refine Stg.readW (by kernel_rfl) ?_; intro K hK; go_big_quiet_op; go_big_quiet_on
      refine Stg.read 0 (by kernel_rfl) wq.drew rfl ?_; intro K hK; go_big_quiet_op; go_big_quiet_on
      refine Stg.call 37 _ _ rfl Tryd.func37 [.slice (some ⟨gu, j + (n' + 2) - 2, none⟩) (m + (n' + 2) + 1 - (j + (n' + 2) - 2)) (m + (n' + 2) + 1 - (j + (n' + 2) - 2)), .int .u32 (v1 : Int), .int .u32 (v0 : Int)] rfl wq.drew _ (HGS.o wq.drew HQQ0.o) (by kernel_rfl) rfl ?_
      rintro e wz1 ⟨q, rfl, hq1, hq2, hq3, hb⟩; refine ⟨_, rfl, hb, ?_⟩; have HQQ1 := hy' (HQQ0.o.trans (hb.mono HQQ0.o.size)); have HQA := hy' hq1; have HQB := hy' hq2; have HQC := hy' hq3; clear hq1 hq2 hq3; clear hb; intro A' hA'; simp only [Act.put, List.setIfInBounds_toArray, List.set_cons_succ, List.set_cons_zero] at hA'; subst hA'
      refine Stg.readW (by kernel_rfl) ?_; intro K hK; go_big_quiet_op; go_big_quiet_on
      clear f0 f1
      refine Stg.nil wz1 rfl ?_
      have hQd := HUSE.o q
      obtain ⟨_, _, hUw, hqq⟩ := hQd
      obtain ⟨hq1, hq2⟩ := hqq HQA.o HQB.o HQC.o
      have HUW := hy' hUw
      have HQ1 := hy' hq1
      have HQ2 := hy' hq2
      have hatu1 := HTU.o.below HQQ1.o
      have hatv1 := HTV.o.below HQQ1.o
      have hatq1 := HTQ.o.below HQQ1.o
      have HTU1 := hy' hatu1
      have HTV1 := hy' hatv1
      have HTQ1 := hy' hatq1
      have HBE1 := hy' (HBE.o.trans (HQQ1.o.mono HBE.o.size))
      have qI0 : (0 : Int) ≤ q := by omega
      have qI1 : (q : Int) ≤ 4294967296 := by have := HQA.o; omega
      clear hUw hqq hq1 hq2 hatu1 hatv1 hatq1
      have hVt : Nm.val (Vl.take (n' + 2)) = V := by rw [Nm.take_low HVOK.o (by rw [HVV.o]; exact HV2.o) (by rw [HVL.o]; omega), HVV.o]
      have HVT := hy' hVt
      have HTK := hy' (Nm.take_any gu j (j + (n' + 2) + 1 - j) (m + (n' + 2) + 1 - j) gv (n' + 2) (n' + 2 + 1) q U Vl wz1 HTU1.o HTV1.o (by have := HGO.o; omega) (by rw [HUL2.o]; omega) (by omega) (by omega) (by rw [HVL.o]; omega) HUOK2.o HVOK.o HQA.o)
      have hUlt3 := Nm.long_lt HULT.o HV2.o
      have HU3 := hy' hUlt3
      obtain ⟨Qd, hQd⟩ : ∃ k, Nm.val U / 4294967296 ^ j / V = k := ⟨_, rfl⟩
      have HQD := hy' hQd
      clear hVt hUlt3 hQd
      go_wp2_with fail
      refine HTK.o.mono ?_
      rintro e w5 ⟨b', U', rfl, hb', hUl', hUok', hUf', hUv', hatu', hgr'⟩
      rw [HVT.o, show j + (j + (n' + 2) + 1 - j) = j + (n' + 3) by omega, Nat.pow_add] at hUv'
      have hUt : Nm.val U' < 4294967296 ^ j * 4294967296 ^ (n' + 3) := by
        rw [← Nat.pow_add]
        refine Nm.lt_top hUok' fun i hi => ?_
        rw [hUf' i (.inr (by omega))]
        exact Nm.top_zero HUOK2.o HU3.o (by omega)
      have hVpos : 0 < V := by have := HV1.o; have := Nat.pow_pos (n := n' + 1) (show 0 < 4294967296 by decide); omega
      have hkn := Nm.knuth (Nat.pow_pos (n := j) (show 0 < 4294967296 by decide)) rfl hVpos HQ1.o HQ2.o hUt hb' hUv'
      rw [HQD.o] at hkn
      have HKN := hy' hkn
      have HUT := hy' hUt
      have HUV' := hy' hUv'
      have HUL' := hy' hUl'
      have HUOK' := hy' hUok'
      have HUF' := hy' hUf'
      have HATU' := hy' hatu'
      have HTV5 := hy' (HTV1.o.grown hgr' (by have := HGO.o; omega))
      have HTQ5 := hy' (HTQ1.o.grown hgr' (by have := HGO.o; omega))
      have HBE5 := hy' (HBE1.o.grown hgr' HBE1.o.size (by intro k hk; simp only [Option.some.injEq] at hk; have := HGO.o; omega))
      have qI : q ≤ Qd + 1 := by have := HQ2.o; rw [HQD.o] at this; exact this
      clear hkn hUt hUv' hUl' hUok' hUf' hatu' hgr'
      rcases b' with _ | b'
      · obtain ⟨hqe, hUe⟩ := HKN.o.1 rfl
        obtain rfl : Qd = q := hqe.symm
        have HUE := hy' hUe
        clear hUe
        have hQl2 : Q.length = m + 1 := HQL.o
        have hgo : Q[j]? = some (Q.getD j 0) := Nm.get_of (by rw [hQl2]; omega)
        have hcq := (HTQ5.o).cell hgo
        have hfq := Rw.At.frozen (HTQ5.o) j
        have hlq := (HTQ5.o).lt
        have hset := Nm.val_set (l := Q) (i := j) (d := Qd) (by rw [hQl2]; omega)
        rw [HQZ.o j (by omega), Nat.mul_zero, Nat.add_zero] at hset
        have hinv := Nm.long_inv HUQ.o HUE.o hset
        have hless := Nm.knuth_rest (U := Nm.val U) (V := V) (Nat.pow_pos (n := j) (show 0 < 4294967296 by decide)) hVpos (by rw [HQD.o]; exact HUE.o)
        have HINV := hy' hinv
        have HLESS := hy' hless
        have HATQ9 := hy' ((HTQ5.o).set j Qd)
        have hQdl : Qd < 4294967296 := by rw [← HQD.o]; exact (Nat.div_lt_iff_lt_mul (by have := HV1.o; have := Nat.pow_pos (n := n' + 1) (show 0 < 4294967296 by decide); omega)).2 HUW.o
        have qd0 : (0 : Int) ≤ Qd := by omega
        have qd1 : (Qd : Int) < 4294967296 := by omega
        have qd2 : (Qd : Int) % 4294967296 = Qd := by omega
        have jm : (j : Int) < (m : Int) + 1 := by omega
        clear hgo hset hinv hless
        go_wp2_with fail
        exact ⟨⟨j, U', Q.set j Qd, by first | rfl | go_num, by omega, by rw [HUL'.o]; exact HUL2.o, HUOK'.o, HLESS.o, by rw [List.length_set]; exact hQl2, Nm.ok_set HQOK.o hQdl, fun i hi => by rw [Nm.getD_set_ne (by omega)]; exact HQZ.o i (by omega), HINV.o, (HTV5.o).grown (Rw.grown_set gq j _) (by have := HGO.o; omega), (HATU'.o).grown (Rw.grown_set gq j _) (by have := HGO.o; omega), HATQ9.o, Nm.bel_set (HBE5.o) (by have := HGO.o; omega) _ _⟩, by first | (simp [intOf]; done) | (simp [intOf]; omega)⟩
      · obtain rfl : b' = 0 := by omega
        have hqe := HKN.o.2 rfl
        subst hqe
        have HBK := hy' (Nm.back_any gu j (j + (n' + 2) + 1 - j) (m + (n' + 2) + 1 - j) gv (n' + 2) (n' + 2 + 1) U' Vl w5 HATU'.o HTV5.o (by have := HGO.o; omega) (by rw [HUL'.o, HUL2.o]; omega) (by omega) (by omega) (by rw [HVL.o]; omega) HUOK'.o HVOK.o)
        have q1 : (1 : Int) ≤ ((Qd + 1 : Nat) : Int) := by omega
        have q1' : ((Qd + 1 : Nat) : Int) - 1 = Qd := by omega
        go_wp2_with fail
        refine HBK.o.mono ?_
        rintro e w6 ⟨cy, U'', rfl, hUl'', hUok'', hUf'', hUv'', hatu'', hgr''⟩
        rw [HVT.o, show j + (j + (n' + 2) + 1 - j) = j + (n' + 3) by omega, Nat.pow_add] at hUv''
        have hUt2 : Nm.val U'' < 4294967296 ^ j * 4294967296 ^ (n' + 3) := by
          rw [← Nat.pow_add]
          refine Nm.lt_top hUok'' fun i hi => ?_
          rw [hUf'' i (.inr (by omega)), HUF'.o i (.inr (by omega))]
          exact Nm.top_zero HUOK2.o HU3.o (by omega)
        have hVT3 : V ≤ 4294967296 ^ (n' + 3) := Nat.le_of_lt (Nat.lt_of_lt_of_le HV2.o (Nat.pow_le_pow_right (by decide) (by omega)))
        have hUV1 := HUV'.o
        simp only [Nat.zero_add, Nat.mul_one] at hUV1
        have hUe := Nm.knuth_back (Nat.pow_pos (n := j) (show 0 < 4294967296 by decide)) hVpos hVT3 HQD.o.symm hUV1 hUv'' hUt2
        have HUE := hy' hUe
        have HUL6 := hy' hUl''
        have HUOK6 := hy' hUok''
        have HATU6 := hy' hatu''
        have HTV6 := hy' (HTV5.o.grown hgr'' (by have := HGO.o; omega))
        have HTQ6 := hy' (HTQ5.o.grown hgr'' (by have := HGO.o; omega))
        have HBE6 := hy' (HBE5.o.grown hgr'' HBE5.o.size (by intro k hk; simp only [Option.some.injEq] at hk; have := HGO.o; omega))
        clear hUl'' hUok'' hUf'' hUv'' hatu'' hgr'' hUt2 hVT3 hUV1 hUe q1 q1'
        have hQl2 : Q.length = m + 1 := HQL.o
        have hgo : Q[j]? = some (Q.getD j 0) := Nm.get_of (by rw [hQl2]; omega)
        have hcq := (HTQ6.o).cell hgo
        have hfq := Rw.At.frozen (HTQ6.o) j
        have hlq := (HTQ6.o).lt
        have hset := Nm.val_set (l := Q) (i := j) (d := Qd) (by rw [hQl2]; omega)
        rw [HQZ.o j (by omega), Nat.mul_zero, Nat.add_zero] at hset
        have hinv := Nm.long_inv HUQ.o HUE.o hset
        have hless := Nm.knuth_rest (U := Nm.val U) (V := V) (Nat.pow_pos (n := j) (show 0 < 4294967296 by decide)) hVpos (by rw [HQD.o]; exact HUE.o)
        have HINV := hy' hinv
        have HLESS := hy' hless
        have HATQ9 := hy' ((HTQ6.o).set j Qd)
        have hQdl : Qd < 4294967296 := by rw [← HQD.o]; exact (Nat.div_lt_iff_lt_mul (by have := HV1.o; have := Nat.pow_pos (n := n' + 1) (show 0 < 4294967296 by decide); omega)).2 HUW.o
        have qd0 : (0 : Int) ≤ Qd := by omega
        have qd1 : (Qd : Int) < 4294967296 := by omega
        have qd2 : (Qd : Int) % 4294967296 = Qd := by omega
        have jm : (j : Int) < (m : Int) + 1 := by omega
        clear hgo hset hinv hless
        go_wp2_with fail
        exact ⟨⟨j, U'', Q.set j Qd, by first | rfl | go_num, by omega, by rw [HUL6.o, HUL'.o]; exact HUL2.o, HUOK6.o, HLESS.o, by rw [List.length_set]; exact hQl2, Nm.ok_set HQOK.o hQdl, fun i hi => by rw [Nm.getD_set_ne (by omega)]; exact HQZ.o i (by omega), HINV.o, (HTV6.o).grown (Rw.grown_set gq j _) (by have := HGO.o; omega), (HATU6.o).grown (Rw.grown_set gq j _) (by have := HGO.o; omega), HATQ9.o, Nm.bel_set (HBE6.o) (by have := HGO.o; omega) _ _⟩, by first | (simp [intOf]; done) | (simp [intOf]; omega)⟩
end Go.Proofs.YthcdecncnppjaaaDoor
