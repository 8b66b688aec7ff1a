/- The law ModelLong, by walking its text. -/
import Derived.Test.YtamcpdggpdaioaaDoorMdAwake
import Derived.Test.YtamcpdggpdaioaaDoorMdOwn
import Derived.Test.YtamcpdggpdaioaaDoorMdLong
import Derived.Test.YtamcpdggpdaioaaDoorRwFlI
import Derived.WalkLawsBesides
import Derived.ProofKit
import Derived.OpenShut
import Derived.Deep.DeepHandedRow
import Derived.Lib.LaidTab
import Derived.LaidMore
import Derived.LaidLaws
import Derived.LaidHandle
namespace Go.Proofs.YtamcpdggpdaioaaDoor
open Go.RowKit
set_option linter.unusedSimpArgs false
set_option linter.unusedVariables false

set_option maxRecDepth 100000 in
set_option maxHeartbeats 4000000 in
theorem Md.long_row (w : World) (n k : Int) (n1 : -9223372036854775808 ≤ n) (n2 : n ≤ 9223372036854775807) (k1 : -9223372036854775808 ≤ k) (k2 : k ≤ 9223372036854775807) (hL : F.LaidE w) :
    Calls Tryd.prog 3 #[.int .i64 n, .int .i64 k] w fun e w' => e = .returned (.bool true) ∧ Below w.heap.size w w' := by
  obtain ⟨N, hN⟩ : ∃ N : Nat, max 1 (min n 60) = (N : Int) := ⟨(max 1 (min n 60)).toNat, by omega⟩
  obtain ⟨K, hK⟩ : ∃ K : Nat, max 0 (min k 59) = (K : Int) := ⟨(max 0 (min k 59)).toNat, by omega⟩
  have hN1 : 1 ≤ N := by omega
  have hN2 : N ≤ 60 := by omega
  have hK2 : K ≤ 59 := by omega
  obtain ⟨j0, hj0, hy0, hy1, hy2⟩ := info_parts infoRowI
  go_enter Tryd.func3, Tryd.ntmps3
  go_wp2_with fail
  refine (Md.awake_any _).mono ?_
  rintro e w1 ⟨rfl, hb1⟩
  have HB1 := Lib.hid hb1
  have HL := Lib.hid (hL.next hb1)
  clear hb1 hL
  go_wp2_with fail
  clear hN hK
  have hat0 := Rw.At.new w1 26 [.slice none 0 0, .slice none 0 0]
  have hba : Below w1.heap.size w1 (w1.alloc (.cells #[.slice none 0 0, .slice none 0 0] 26)) := (Below.refl _ _).alloc (Nat.le_refl _) _
  have hlt0 := hat0.lt
  obtain ⟨wa, hwa⟩ : ∃ wa, w1.alloc (.cells #[.slice none 0 0, .slice none 0 0] 26) = wa := ⟨_, rfl⟩
  have hat0' : Rw.At wa w1.heap.size 26 [.slice none 0 0, .slice none 0 0] := by rw [← hwa]; exact hat0
  rw [hwa] at hba hlt0 ⊢
  have HBA := Lib.hid hba
  clear hat0 hwa hba
  go_loopw [18] (fun i wr => ∃ (j : Nat) (v : Value) (ads : List (Option Addr × Nat)), j ≤ N ∧ i = .int .i64 j ∧ Rw.At wr w1.heap.size 26 [v, .slice none 0 0] ∧ ads.length = j ∧ wr.ownsRow (w1.heap.size + 1) 28 3 v j (Rw.flI (Md.chain j) ads) ∧ Rw.MapsI wr (Md.chain j) ads ∧ Below w1.heap.size wa wr) (fun i _ => N - (intOf i).toNat)
  case atStart => exact ⟨0, .slice none 0 0, [], Nat.zero_le _, rfl, hat0', rfl, World.ownsRow_nil _ _ _ _, fun i r a h => by simp [Md.chain] at h, Below.refl _ _⟩
  case round =>
    obtain ⟨j, v, ads, hj, rfl, hat, hads, hown, hmaps, hbel⟩ := hrel
    have hzr : w1.heap.size + 1 ≤ wr.heap.size := hat.lt
    by_cases hlt : j < N
    · have jI : (j : Int) < N := by omega
      have e1 : IntKind.i64.wrap (16384 + (j : Int)) = 16384 + (j : Int) := by rw [IntKind.wrap_i64]; omega
      have e2 : IntKind.i64.wrap (16384 + (j : Int) + 1) = 16384 + (j : Int) + 1 := by rw [IntKind.wrap_i64]; omega
      obtain ⟨wb, hwb⟩ : ∃ wb, (wr.alloc (.cells #[.int .i64 (16384 + (j : Int) + 1), .int .i64 12288] 3)).alloc (.cells #[.int .i64 (16384 + (j : Int)), .int .i64 0, .slice (some ⟨wr.heap.size, 0, none⟩) 2 2] 28) = wb := ⟨_, rfl⟩
      have hbb : Below wr.heap.size wr wb := by rw [← hwb]; exact ((Below.refl _ _).alloc (Nat.le_refl _) _).alloc (by simp) _
      have hatm : Rw.At wb wr.heap.size 3 [.int .i64 (16384 + (j : Int) + 1), .int .i64 12288] := by rw [← hwb]; exact (Rw.At.new wr 3 [.int .i64 (16384 + (j : Int) + 1), .int .i64 12288]).alloc _
      have hnew : Sl wb wb.heap.size (some ⟨wr.heap.size + 1, 0, none⟩) [.int .i64 (16384 + (j : Int)), .int .i64 0, .slice (some ⟨wr.heap.size, 0, none⟩) 2 2] := by
        refine Sl.lit rfl 28 (0, 0) ?_
        have h := heap_alloc_new (wr.alloc (.cells #[.int .i64 (16384 + (j : Int) + 1), .int .i64 12288] 3)) (.cells #[.int .i64 (16384 + (j : Int)), .int .i64 0, .slice (some ⟨wr.heap.size, 0, none⟩) 2 2] 28)
        rw [World.size_alloc] at h
        rw [← hwb]; exact h
      have hownb := own_below hown hbb (Nat.le_refl _)
      have hatb := hat.below hbb
      have p0 := hat.cell 0 rfl
      have p1 := hat.frozen 0
      have hne := Rw.own_ne hown w1.heap.size (Nat.lt_succ_self _)
      have HWB := Lib.hid hwb
      have HOWNB := Lib.hid hownb
      have HNEW := Lib.hid hnew
      have HATB := Lib.hid hatb
      have HNE := Lib.hid hne
      have HBB := Lib.hid hbb
      have HBEL := Lib.hid hbel
      have HATM := Lib.hid hatm
      have HMB := Lib.hid (hmaps.below hbb)
      have HADS := Lib.hid hads
      have hszb : w1.heap.size + 1 ≤ wb.heap.size := Nat.le_trans hzr hbb.size
      clear hat hown hmaps hbel hbb hatm hnew hownb hatb hne hwb hads hat0'
      go_wp2_with (first | (at_builtin; (rw [HWB.out]); refine wpList_appendSl _ rfl _ _ _ rfl (w1.heap.size + 1) 28 j0 _ 3 40 Tryd.underlying23 hj0 hy0 hy1 hy2 rfl (by omega) v j _ rfl HOWNB.out _ (some ⟨wr.heap.size + 1, 0, none⟩) 1 1 [.int .i64 (16384 + (j : Int)), .int .i64 0, .slice (some ⟨wr.heap.size, 0, none⟩) 2 2] rfl rfl HNEW.out (by simp [Value.oneCell']) (by simp only [maxLen]; omega) (by omega) hszb ?_; intro v1 w4 hown4 hb4 hg4; have hat4 := HATB.out.grown hg4 HNE.out; have y0 := hat4.cell 0 rfl; have y1 := hat4.frozen 0; have y2 := hat4.lt; obtain ⟨A4, c4, rfl⟩ := own_form hown4) | fail)
      have hS := HATM.out.slt
      have m1 := ((HMB.out.grown hg4 (Rw.own_not HOWNB.out (by decide))).grown (Rw.grown_set w1.heap.size 0 (.slice A4 (j + 1) c4)) (by intro q hq; cases hq; exact hat4.not (by decide)))
      have m2 := ((hS.grown hg4 (Rw.own_not HOWNB.out (by decide))).grown (Rw.grown_set w1.heap.size 0 (.slice A4 (j + 1) c4)) (by intro q hq; cases hq; exact hat4.not (by decide)))
      refine ⟨⟨j + 1, _, ads ++ [(some ⟨wr.heap.size, 0, none⟩, 2)], by omega, by go_num, hat4.set 0 _, by rw [List.length_append, HADS.out]; rfl, ?_, ?_, ?_⟩, by simp [intOf]; omega⟩
      · rw [Md.chain_succ, Rw.flI_app _ _ (Md.link j) _ (by rw [HADS.out, Md.chain_len])]
        exact Rw.own_grown hown4 (Nat.lt_succ_self _) (Rw.grown_set _ 0 _)
      · rw [Md.chain_succ]
        exact m1.app (by rw [HADS.out, Md.chain_len]) m2
      · exact ((HBEL.out.trans (HBB.out.mono (Nat.le_of_succ_le hzr))).trans (hb4.mono (Nat.le_succ _))).setCell (p := ⟨w1.heap.size, 0, none⟩) (Nat.le_refl _) _
    · obtain rfl : N = j := by omega
      obtain ⟨A, c, rfl⟩ := own_form hown
      have hch := Md.chain_len N
      have hbdT : Md.bd (Md.chain N) := by
        intro r hr
        obtain ⟨i, hi, rfl⟩ := Md.chain_mem hr
        refine ⟨by unfold Md.link; constructor <;> (simp only; omega), fun x hx => ?_⟩
        unfold Md.link at hx
        simp only [List.mem_cons, List.not_mem_nil, or_false] at hx
        rcases hx with rfl | rfl <;> omega
      have hml : ∀ r ∈ Md.chain N, r.2.2.length ≤ 1000 := by
        intro r hr
        obtain ⟨i, hi, rfl⟩ := Md.chain_mem hr
        exact (by decide : 2 ≤ 1000)
      have hdoc : Md.Doc wr (.agg #[.slice A N c, .slice none 0 0]) (Md.chain N) [] :=
        ⟨A, c, none, 0, by rw [hch]; rfl, Rw.seesI_mk (by rw [hads, hch]) (Slt.of_own hown) hmaps, Sl.nil _ _ _⟩
      have hO := Md.own_any _ (Md.chain N) [] wr (by rw [hch]; omega) (by decide) hbdT hml (fun x hx => by cases hx) hdoc
      have hc0 : C.chars [] = [] := by decide +kernel
      rw [hc0] at hO
      have hok : Md.rises (Md.chain N) := (Md.rowsBad_zero _ _ (Md.chain_right hN2)).2
      have HOK : Hid (Md.Ok (Md.chain N)) := Lib.hid ⟨by rw [hch]; omega, hok, hbdT, fun r hr => Nat.le_trans (hml r hr) (by decide)⟩
      have HBDT := Lib.hid hbdT
      have HML := Lib.hid hml
      have HCH := Lib.hid hch
      have p0 := hat.cell 0 rfl
      have p1 := hat.cell 1 rfl
      have HBW := Lib.hid (HB1.out.trans ((HBA.out.trans hbel).mono HB1.out.size))
      have HLW := Lib.hid (HL.out.next (HBA.out.trans hbel))
      clear hbdT hml hdoc hc0 hok hch hmaps hown hat hads hbel hlt hat0'
      go_wp2_with fail
      refine hO.mono ?_
      rintro e w2 ⟨v2, rfl, hIs, hb2⟩
      have hIs2 := hIs
      obtain ⟨A2, c2, XA2, xc2, rfl, _, _⟩ := hIs
      have hB2 := HBW.out.trans (hb2.mono HBW.out.size)
      have HL2 := Lib.hid (HLW.out.next hb2)
      unfold Md.tv at hIs2 ⊢
      rw [HCH.out] at hIs2 ⊢
      have hbm : Below w2.heap.size w2 (w2.alloc (.cells #[.slice A2 N c2, .slice XA2 0 xc2] 34)) := (Below.refl _ _).alloc (Nat.le_refl _) _
      have hatm : Rw.At (w2.alloc (.cells #[.slice A2 N c2, .slice XA2 0 xc2] 34)) w2.heap.size 34 [.slice A2 N c2, .slice XA2 0 xc2] := Rw.At.new w2 34 [.slice A2 N c2, .slice XA2 0 xc2]
      have hIsm := hIs2.below hbm
      have hC := Md.check_any _ (Md.chain N) [] _ HOK.out.1 HBDT.out HOK.out.2.2.2 hIsm List.Pairwise.nil (by decide)
      have hck := Md.chain_chk (C.mem []) hN2
      obtain ⟨ck, hckv⟩ : ∃ ck, Md.chk (Md.chain N) (C.mem []) = ck := ⟨_, rfl⟩
      rw [hckv] at hC hck
      have k0 := hatm.cell 0 rfl
      have k1 := hatm.cell 1 rfl
      have HBM := Lib.hid (hB2.trans (hbm.mono hB2.size))
      have HLM := Lib.hid (HL2.out.next hbm)
      have HISM := Lib.hid hIsm
      have HATM := Lib.hid hatm
      have HCK := Lib.hid hck
      clear hIs2 hb2 hB2 hbm hatm hIsm hck hckv hO p0 p1
      go_wp2_with fail
      refine hC.mono ?_
      rintro e w3 ⟨q, v3, rfl, hq, hqv, hb3⟩
      have HB3 := Lib.hid (HBM.out.trans (hb3.mono HBM.out.size))
      have hat3 := HATM.out.below hb3
      have l0 := hat3.cell 0 rfl
      have l1 := hat3.cell 1 rfl
      have hIs3 := HISM.out.below hb3
      have hL3 := HLM.out.next hb3
      by_cases hbig : N + 1 ≤ 32
      · have hck0 : ck = 0 := by rw [HCK.out, if_pos hbig]
        subst hck0
        obtain rfl : q = [] := by
          cases q with
          | nil => rfl
          | cons x l => simp [F.lk, Md.err] at hq
        obtain rfl : v3 = .nilIface := hqv
        obtain ⟨M, hM⟩ : ∃ M : Nat, min (K : Int) ((N : Int) - 1) = (M : Int) := ⟨min K (N - 1), by omega⟩
        have hMN : M ≤ N := by omega
        have e1 : IntKind.i64.wrap (16384 + (M : Int)) = 16384 + (M : Int) := by rw [IntKind.wrap_i64]; omega
        have e2 : IntKind.i32.wrap (16384 + (M : Int)) = 16384 + (M : Int) := by rw [IntKind.wrap_i32]; omega
        have e3 : IntKind.i64.wrap ((N : Int) - M + 1) = (N : Int) - M + 1 := by rw [IntKind.wrap_i64]; omega
        have hF := Md.full_any _ (Md.chain N) [] (16384 + (M : Int)) w3 HOK.out hIs3 (by omega) (by omega)
        have hfu := Md.chain_full hN2 hMN
        rw [if_pos (by omega)] at hfu
        rw [hfu, Option.getD_some] at hF
        have hbg : ¬ (32 : Int) < (N : Int) + 1 := by omega
        clear hIs3 hL3 hb3 hq hat3 hfu hC k0 k1
        go_wp2_with fail
        refine hF.mono ?_
        rintro e w4 ⟨A4, c4, rfl, _, hb4⟩
        have HB4 := Lib.hid (HB3.out.trans (hb4.mono HB3.out.size))
        have hlen : ((16384 + (N : Int)) :: List.replicate (N - M) 12288).length = N - M + 1 := by simp
        rw [hlen]
        clear hb4 hF l0 l1 hlen
        go_wp2_with fail
        go_ret
        exact ⟨ret_bool (by simp; omega), HB4.out⟩
      · have hck4 : ck = 4 := by rw [HCK.out, if_neg hbig]
        rw [hck4] at hq
        have hcode := F.codeE_any w3.heap.size q v3 w3 hL3 (Nat.le_refl _) hqv
        rw [hq, show F.code (Md.err 4) = 8 from rfl] at hcode
        have hbg : (32 : Int) < (N : Int) + 1 := by omega
        clear hIs3 hL3 hb3 hq hat3 hC k0 k1 l0 l1 hck4 hqv
        go_wp2_with fail
        refine hcode.mono ?_
        rintro e w4 ⟨rfl, hb4⟩
        have HB4 := Lib.hid (HB3.out.trans (hb4.mono HB3.out.size))
        clear hb4 hcode
        go_wp2_with fail
        go_ret
        exact ⟨rfl, HB4.out⟩
end Go.Proofs.YtamcpdggpdaioaaDoor

/- What the rows' list gives: errors' type 'error'; and a world that meets the list. -/
namespace Go.Proofs.YtamcpdggpdaioaaDoor
open Go.ChangeShapes Go.WideShapes Go.ChangeAt Go.RowKit
set_option linter.unusedVariables false
set_option linter.unusedSimpArgs false

theorem F.gType : Tryd.prog.globalNamed "errors.errorType" = some 0 := by kernel_rfl
theorem F.rtype : (Tryd.prog.cutTypes.find? (·.1 == "internal/reflectlite.rtype")).map (·.2) = some 112 := by kernel_rfl
theorem F.oneRow : ((List.range 176).filter fun t => Tryd.prog.rowNamed t [101, 114, 114, 111, 114]) = [37] := by kernel_rfl
theorem F.typesSize : Tryd.prog.types.size = 176 := by kernel_rfl
theorem F.laidE_of {W : World} (h : laidMetH Tryd.prog [("errors.errorType", Rows.laid_errors_errorType)] W) : F.LaidE W := by
  have h' : laidMet Tryd.prog [] W ∧ handlesMet Tryd.prog [("errors.errorType", Rows.laid_errors_errorType)] W := h
  obtain ⟨_, hH⟩ := h'
  obtain ⟨name, u, ty, e1, e2, e3, e4, e5⟩ := hH _ (List.mem_singleton.2 rfl)
  have en : name = [101, 114, 114, 111, 114] := (Option.some.inj e1).symm
  subst en
  obtain rfl := Option.some.inj (F.rtype.symm.trans e2)
  have hm : ty ∈ (List.range 176).filter fun t => Tryd.prog.rowNamed t [101, 114, 114, 111, 114] := List.mem_filter.2 ⟨List.mem_range.2 (by rw [← F.typesSize]; exact e3), e4⟩
  rw [F.oneRow] at hm
  obtain rfl := List.mem_singleton.1 hm
  have hh : typeHandle Tryd.prog 37 = .pointer (some ⟨1, 37, none⟩) := by kernel_rfl
  rw [hh] at e5
  simpa [F.LaidE] using World.var?_cell F.gType e5 0

def F.putCells (h : Array Obj) (g : Nat) (cs : Array Value) : Array Obj := h.modify g fun
  | .cells _ t frozen => .cells cs t frozen
  | o => o
noncomputable def laidWorld (os : Os) : World :=
  { World.holding Tryd.prog os ⟨#[], #[], []⟩ with heap := F.putCells (World.holding Tryd.prog os ⟨#[], #[], []⟩).heap 0 #[.iface 112 (.agg #[.pointer (some ⟨1, 37, none⟩)])] }
theorem F.laid_data (os : Os) (args : Array Value) : laidMet Tryd.prog [] ((laidWorld os).forCall (fun _ _ => 0) ⟨#[], args, []⟩).memory :=
  laidMet_of_run' 8 (by kernel_rfl) (by kernel_rfl)
theorem laid_met (os : Os) (args : Array Value) : laidMetH Tryd.prog [("errors.errorType", Rows.laid_errors_errorType)] ((laidWorld os).forCall (fun _ _ => 0) ⟨#[], args, []⟩).memory :=
  laidMetH_of_parts (F.laid_data os args) (by kernel_rfl)
end Go.Proofs.YtamcpdggpdaioaaDoor
