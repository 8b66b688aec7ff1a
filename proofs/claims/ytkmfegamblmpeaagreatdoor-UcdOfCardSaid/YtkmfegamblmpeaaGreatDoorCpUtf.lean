/- The layer cpset in plain Lean, more: places found. -/
import Derived.Test.YtkmfegamblmpeaaGreatDoorCpIsPlain
import Derived.Test.YtkmfegamblmpeaaGreatDoorClone
import Derived.Test.YtkmfegamblmpeaaGreatDoorHangul
import Derived.BigQuiet
import Derived.Deep.QuietTactic
import Derived.Test.YtkmfegamblmpeaaGreatDoorMdExp
import Derived.Deep.RegionHeld3
import Derived.Test.YtkmfegamblmpeaaGreatDoorMdTab
namespace Go.Proofs.YtkmfegamblmpeaaGreatDoor
set_option linter.unusedSimpArgs false
set_option linter.unusedVariables false

/-- How many are less; is one of them it? -/
def C.ltN : List Int → Int → Nat
  | [], _ => 0
  | x :: t, d => if x < d then C.ltN t d + 1 else 0
def C.hit (l : List Int) (d : Int) : Bool := l[C.ltN l d]? == some d
theorem C.ltN_le : ∀ (l : List Int) (d : Int), C.ltN l d ≤ l.length
  | [], _ => Nat.le_refl _
  | x :: t, d => by
    show (if x < d then C.ltN t d + 1 else 0) ≤ t.length + 1
    have := C.ltN_le t d
    split <;> omega
theorem C.ltN_lt : ∀ {l : List Int} (_ : C.srt l) {k : Nat} {x : Int}, l[k]? = some x → ∀ d, (x < d ↔ k < C.ltN l d)
  | [], _, k, x, h, d => by simp at h
  | y :: t, hs, 0, x, h, d => by
    simp at h
    subst h
    show _ ↔ 0 < (if y < d then C.ltN t d + 1 else 0)
    split <;> simp_all
  | y :: t, hs, k + 1, x, h, d => by
    have h' : t[k]? = some x := by simpa using h
    have := C.ltN_lt (C.srt_tail hs) h' d
    have hy := C.srt_head hs x (List.mem_of_getElem? h')
    show _ ↔ k + 1 < (if y < d then C.ltN t d + 1 else 0)
    split
    · rw [this]; omega
    · constructor
      · intro hx; omega
      · intro hx; omega
/-- A member: the number of places up to it is odd. -/
theorem C.mem_par : ∀ {l : List Int} (_ : C.srt l) (d : Int), C.mem l d = (((C.ltN l d + (if C.hit l d = true then 1 else 0)) % 2) == 1)
  | [], _, d => rfl
  | x :: t, hs, d => by
    have ih := C.mem_par (C.srt_tail hs) d
    rw [C.mem_cons]
    rcases Int.lt_trichotomy x d with h | h | h
    · have e1 : C.ltN (x :: t) d = C.ltN t d + 1 := by show (if x < d then _ else _) = _; rw [if_pos h]
      have e2 : C.hit (x :: t) d = C.hit t d := by unfold C.hit; rw [e1]; simp
      rw [decide_eq_true (by omega), e1, e2, ih]
      generalize (if C.hit t d = true then 1 else 0) = q
      rcases Nat.mod_two_eq_zero_or_one (C.ltN t d + q) with h0 | h0
      · rw [h0, show (C.ltN t d + 1 + q) % 2 = 1 by omega]; rfl
      · rw [h0, show (C.ltN t d + 1 + q) % 2 = 0 by omega]; rfl
    · subst h
      have e1 : C.ltN (x :: t) x = 0 := by show (if x < x then _ else _) = _; rw [if_neg (by omega)]
      have e2 : C.hit (x :: t) x = true := by unfold C.hit; rw [e1]; simp
      rw [decide_eq_true (by omega), C.mem_low' hs (by omega), e1, e2]; rfl
    · have e1 : C.ltN (x :: t) d = 0 := by show (if x < d then _ else _) = _; rw [if_neg (by omega)]
      have e2 : C.hit (x :: t) d = false := by unfold C.hit; rw [e1]; simp; omega
      rw [decide_eq_false (by omega), e1, e2]; rfl
end Go.Proofs.YtkmfegamblmpeaaGreatDoor

/- The layer cpset: place, Has, by walking their texts. -/
namespace Go.Proofs.YtkmfegamblmpeaaGreatDoor
open Go.RowKit
set_option linter.unusedSimpArgs false
set_option linter.unusedVariables false

theorem C.nanC_any (x : Int) (w : World) : Calls Tryz.prog 129 #[.int .i32 x] w fun e w' => e = .returned (.bool false) ∧ w = w' := by
  go_enter Tryz.func129, Tryz.ntmps129
  go_wp2
  go_ret
  exact ⟨by simp, rfl⟩
set_option maxRecDepth 100000 in
theorem C.lessR_any (x y : Int) (w : World) : Calls Tryz.prog 98 #[.int .i32 x, .int .i32 y] w fun e w' => e = .returned (.bool (decide (x < y))) ∧ w = w' := by
  go_enter Tryz.func98, Tryz.ntmps98
  go_wp2_with fail
  refine (C.nanC_any _ _).mono ?_
  rintro e w1 ⟨rfl, rfl⟩
  go_wp2
  go_ret
  exact ⟨rfl, rfl⟩

set_option maxRecDepth 100000 in
set_option maxHeartbeats 2000000 in
theorem C.search_any (A : Option Addr) (c n B : Nat) (l : List Int) (d : Int) (w : World) (hn : l.length = n) (hn' : n ≤ 1000000) (hs : C.srt l) (hA : Sl w B A (l.map (Value.int .i32))) :
    Calls Tryz.prog 75 #[.slice A n c, .int .i32 d] w (fun e w' => e = .returned (.tuple #[.int .i64 (C.ltN l d : Nat), .bool (C.hit l d)]) ∧ Below w.heap.size w w') := by
  have HN := Lib.hid hn
  have HS := Lib.hid hs
  have hP := C.ltN_le l d
  rw [hn] at hP
  obtain ⟨P, hp⟩ : ∃ P, C.ltN l d = P := ⟨_, rfl⟩
  rw [hp] at hP
  have HP := Lib.hid hp
  clear hn hs hp
  go_enter Tryz.func75, Tryz.ntmps75
  go_wp2
  go_loop [7, 8] (fun vi vj => ∃ i j : Nat, i ≤ P ∧ P ≤ j ∧ j ≤ n ∧ vi = .int .i64 i ∧ vj = .int .i64 j) (fun vi vj => (intOf vj).toNat - (intOf vi).toNat)
  case atStart => exact ⟨0, n, by omega, hP, Nat.le_refl _, rfl, rfl⟩
  case round =>
    obtain ⟨i, j, hi, hj, hjn, rfl, rfl⟩ := hrel
    by_cases hlt : (i : Int) < j
    · obtain ⟨x, hx⟩ : ∃ x, l[(i + j) / 2]? = some x := ⟨_, List.getElem?_eq_getElem (by rw [HN.out]; omega)⟩
      obtain ⟨b, o, rfl, hlb, hc, _⟩ := hA.ints hx
      have hcmp := C.ltN_lt HS.out hx d
      rw [HP.out] at hcmp
      have m0 : (0 : Int) ≤ (((i + j) / 2 : Nat) : Int) := by omega
      have m1 : (((i + j) / 2 : Nat) : Int) < n := by omega
      go_wp2_with fail
      refine (C.lessR_any _ _ _).mono ?_
      rintro e w1 ⟨rfl, rfl⟩
      by_cases hd : x < d
      · have hk := hcmp.1 hd
        have hdd : decide (x < d) = true := decide_eq_true hd
        clear hcmp
        go_wp2
        exact ⟨⟨(i + j) / 2 + 1, j, by omega, by omega, by omega, by go_num, by go_num⟩, by simp [intOf]; omega⟩
      · have hk : ¬ (i + j) / 2 < P := fun h => hd (hcmp.2 h)
        have hdd : decide (x < d) = false := decide_eq_false hd
        clear hcmp
        go_wp2
        exact ⟨⟨i, (i + j) / 2, by omega, by omega, by omega, by go_num, by go_num⟩, by simp [intOf]; omega⟩
    · obtain rfl : i = P := by omega
      obtain rfl : i = j := by omega
      by_cases hin : (i : Int) < n
      · obtain ⟨x, hx⟩ : ∃ x, l[i]? = some x := ⟨_, List.getElem?_eq_getElem (by rw [HN.out]; omega)⟩
        obtain ⟨b, o, rfl, hlb, hc, _⟩ := hA.ints hx
        have hh : C.hit l d = (x == d) := by unfold C.hit; rw [HP.out, hx]; rfl
        have HH := Lib.hid hh
        clear hx hh
        have m0 : (0 : Int) ≤ (i : Int) := by omega
        rcases hxd : (x == d) with _ | _
        · go_wp2
          go_ret2
          rw [HP.out, HH.out, hxd]
          exact ⟨rfl, Below.refl _ _⟩
        · go_wp2
          go_ret2
          rw [HP.out, HH.out, hxd]
          exact ⟨rfl, Below.refl _ _⟩
      · have hh : C.hit l d = false := by
          unfold C.hit
          rw [HP.out, List.getElem?_eq_none (by rw [HN.out]; omega)]
          rfl
        have HH := Lib.hid hh
        clear hh
        go_wp2
        go_ret2
        rw [HP.out, HH.out]
        exact ⟨rfl, Below.refl _ _⟩

def C.plc (l : List Int) (d : Int) : Nat := C.ltN l d + (if C.hit l d = true then 1 else 0)

set_option maxRecDepth 100000 in
set_option maxHeartbeats 1000000 in
theorem C.place_any (A : Option Addr) (c n B : Nat) (l : List Int) (d : Int) (w : World) (hn : l.length = n) (hn' : n ≤ 1000000) (hs : C.srt l) (hB : B ≤ w.heap.size) (hA : Sl w B A (l.map (Value.int .i32))) :
    Calls Tryz.prog 46 #[.agg #[.slice A n c], .int .i32 d] w (fun e w' => e = .returned (.int .i64 (C.plc l d : Nat)) ∧ Below w.heap.size w w') := by
  have HF := Lib.hid (C.search_any A c n B l d)
  have HN := Lib.hid hn
  have HS := Lib.hid hs
  have hP := C.ltN_le l d
  rw [hn] at hP
  have hpl : C.plc l d = C.ltN l d + (if C.hit l d = true then 1 else 0) := rfl
  obtain ⟨P, hp⟩ : ∃ P, C.ltN l d = P := ⟨_, rfl⟩
  obtain ⟨q, hq⟩ : ∃ q, C.hit l d = q := ⟨_, rfl⟩
  rw [hp, hq] at hpl
  rw [hp] at hP
  rw [hp, hq] at HF
  have HPL := Lib.hid hpl
  clear hn hs hp hq hpl
  go_enter Tryz.func46, Tryz.ntmps46
  go_wp2_with fail
  have hal : Below w.heap.size w (w.alloc (.cells #[.slice A n c] 41)) := (Below.refl _ _).alloc (Nat.le_refl _) _
  refine (HF.out _ HN.out hn' HS.out (hA.belowN hal hB (Nat.le_refl _))).mono ?_
  rintro e w1 ⟨rfl, hbel⟩
  have hb1 := hal.trans (hbel.mono (by simp))
  rcases q with _ | _
  · go_wp2
    go_ret
    exact ⟨by rw [HPL.out]; rfl, hb1⟩
  · go_wp2
    go_ret
    exact ⟨by rw [HPL.out]; rfl, hb1⟩

set_option maxRecDepth 100000 in
set_option maxHeartbeats 1000000 in
theorem C.has_any (A : Option Addr) (c n B : Nat) (l : List Int) (d : Int) (w : World) (hn : l.length = n) (hn' : n ≤ 1000000) (hs : C.srt l) (hB : B ≤ w.heap.size) (hA : Sl w B A (l.map (Value.int .i32))) :
    Calls Tryz.prog 19 #[.agg #[.slice A n c], .int .i32 d] w (fun e w' => e = .returned (.bool (C.mem l d)) ∧ Below w.heap.size w w') := by
  have HF := Lib.hid (C.place_any A c n B l d)
  have hP := C.ltN_le l d
  rw [hn] at hP
  have HN := Lib.hid hn
  have HS := Lib.hid hs
  have hm := C.mem_par hs d
  have hpl : C.plc l d ≤ n + 1 := by unfold C.plc; split <;> omega
  change C.mem l d = ((C.plc l d % 2) == 1) at hm
  obtain ⟨q, hq⟩ : ∃ q, C.plc l d = q := ⟨_, rfl⟩
  rw [hq] at HF hm hpl
  have HM := Lib.hid hm
  have hb := C.and_one q (by omega)
  clear hn hs hq hm
  go_enter Tryz.func19, Tryz.ntmps19
  go_wp2_with fail
  have hal : Below w.heap.size w (w.alloc (.cells #[.slice A n c] 41)) := (Below.refl _ _).alloc (Nat.le_refl _) _
  refine (HF.out _ HN.out hn' HS.out (by simp <;> omega) (hA.belowN hal hB (Nat.le_refl _))).mono ?_
  rintro e w1 ⟨rfl, hbel⟩
  have hb1 := hal.trans (hbel.mono (by simp))
  go_wp2
  go_ret
  refine ⟨?_, hb1⟩
  rw [HM.out]
  refine ret_bool ?_
  rw [Bool.eq_iff_iff]
  simp
  omega
end Go.Proofs.YtkmfegamblmpeaaGreatDoor

/- Regions that draw their order and hold calls that make memory but answer one thing: walked once, in the order of the text. -/
namespace Go.Proofs.YtkmfegamblmpeaaGreatDoor
open Go.RowKit
set_option linter.unusedSimpArgs false
set_option linter.unusedVariables false

/-- A world in which all that there was is as it was. -/
structure Ext (w : World) where
  val : World
  below : Below w.heap.size w val
instance (w : World) : Nonempty (Ext w) := ⟨⟨w, Below.refl _ _⟩⟩
theorem Ext.cell {w : World} (x : Ext w) {b : Nat} (o : Nat) (hb : b < w.heap.size) : x.val.cell? ⟨b, o, none⟩ = w.cell? ⟨b, o, none⟩ := (bcell x.below).1 b o hb
theorem Ext.cells {w : World} {b o : Nat} {v : Value} (h : w.cell? ⟨b, o, none⟩ = some v) (hb : b < w.heap.size) : ∀ x : Ext w, x.val.cell? ⟨b, o, none⟩ = some v := fun x => (x.cell o hb).trans h
theorem Ext.call {P : Program} {f : FuncId} {args : Array Value} {w : World} {v : Value} (h : ∀ W, Below w.heap.size w W → Calls P f args W fun e w' => e = .returned v ∧ Below W.heap.size W w') (x : Ext w) :
    Calls P f args x.val fun e w'' => e = .returned v ∧ ∃ y : Ext w, w'' = y.val :=
  (h x.val x.below).mono fun _ w' ⟨he, hb⟩ => ⟨he, ⟨w', x.below.trans (hb.mono x.below.size)⟩, rfl⟩
theorem Ext.same {P : Program} {f : FuncId} {args : Array Value} {w : World} {v : Value} (h : ∀ W, Below w.heap.size w W → Calls P f args W fun e w' => e = .returned v ∧ W = w') (x : Ext w) :
    Calls P f args x.val fun e w'' => e = .returned v ∧ ∃ y : Ext w, w'' = y.val :=
  (h x.val x.below).mono fun _ w' ⟨he, hb⟩ => ⟨he, x, hb.symm⟩
theorem wp_region_ext {P : Program} {id : Nat} {Q : Exit → Act → World → Prop} {a : Act} {w : World} {l : List Oper} (hm : P.follows .mixedOrders = true) (hB : Region.lexB .any l.toArray = true)
    (h : wpQuiet P l.toArray (fun w' => ∃ x : Ext w, w' = x.val) (fun a' => ∀ x : Ext w, Q .normal a' x.val) l a) : (Code.region id l.toArray true).wp P Q a w := by
  refine wp_region_quiet (C := fun w' => ∃ x : Ext w, w' = x.val) hm hB ⟨⟨_, (Below.refl _ _).drew⟩, rfl⟩ ?_
  have : (fun a' => ∀ x : Ext w, Q .normal a' x.val) = (fun a' => ∀ w', (∃ x : Ext w, w' = x.val) → Q .normal a' w') := by
    funext a'
    exact propext ⟨fun h w' ⟨x, hx⟩ => by rw [hx]; exact h x, fun h x => h _ ⟨x, rfl⟩⟩
  rw [← this]
  simpa using h
end Go.Proofs.YtkmfegamblmpeaaGreatDoor

/- The layer model: composite and Primary, by walking their text. -/
namespace Go.Proofs.YtkmfegamblmpeaaGreatDoor
open Go.RowKit
set_option linter.unusedSimpArgs false
set_option linter.unusedVariables false

set_option maxRecDepth 100000 in
set_option maxHeartbeats 2000000 in
theorem Md.comp_any (v : Value) (T : List Rw.Row) (S : List Int) (r : Rw.Row) (aA : Option Addr) (ac : Nat) (w : World) (ok : Md.Ok T) (h : Md.Is w v T S) (hS : C.srt S) (hSn : S.length ≤ 1000000) (hr : -2147483648 ≤ r.1 ∧ r.1 ≤ 2147483647) (hm : ∀ c ∈ r.2.2, -2147483648 ≤ c ∧ c ≤ 2147483647) (hl : r.2.2.length ≤ 1000000) (hM : Sl w w.heap.size aA (r.2.2.map (Value.int .i32))) :
    Calls Tryz.prog 82 #[v, Md.rv r (aA, ac)] w fun e w' => e = .returned (.bool (Md.comp T (C.mem S) r)) ∧ Below w.heap.size w w' := by
  obtain ⟨A, c, XA, xc, rfl, h2, hX⟩ := id h
  obtain ⟨xn, hxn⟩ : ∃ k, S.length = k := ⟨_, rfl⟩
  obtain ⟨n, hn⟩ : ∃ k, T.length = k := ⟨_, rfl⟩
  rw [hn, hxn] at h ⊢
  obtain ⟨ml, hml⟩ : ∃ k, r.2.2.length = k := ⟨_, rfl⟩
  have HML := Lib.hid hml
  unfold Md.rv
  rw [hml] at hl ⊢
  obtain ⟨wa, hwa⟩ : ∃ wa, (w.alloc (.cells #[.slice A n c, .slice XA xn xc] 50)).alloc (.cells #[.int .i32 r.1, .int .i64 r.2.1, .slice aA ml ac] 99) = wa := ⟨_, rfl⟩
  have hbA : Below w.heap.size w wa := by rw [← hwa]; exact ((Below.refl _ _).alloc (Nat.le_refl _) _).alloc (by simp) _
  have hat0 : Rw.At wa w.heap.size 50 [.slice A n c, .slice XA xn xc] := by rw [← hwa]; exact (Rw.At.new w 50 [.slice A n c, .slice XA xn xc]).alloc _
  have hat1 : Rw.At wa (w.heap.size + 1) 99 [.int .i32 r.1, .int .i64 r.2.1, .slice aA ml ac] := by
    have hh := Rw.At.new (w.alloc (.cells #[.slice A n c, .slice XA xn xc] 50)) 99 [.int .i32 r.1, .int .i64 r.2.1, .slice aA ml ac]
    rw [World.size_alloc] at hh
    rw [← hwa]
    exact hh
  have hz1 : w.heap.size + 1 < wa.heap.size := hat1.lt
  have z0 := hat0.cell 0 rfl
  have z1 := hat0.cell 1 rfl
  have y0 := hat1.cell 0 rfl
  have y1 := hat1.cell 1 rfl
  have y2 := hat1.cell 2 rfl
  have HWA := Lib.hid hwa
  have HBA := Lib.hid hbA
  have HIS := Lib.hid (h.below hbA)
  have HX := Lib.hid hX
  have HXN := Lib.hid hxn
  have HSS := Lib.hid hS
  have HMS := Lib.hid hM
  have HMB := Lib.hid hm
  have HOK := Lib.hid ok
  have HAT0 := Lib.hid hat0
  have HAT1 := Lib.hid hat1
  rw [hxn] at hSn
  obtain ⟨cm, hcm⟩ : ∃ b, Md.comp T (C.mem S) r = b := ⟨_, rfl⟩
  rw [hcm]
  have HCM := Lib.hid hcm
  clear hwa hbA h h2 hX hxn hS hM hm hn ok hat0 hat1 hcm hml
  unfold Md.tv
  rcases hb1 : (r.2.1 == 0) with _ | _
  · go_enter Tryz.func82, Tryz.ntmps82
    go_upto_region 1 with (fail)
    rw [HWA.out]
    go_quiet (fail)
    go_wp2_with fail
    go_ret
    have hc : cm = false := by
      rw [← HCM.out]
      unfold Md.comp
      rw [decide_eq_false (by simpa using hb1), Bool.false_and]
    exact ⟨by rw [hc]; rfl, below_drewN HBA.out _⟩
  · rcases hb2 : ((ml : Int) == 2) with _ | _
    · go_enter Tryz.func82, Tryz.ntmps82
      go_upto_region 1 with (fail)
      rw [HWA.out]
      go_quiet (fail)
      go_wp2_with fail
      go_ret
      have hc : cm = false := by
        rw [← HCM.out]
        unfold Md.comp
        have h2 : ¬ r.2.2.length = 2 := fun e => by rw [HML.out] at e; rw [e] at hb2; simp at hb2
        rw [decide_eq_false h2, Bool.false_and, Bool.and_false]
      exact ⟨by rw [hc]; rfl, below_drewN HBA.out _⟩
    · obtain ⟨x, y, hxy⟩ : ∃ x y, r.2.2 = [x, y] := by
        have h2 : r.2.2.length = 2 := by rw [HML.out]; have := beq_iff_eq.1 hb2; omega
        match hh : r.2.2, h2 with
        | [x, y], _ => exact ⟨x, y, rfl⟩
      have hsl := HMS.out.below HBA.out HBA.out.size
      rw [hxy] at hsl
      obtain ⟨ab, ao, hA, hab, hac⟩ := hsl (by simp)
      have hc0 : wa.cell? ⟨ab, ao, none⟩ = some (.int .i32 x) := by simpa using hac 0 (by simp)
      subst hA
      have hxb := HMB.out x (by rw [hxy]; simp)
      have HCL : Hid (∀ W, Below wa.heap.size wa W → Calls Tryz.prog 111 #[.agg #[.slice A n c, .slice XA xn xc], .int .i32 x] W fun e w' => e = .returned (.int .i64 (Md.cls T x)) ∧ Below W.heap.size W w') := Lib.hid fun W hW => Md.class_any _ T S x W HOK.out (HIS.out.below hW) hxb.1 hxb.2
      have HHA : Hid (∀ W, Below wa.heap.size wa W → Calls Tryz.prog 19 #[.agg #[.slice XA xn xc], .int .i32 r.1] W fun e w' => e = .returned (.bool (C.mem S r.1)) ∧ Below W.heap.size W w') := Lib.hid fun W hW => C.has_any XA xc xn w.heap.size S r.1 W HXN.out hSn HSS.out (Nat.le_trans HBA.out.size hW.size) (HX.out.below (HBA.out.trans (hW.mono HBA.out.size)) (Nat.le_refl _))
      have hw0 : Below wa.heap.size wa wa := Below.refl _ _
      have hcm : cm = (decide (Md.cls T x = 0) && !C.mem S r.1) := by
        rw [← HCM.out]
        unfold Md.comp
        rw [decide_eq_true (beq_iff_eq.1 hb1), hxy]
        rfl
      have HCMM := Lib.hid hcm
      have hml3 : 0 < ml := by have := beq_iff_eq.1 hb2; omega
      have hml2 : (0 : Int) < ml := by have := beq_iff_eq.1 hb2; omega
      obtain ⟨q, hq⟩ : ∃ q, Md.cls T x = q := ⟨_, rfl⟩
      rw [hq] at HCL HCMM
      have C1 := Lib.hid (Ext.call HCL.out)
      have C2 := Lib.hid (Ext.call HHA.out)
      have f0 := Ext.cells z0 (Nat.lt_trans (Nat.lt_succ_self _) hz1)
      have f1 := Ext.cells z1 (Nat.lt_trans (Nat.lt_succ_self _) hz1)
      have f2 := Ext.cells y0 hz1
      have f3 := Ext.cells y1 hz1
      have f4 := Ext.cells y2 hz1
      have f5 := Ext.cells hc0 hab
      clear hcm hac hsl hq HCL HHA z0 z1 y0 y1 y2 hc0 hw0
      rcases hb3 : (q == 0) with _ | _
      · have hb4 : decide (q = 0) = false := by simpa using hb3
        have HOO : Hid (cm = false) := Lib.hid (by rw [HCMM.out, hb4]; rfl)
        clear hb4
        go_enter Tryz.func82, Tryz.ntmps82
        go_upto_region 1 with (fail)
        rw [HWA.out]
        refine wp_region_ext (by kernel_rfl) (by kernel_rfl) ?_
        repeat (go_big_quiet_step ((first | (go_at_call 111; with_reducible exact C1.out _) | (go_at_call 19; with_reducible exact C2.out _))))
        refine wpQuiet_nil ?_
        intro xw
        have HBZ := Lib.hid (HBA.out.trans (xw.below.mono HBA.out.size))
        go_wp2_with fail
        go_ret
        exact ⟨by rw [HOO.out]; rfl, HBZ.out⟩
      · have hq0 : q = 0 := beq_iff_eq.1 hb3
        subst hq0
        have HOO : Hid (cm = !C.mem S r.1) := Lib.hid (by rw [HCMM.out]; rfl)
        clear hb3
        go_enter Tryz.func82, Tryz.ntmps82
        go_upto_region 1 with (fail)
        rw [HWA.out]
        refine wp_region_ext (by kernel_rfl) (by kernel_rfl) ?_
        repeat (go_big_quiet_step ((first | (go_at_call 111; with_reducible exact C1.out _) | (go_at_call 19; with_reducible exact C2.out _))))
        refine wpQuiet_nil ?_
        intro xw
        have HBZ := Lib.hid (HBA.out.trans (xw.below.mono HBA.out.size))
        go_wp2_with fail
        go_ret
        exact ⟨by rw [HOO.out]; rfl, HBZ.out⟩
end Go.Proofs.YtkmfegamblmpeaaGreatDoor

/- The layer model: Primary, by walking its text. -/
namespace Go.Proofs.YtkmfegamblmpeaaGreatDoor
open Go.RowKit
set_option linter.unusedSimpArgs false
set_option linter.unusedVariables false

set_option maxRecDepth 100000 in
set_option maxHeartbeats 2000000 in
theorem Md.prim_any (v : Value) (T : List Rw.Row) (S : List Int) (d : Int) (w : World) (ok : Md.Ok T) (h : Md.Is w v T S) (hS : C.srt S) (hSn : S.length ≤ 1000000) (h3 : -2147483648 ≤ d) (h4 : d ≤ 2147483647) :
    Calls Tryz.prog 55 #[v, .int .i32 d] w fun e w' => e = .returned (.bool (Md.prim T (C.mem S) d)) ∧ Below w.heap.size w w' := by
  obtain ⟨A, c, XA, xc, rfl, h2, hX⟩ := id h
  obtain ⟨xn, hxn⟩ : ∃ k, S.length = k := ⟨_, rfl⟩
  obtain ⟨n, hn⟩ : ∃ k, T.length = k := ⟨_, rfl⟩
  rw [hn, hxn] at h ⊢
  have hba : Below w.heap.size w (w.alloc (.cells #[.slice A n c, .slice XA xn xc] 50)) := (Below.refl _ _).alloc (Nat.le_refl _) _
  have hat : Rw.At (w.alloc (.cells #[.slice A n c, .slice XA xn xc] 50)) w.heap.size 50 [.slice A n c, .slice XA xn xc] := Rw.At.new w 50 [.slice A n c, .slice XA xn xc]
  have HF := Lib.hid (Md.find_is d ok (h.below hba) h3 h4)
  have HP := Lib.hid (Hg.pair_any d (w.alloc (.cells #[.slice A n c, .slice XA xn xc] 50)) h3 h4)
  have HCOMP : Hid (∀ (r : Rw.Row) (a : Option Addr × Nat) (W : World), Md.find T d = some r → Below w.heap.size w W → Sl W W.heap.size a.1 (r.2.2.map (Value.int .i32)) →
      Calls Tryz.prog 82 #[.agg #[.slice A n c, .slice XA xn xc], Md.rv r a] W fun e w' => e = .returned (.bool (Md.comp T (C.mem S) r)) ∧ Below W.heap.size W w') := Lib.hid fun r a W hr hW hsl => by
    have hm := (Md.find_some hr).1
    have hb := ok.2.2.1 r hm
    exact Md.comp_any _ T S r a.1 a.2 W ok (h.below hW) hS (by omega) hb.1 hb.2 (ok.2.2.2 r hm) hsl
  have z0 := hat.cell 0 rfl
  have z1 := hat.cell 1 rfl
  have HB := Lib.hid hba
  have HAT := Lib.hid hat
  rcases hpk : Hg.pairK d with ⟨x, y, is⟩
  have hp := HP.out
  rw [hpk] at hp
  have HPK := Lib.hid hpk
  obtain ⟨o, ho⟩ : ∃ o, Md.prim T (C.mem S) d = o := ⟨_, rfl⟩
  rw [ho]
  have HO := Lib.hid ho
  clear h h2 hX hxn hn hba hat hpk HP ho hS ok
  unfold Md.tv at HF ⊢
  cases is
  · go_enter Tryz.func55, Tryz.ntmps55
    go_wp2_with fail
    refine hp.mono ?_
    rintro e w0 ⟨rfl, rfl⟩
    go_wp2_with fail
    refine HF.out.mono ?_
    rintro e w1 ⟨a, rfl, hsl, hb1⟩
    have HB1 := Lib.hid (HB.out.trans (hb1.mono HB.out.size))
    have hat1 := HAT.out.below hb1
    have HAT1 := Lib.hid hat1
    have k0 := hat1.cell 0 rfl
    have k1 := hat1.cell 1 rfl
    have hlt := hat1.lt
    have HSL := Lib.hid hsl
    clear hb1 hsl z0 z1 hp hat1 HF
    rcases hfi : Md.find T d with _ | r
    · have hro : Md.rowOf T d = (0, 0, []) := by unfold Md.rowOf; rw [hfi]; rfl
      have hoo : o = false := by
        rw [← HO.out]
        unfold Md.prim
        rw [HPK.out, hfi]
        rfl
      have HOO := Lib.hid hoo
      rw [hro]
      clear hro hfi hoo
      unfold Md.rv
      go_wp2_with fail
      go_ret
      exact ⟨by rw [HOO.out]; rfl, HB1.out.alloc HB1.out.size _⟩
    · have hro : Md.rowOf T d = r := by unfold Md.rowOf; rw [hfi]; rfl
      rw [hro] at HSL
      have hoo : o = Md.comp T (C.mem S) r := by
        rw [← HO.out]
        unfold Md.prim
        rw [HPK.out, hfi]
        rfl
      have HOO := Lib.hid hoo
      have hbn : Below w1.heap.size w1 (w1.alloc (.cells #[.int .i32 r.1, .int .i64 r.2.1, .slice a.1 r.2.2.length a.2] 99)) := (Below.refl _ _).alloc (Nat.le_refl _) _
      have HC := Lib.hid (HCOMP.out r a _ hfi (HB1.out.trans (hbn.mono HB1.out.size)) (HSL.out.below hbn hbn.size))
      have HBN := Lib.hid (HB1.out.trans (hbn.mono HB1.out.size))
      rw [hro]
      obtain ⟨cr, hcr⟩ : ∃ b, Md.comp T (C.mem S) r = b := ⟨_, rfl⟩
      rw [hcr] at HC HOO
      clear hro hfi hoo hbn hcr HSL HCOMP
      unfold Md.rv at HC ⊢
      go_wp2_with fail
      refine HC.out.mono ?_
      rintro e wk ⟨rfl, hbc⟩
      have HBZ := Lib.hid (HBN.out.trans (hbc.mono HBN.out.size))
      clear hbc
      go_wp2_with fail
      go_ret
      exact ⟨by rw [HOO.out]; rfl, HBZ.out⟩
  · have hoo : o = true := by
      rw [← HO.out]
      unfold Md.prim
      rw [HPK.out]
      rfl
    have HOO := Lib.hid hoo
    clear hoo HF HCOMP
    go_enter Tryz.func55, Tryz.ntmps55
    go_wp2_with fail
    refine hp.mono ?_
    rintro e w0 ⟨rfl, rfl⟩
    go_wp2_with fail
    go_ret
    exact ⟨by rw [HOO.out]; rfl, HB.out⟩
end Go.Proofs.YtkmfegamblmpeaaGreatDoor

/- utf.Is, by walking its text. -/
namespace Go.Proofs.YtkmfegamblmpeaaGreatDoor
open Go.RowKit
set_option linter.unusedSimpArgs false
set_option linter.unusedVariables false

theorem C.utfis_any (c : Int) (w : World) : Calls Tryz.prog 49 #[.int .i32 c] w fun e w' => e = .returned (.bool (C.isC c)) ∧ w = w' := by
  have e : C.isC c = (decide (0 ≤ c) && decide (c ≤ 1114111) && (decide (c < 55296) || decide (57343 < c))) := by
    unfold C.isC
    rw [Bool.eq_iff_iff]
    simp
    omega
  rw [e]
  clear e
  by_cases h1 : 0 ≤ c <;> by_cases h2 : c ≤ 1114111 <;> by_cases h3 : c < 55296 <;> by_cases h4 : 57343 < c
  all_goals
    first
      | (exfalso; omega)
      | (go_enter Tryz.func49, Tryz.ntmps49
         go_wp2
         go_ret
         exact ⟨by simp [h1, h2, h3, h4], rfl⟩)
end Go.Proofs.YtkmfegamblmpeaaGreatDoor
