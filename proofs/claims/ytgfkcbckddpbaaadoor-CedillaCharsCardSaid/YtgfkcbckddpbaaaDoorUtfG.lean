/- Encode, the reference's Encode, Told; the law UtfDecodes. -/
import Derived.Test.YtgfkcbckddpbaaaDoorUtfF
namespace Go.Proofs.YtgfkcbckddpbaaaDoor
open Go.RowKit
set_option linter.unusedSimpArgs false
set_option linter.unusedVariables false

theorem strOfBytes (l : List UInt8) : strOfNums (l.map fun b => ((b.toNat : Nat) : Int)) = ⟨l.toArray⟩ := by
  unfold strOfNums
  rw [List.map_map]
  congr 1
  have : l.map ((fun n : Int => UInt8.ofNat n.toNat) ∘ fun b : UInt8 => ((b.toNat : Nat) : Int)) = l := by
    conv => rhs; rw [← List.map_id l]
    refine List.map_congr_left fun b _ => ?_
    simp
  rw [this]

/-- 'string(b)', b a row of bytes that the call owns. -/
theorem conv_own {w : World} {base m c : Nat} {A : Option Addr} {l : List UInt8} (h : w.ownsRow base 5 1 (.slice A m c) m (bytesV l)) :
    (convert 23 9 (.slice A m c)).run Tryd.prog w = .ok (.string ⟨l.toArray⟩) w := by
  obtain ⟨hl, hr⟩ := h
  rcases hr with ⟨hv, hm⟩ | ⟨g, cap, cur, hv, _, hg, hc, _, hcs, htake⟩
  · simp only [Value.slice.injEq] at hv
    obtain ⟨rfl, rfl, rfl⟩ := hv
    have : l = [] := List.eq_nil_of_length_eq_zero (by unfold bytesV at hl; simpa using hl)
    subst this
    exact run_convert_bytes_nil _ _ 5 Tryd.underlying23 Tryd.underlying5 _ _ _ Tryd.underlying9
  · simp only [Value.slice.injEq] at hv
    obtain ⟨rfl, _, rfl⟩ := hv
    unfold bytesV at hl htake
    rw [List.length_map] at hl
    rw [← strOfBytes]
    refine run_convert_bytes_arg _ _ 5 Tryd.underlying23 Tryd.underlying5 g 0 m c _ (by rw [List.length_map]; omega) (fun i hi => ?_) _ Tryd.underlying9
    have hil : i < l.length := by omega
    have hci : cur.toList[i]? = some (Value.int .u8 ((l[i].toNat : Nat) : Int)) := by
      have e : (cur.toList.take (m * 1))[i]? = (l.map fun b => Value.int .u8 ((b.toNat : Nat) : Int))[i]? := by rw [htake]
      rw [List.getElem?_take, if_pos (by omega), List.getElem?_map, List.getElem?_eq_getElem hil] at e
      exact e
    simp only [World.cell?, hg, Nat.zero_add]
    have : cur[i]? = some (Value.int .u8 ((l[i].toNat : Nat) : Int)) := by rw [← hci]; simp
    simp [this, List.getD, hil]

def U.encG (l : List Int) : Bool := l.all U.isC
def U.encS (l : List Int) : ByteArray := if U.encG l then ⟨(U.encs l).toArray⟩ else ⟨#[]⟩
def U.encN (l : List Int) : Int := if U.encG l then 0 else 1
theorem bytesV_append (a b : List UInt8) : bytesV (a ++ b) = bytesV a ++ bytesV b := by unfold bytesV; rw [List.map_append]
theorem U.encs_le (l : List Int) : (U.encs l).length ≤ 4 * l.length := by
  induction l with
  | nil => simp [U.encs]
  | cons c l ih => rw [U.encs_cons, List.length_append, List.length_cons]; have := (U.enc_pos c).2; omega
theorem take_succ_get {α : Type} {l : List α} {k : Nat} {x : α} (h : l[k]? = some x) : l.take (k + 1) = l.take k ++ [x] := by
  rw [List.take_add_one, h]; rfl
theorem mem_take_get {α : Type} {l : List α} {k : Nat} {x : α} (h : l[k]? = some x) : x ∈ l := List.mem_of_getElem? h

set_option maxRecDepth 100000 in
set_option maxHeartbeats 1000000 in
theorem U.encode_any (A : Option Addr) (cap B : Nat) (l : List Int) (w : World) (hB : B ≤ w.heap.size) (hA : Sl w B A (l.map (Value.int .i32))) (hl : l.length ≤ 100000000000) (hb : ∀ c ∈ l, -2147483648 ≤ c ∧ c ≤ 2147483647) (hH : Heads w) :
    Calls Tryd.prog 18 #[.slice A l.length cap] w fun e w' => e = .returned (.tuple #[.string (U.encS l), .int .i64 (U.encN l)]) ∧ Below w.heap.size w w' := by
  have hg := hH.lt
  obtain ⟨n, hn⟩ : ∃ n, l.length = n := ⟨_, rfl⟩
  have HN := Lib.hid hn
  rw [hn] at hl ⊢
  clear hn
  have HB := Lib.hid hb
  clear hb
  go_enter Tryd.func18, Tryd.ntmps18
  go_wp2
  go_loopw [9, 4] (fun i v wr => ∃ k : Nat, k ≤ n ∧ i = .int .i64 k ∧ (∀ x ∈ l.take k, U.isC x = true) ∧ wr.ownsRow w.heap.size 5 1 v (U.encs (l.take k)).length (bytesV (U.encs (l.take k))) ∧ Below w.heap.size w wr) (fun i _ _ => n - (intOf i).toNat)
  case atStart => exact ⟨0, by omega, rfl, by simp, World.ownsRow_nil _ _ _ _, Below.refl _ _⟩
  case round =>
    obtain ⟨k, hk, rfl, hgood, hown, hbel⟩ := hrel
    have hsz := hbel.size
    have hHr := hH.next hbel
    have HG := Lib.hid hgood
    clear hgood
    have hel := U.encs_le (l.take k)
    rw [List.length_take, HN.out] at hel
    by_cases hkn : (k : Int) < n
    · obtain ⟨x, hx⟩ : ∃ x, l[k]? = some x := ⟨_, List.getElem?_eq_getElem (by rw [HN.out]; omega)⟩
      obtain ⟨x1, x2⟩ := HB.out x (mem_take_get hx)
      obtain ⟨b, o, rfl, hlt, hc⟩ := hA.belowN hbel hB (Nat.le_refl _) (by rw [List.length_map, HN.out]; omega)
      have hcell := hc k (by rw [List.length_map, HN.out]; omega)
      rw [List.getElem?_map, hx] at hcell
      simp only [Option.map] at hcell
      have htk := take_succ_get hx
      have HX := Lib.hid hx
      have HTK := Lib.hid htk
      clear hx htk hc
      by_cases hch : U.isC x = true
      · have HC := Lib.hid hch
        go_wp2_with (go_at_call 48; refine (U.is_any _ _ x1 x2).mono ?_; rintro e w' ⟨rfl, rfl⟩)
        refine (U.put_any x _ _ w.heap.size _ _ HC.out hHr hown (by omega) hsz).mono ?_
        rintro e w2 ⟨v', rfl, hown2, hb2⟩
        go_wp2
        refine ⟨⟨k + 1, by omega, by go_num, ?_, ?_, hbel.trans hb2⟩, by simp [intOf]; omega⟩
        · rw [HTK.out]
          intro y hy
          rcases List.mem_append.1 hy with hy | hy
          · exact HG.out y hy
          · rw [List.mem_singleton] at hy; subst hy; exact HC.out
        · rw [HTK.out, U.encs_append, List.length_append, bytesV_append]
          have e : U.encs [x] = U.enc x := by simp [U.encs]
          rw [e]
          exact hown2
      · have hch' : U.isC x = false := by simpa using hch
        have hbad : U.encG l = false := by
          unfold U.encG
          rw [List.all_eq_false]
          exact ⟨x, mem_take_get HX.out, by simp [hch']⟩
        have H1 : U.encS l = ⟨#[]⟩ := by unfold U.encS; rw [if_neg (by rw [hbad]; decide)]
        have H2 : U.encN l = 1 := by unfold U.encN; rw [if_neg (by rw [hbad]; decide)]
        have H1 := Lib.hid H1
        have H2 := Lib.hid H2
        rename_i h1' h2'
        clear h1' h2' hbad hch
        go_wp2_with (go_at_call 48; refine (U.is_any _ _ x1 x2).mono ?_; rintro e w' ⟨rfl, rfl⟩)
        go_ret2
        rw [H1.out, H2.out]
        exact ⟨rfl, hbel⟩
    · obtain rfl : k = n := by omega
      have hall : l.take k = l := List.take_of_length_le (by rw [HN.out]; omega)
      rw [hall] at hown
      have hG := HG.out
      rw [hall] at hG
      have hgd : U.encG l = true := by unfold U.encG; rw [List.all_eq_true]; exact hG
      have H1 : U.encS l = ⟨(U.encs l).toArray⟩ := by unfold U.encS; rw [if_pos hgd]
      have H2 : U.encN l = 0 := by unfold U.encN; rw [if_pos hgd]
      have K1 := Lib.hid H1
      have K2 := Lib.hid H2
      clear H1 H2 hgd hG hall
      obtain ⟨A', c', rfl⟩ := own_form hown
      have hcv := conv_own hown
      go_wp2
      go_ret2
      rw [K1.out, K2.out]
      exact ⟨rfl, hbel⟩

theorem ba_append (a b : List UInt8) : (⟨a.toArray⟩ ++ ⟨b.toArray⟩ : ByteArray) = ⟨(a ++ b).toArray⟩ := by
  apply ByteArray.ext
  simp

/-- A new slice of whole numbers, owned, is handed back. -/
def RetOwn (el : TypeId) (k : IntKind) (l : List Int) (w : World) (e : Ending) (w' : World) : Prop :=
  ∃ A c, e = .returned (.slice A l.length c) ∧ w'.ownsRow w.heap.size el 1 (.slice A l.length c) l.length (l.map (Value.int k)) ∧ Below w.heap.size w w'
theorem RetOwn.mk {el : TypeId} {k : IntKind} {l : List Int} {w w' : World} {v : Value} {m : Nat} {xs : List Value} (h : w'.ownsRow w.heap.size el 1 v m xs) (hm : m = l.length) (hx : xs = l.map (Value.int k)) (hb : Below w.heap.size w w') :
    RetOwn el k l w (.returned v) w' := by
  subst hm hx
  obtain ⟨A, c, rfl⟩ := own_form h
  exact ⟨A, c, rfl, h, hb⟩

theorem Sl.of_own' {w : World} {base : Nat} {e : TypeId} {n c : Nat} {A : Option Addr} {xs : List Value} (h : w.ownsRow base e 1 (.slice A n c) n xs) : Sl w w.heap.size A xs := Sl.of_own h

theorem U.chars_bd {cs : List Int} (h : ∀ c ∈ cs, U.isC c = true) : ∀ c ∈ cs, -2147483648 ≤ c ∧ c ≤ 2147483647 := by
  intro c hc
  have := (U.isC_iff c).1 (h c hc)
  omega
theorem U.encG_of {cs : List Int} (h : ∀ c ∈ cs, U.isC c = true) : U.encG cs = true := by unfold U.encG; rw [List.all_eq_true]; exact h
theorem U.encS_of {cs : List Int} (h : ∀ c ∈ cs, U.isC c = true) : U.encS cs = ⟨(U.encs cs).toArray⟩ := by unfold U.encS; rw [if_pos (U.encG_of h)]
theorem U.encN_of {cs : List Int} (h : ∀ c ∈ cs, U.isC c = true) : U.encN cs = 0 := by unfold U.encN; rw [if_pos (U.encG_of h)]

end Go.Proofs.YtgfkcbckddpbaaaDoor
