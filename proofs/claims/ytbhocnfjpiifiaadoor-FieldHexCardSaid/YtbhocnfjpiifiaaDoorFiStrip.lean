/- The document's Strip, by walking its text. -/
import Derived.Test.YtbhocnfjpiifiaaDoorFiRef2
namespace Go.Proofs.YtbhocnfjpiifiaaDoor
open Go.RowKit Go.Stop
set_option linter.unusedSimpArgs false
set_option linter.unusedVariables false

theorem Fi.isEmpty (s : ByteArray) (l : List UInt8) (h : s.data.toList = l) : s.toList.isEmpty = l.isEmpty := by rw [ByteArray.toList_eq s, h]
theorem Fi.drop1 (s : ByteArray) (b : UInt8) (r : List UInt8) (h : s.data.toList = b :: r) : (s.extract 1 s.size).data.toList = r := by
  rw [Lib.extract_data, h, List.drop_one, List.tail_cons, List.take_of_length_le]
  have : s.data.toList.length = s.size := by simp
  rw [h, List.length_cons] at this
  omega

set_option maxRecDepth 100000 in
set_option maxHeartbeats 4000000 in
theorem Fi.rstrip_any (s : ByteArray) (hs : s.size ≤ 1000000000) (w : World) :
    Calls Tryd.prog 14 #[.string s] w fun e w' => e = .returned (.string ⟨(Fi.strip s.data.toList).toArray⟩) ∧ Below w.heap.size w w' := by
  have hhead := Fi.cut_head 35 s.data.toList
  have h1 := Fi.rsplit_any 35 s hs w
  rw [show (((35 : UInt8).toNat : Nat) : Int) = 35 from rfl] at h1
  obtain ⟨a, ha⟩ : ∃ a, (Lib.cut s.data.toList [35]).1 = a := ⟨_, rfl⟩
  have hal : a.length ≤ s.size := by
    rw [← ha]
    have h2 : s.data.toList.length = s.size := by simp
    unfold Lib.cut
    split <;> simp <;> omega
  have hres : Fi.strip s.data.toList = Lib.trimRightB (Lib.trimLeftB a 32) 32 := by
    unfold Fi.strip
    rw [ha, Fi.trim_comm]
  rw [ha] at hhead
  have HRES := Lib.hid hres
  have HH := Lib.hid hhead
  clear hres ha hhead
  go_enter Tryd.func14, Tryd.ntmps14
  go_wp2_with fail
  refine h1.mono ?_
  rintro e w1 ⟨A, n, c, rfl, hn, hA, hb⟩
  have hpos : 0 < n := by
    rcases hl : Fi.spl 35 [] s.data.toList with _ | ⟨y, t⟩
    · exact absurd hl (Fi.spl_ne 35 _ _)
    · rw [hl] at hn; simp at hn; omega
  obtain ⟨g, o, rfl, hg, hcell⟩ := hA (by rw [List.length_map, hn]; exact hpos)
  have hc0 := hcell 0 (by rw [List.length_map, hn]; exact hpos)
  have h0 : (Fi.spl 35 [] s.data.toList)[0]? = some a := by rw [← List.head?_eq_getElem?]; exact HH.out
  rw [List.getElem?_map, h0] at hc0
  simp only [Option.map_some, Nat.add_zero] at hc0
  have n0 : (0 : Int) < n := by omega
  have HB := Lib.hid hb
  obtain ⟨ab, hab⟩ : ∃ ab : ByteArray, (⟨a.toArray⟩ : ByteArray) = ab := ⟨_, rfl⟩
  have habl : ab.data.toList = a := by rw [← hab]
  rw [hab] at hc0
  clear hcell hA hn hb h0 hab h1
  go_wp2_with fail
  go_loop [3] (fun vx => ∃ x : ByteArray, vx = .string x ∧ Lib.trimLeftB x.data.toList 32 = Lib.trimLeftB a 32 ∧ x.size ≤ s.size) (fun vx => (match vx with | .string y => y.size | _ => 0))
  case atStart => exact ⟨ab, rfl, by rw [habl], by rw [← habl] at hal; simpa using hal⟩
  case round =>
    obtain ⟨x, rfl, hx, hxs⟩ := hrel
    have hlen : x.data.toList.length = x.size := by simp
    rcases hl : x.data.toList with _ | ⟨b, r⟩
    · have he : x.toList.isEmpty = true := by rw [Fi.isEmpty x _ hl]; rfl
      have hx0 : Lib.trimLeftB a 32 = [] := by rw [← hx, hl]; rfl
      have HT := Lib.hid (show x.data.toList = Lib.trimLeftB a 32 by rw [hx0, hl])
      clear hx hl hx0 hlen
      go_wp2_with fail
      go_loop [3] (fun vy => ∃ y : ByteArray, vy = .string y ∧ Lib.trimRightB y.data.toList 32 = Lib.trimRightB (Lib.trimLeftB a 32) 32 ∧ y.size ≤ s.size) (fun vy => (match vy with | .string y => y.size | _ => 0))
      case atStart => exact ⟨x, rfl, by rw [HT.out], hxs⟩
      case round =>
        obtain ⟨y, rfl, hy, hys⟩ := hrel
        have hlen : y.data.toList.length = y.size := by simp
        rcases List.eq_nil_or_concat y.data.toList with hl | ⟨m, b, hl⟩
        · have he : y.toList.isEmpty = true := by rw [Fi.isEmpty y _ hl]; rfl
          have hR : y = ⟨(Fi.strip s.data.toList).toArray⟩ := by
            rw [HRES.out, ← hy, hl, show Lib.trimRightB [] 32 = [] from rfl, ← hl, Lib.mk_data]
          have HR := Lib.hid hR
          clear hy hl hR
          go_wp2_with fail
          go_ret
          exact ⟨by rw [← HR.out]; rfl, HB.out⟩
        · rw [List.concat_eq_append] at hl
          have hlm : y.size = m.length + 1 := by rw [← hlen, hl]; simp
          have he : y.toList.isEmpty = false := by rw [Fi.isEmpty y _ hl]; simp
          have y0 : (0 : Int) ≤ (y.size : Int) - 1 := by omega
          have y1 : (y.size : Int) - 1 < y.size := by omega
          have y2 : (y.size : Int) - 1 ≤ y.size := by omega
          have y3 : y.size - 1 < y.size := by omega
          have hgq : y[y.size - 1]'y3 = b := by
            have h1 := Fi.ba_get y (y.size - 1) (by omega)
            rw [hl, List.getElem?_append_right (by omega), show y.size - 1 - m.length = 0 by omega] at h1
            simpa using h1.symm
          obtain ⟨z, hz⟩ : ∃ z, y.extract 0 (y.size - 1) = z := ⟨_, rfl⟩
          have hzl : z.data.toList = m := by
            rw [← hz, Lib.extract_data, hl, List.drop_zero, Nat.sub_zero, show y.size - 1 = m.length by omega, List.take_left]
          have hzs : z.size = m.length := by rw [← hzl]; simp
          by_cases hb : b = 32
          · have hb' : (b.toNat : Int) = 32 := by rw [hb]; rfl
            have hT2 : Lib.trimRightB z.data.toList 32 = Lib.trimRightB (Lib.trimLeftB a 32) 32 := by
              rw [← hy, hl, hzl, hb, Fi.trimR_snoc]
            have HT2 := Lib.hid hT2
            have HLM := Lib.hid hlm
            clear hy hl hzl hT2 hlen hlm
            go_wp2_with fail
            exact ⟨⟨z, rfl, HT2.out, by have := HLM.out; omega⟩, by show z.size < y.size; have := HLM.out; omega⟩
          · have hb' : ¬ (b.toNat : Int) = 32 := fun h => hb (UInt8.toNat_inj.1 (show b.toNat = 32 by omega))
            have hR : y = ⟨(Fi.strip s.data.toList).toArray⟩ := by
              rw [HRES.out, ← hy, hl, Fi.trimR_stop 32 m b hb, ← hl, Lib.mk_data]
            have HR := Lib.hid hR
            clear hy hl hzl hR hlen hlm
            go_wp2_with fail
            go_ret
            exact ⟨by rw [← HR.out]; rfl, HB.out⟩
    · have he : x.toList.isEmpty = false := by rw [Fi.isEmpty x _ hl]; rfl
      rw [hl, List.length_cons] at hlen
      have hpx : 0 < x.size := by omega
      have hpx' : (0 : Int) < x.size := by omega
      have hg0 : x[0] = b := by
        have := Fi.ba_get x 0 hpx
        rw [hl] at this
        simpa using this.symm
      by_cases hb : b = 32
      · have hb' : (b.toNat : Int) = 32 := by rw [hb]; rfl
        obtain ⟨z, hz⟩ : ∃ z, x.extract 1 x.size = z := ⟨_, rfl⟩
        have hzl : z.data.toList = r := by rw [← hz]; exact Fi.drop1 x b r hl
        have hzs : z.size = r.length := by rw [← hzl]; simp
        have hT : Lib.trimLeftB z.data.toList 32 = Lib.trimLeftB a 32 := by
          rw [← hx, hl, hzl, hb]
          rfl
        have HT := Lib.hid hT
        clear hx hl hzl hT
        go_wp2_with fail
        exact ⟨⟨z, rfl, HT.out, by omega⟩, by show z.size < x.size; omega⟩
      · have hb' : ¬ (b.toNat : Int) = 32 := fun h => hb (UInt8.toNat_inj.1 (show b.toNat = 32 by omega))
        have hT : x.data.toList = Lib.trimLeftB a 32 := by
          rw [← hx, hl]
          unfold Lib.trimLeftB
          rw [List.dropWhile_cons]
          simp [hb]
        have HT := Lib.hid hT
        clear hx hl hT hlen
        go_wp2_with fail
        go_loop [3] (fun vy => ∃ y : ByteArray, vy = .string y ∧ Lib.trimRightB y.data.toList 32 = Lib.trimRightB (Lib.trimLeftB a 32) 32 ∧ y.size ≤ s.size) (fun vy => (match vy with | .string y => y.size | _ => 0))
        case atStart => exact ⟨x, rfl, by rw [HT.out], hxs⟩
        case round =>
          obtain ⟨y, rfl, hy, hys⟩ := hrel
          have hlen : y.data.toList.length = y.size := by simp
          rcases List.eq_nil_or_concat y.data.toList with hl | ⟨m, b, hl⟩
          · have he : y.toList.isEmpty = true := by rw [Fi.isEmpty y _ hl]; rfl
            have hR : y = ⟨(Fi.strip s.data.toList).toArray⟩ := by
              rw [HRES.out, ← hy, hl, show Lib.trimRightB [] 32 = [] from rfl, ← hl, Lib.mk_data]
            have HR := Lib.hid hR
            clear hy hl hR
            go_wp2_with fail
            go_ret
            exact ⟨by rw [← HR.out]; rfl, HB.out⟩
          · rw [List.concat_eq_append] at hl
            have hlm : y.size = m.length + 1 := by rw [← hlen, hl]; simp
            have he : y.toList.isEmpty = false := by rw [Fi.isEmpty y _ hl]; simp
            have y0 : (0 : Int) ≤ (y.size : Int) - 1 := by omega
            have y1 : (y.size : Int) - 1 < y.size := by omega
            have y2 : (y.size : Int) - 1 ≤ y.size := by omega
            have y3 : y.size - 1 < y.size := by omega
            have hgq : y[y.size - 1]'y3 = b := by
              have h1 := Fi.ba_get y (y.size - 1) (by omega)
              rw [hl, List.getElem?_append_right (by omega), show y.size - 1 - m.length = 0 by omega] at h1
              simpa using h1.symm
            obtain ⟨z, hz⟩ : ∃ z, y.extract 0 (y.size - 1) = z := ⟨_, rfl⟩
            have hzl : z.data.toList = m := by
              rw [← hz, Lib.extract_data, hl, List.drop_zero, Nat.sub_zero, show y.size - 1 = m.length by omega, List.take_left]
            have hzs : z.size = m.length := by rw [← hzl]; simp
            by_cases hb : b = 32
            · have hb' : (b.toNat : Int) = 32 := by rw [hb]; rfl
              have hT2 : Lib.trimRightB z.data.toList 32 = Lib.trimRightB (Lib.trimLeftB a 32) 32 := by
                rw [← hy, hl, hzl, hb, Fi.trimR_snoc]
              have HT2 := Lib.hid hT2
              have HLM := Lib.hid hlm
              clear hy hl hzl hT2 hlen hlm
              go_wp2_with fail
              exact ⟨⟨z, rfl, HT2.out, by have := HLM.out; omega⟩, by show z.size < y.size; have := HLM.out; omega⟩
            · have hb' : ¬ (b.toNat : Int) = 32 := fun h => hb (UInt8.toNat_inj.1 (show b.toNat = 32 by omega))
              have hR : y = ⟨(Fi.strip s.data.toList).toArray⟩ := by
                rw [HRES.out, ← hy, hl, Fi.trimR_stop 32 m b hb, ← hl, Lib.mk_data]
              have HR := Lib.hid hR
              clear hy hl hzl hR hlen hlm
              go_wp2_with fail
              go_ret
              exact ⟨by rw [← HR.out]; rfl, HB.out⟩
end Go.Proofs.YtbhocnfjpiifiaaDoor
