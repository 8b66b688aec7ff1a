/- The layer field: Hex, by walking its text. -/
import Derived.Test.YtikiplbhlohmdaaGreatDoorFiBits
import Derived.Test.YtikiplbhlohmdaaGreatDoorShelf
set_option linter.unusedVariables false
set_option linter.unusedSimpArgs false
namespace Go.Proofs.YtikiplbhlohmdaaGreatDoor
open Go.RowKit Go.Stop
theorem Fi.val_lt (l:List UInt8) (hg:Fi.good l=true) (i:Nat) (hi:i≤6):0≤Fi.val (l.take i)∧Fi.val (l.take i)<16777216:=by
 have aa:Fi.good (l.take i)=true:=by
  simp only[Fi.good,Yh]at hg ⊢
  exact fun x hx=>hg x (Yf hx)
 obtain⟨h0,h1,_⟩:=Fi.low_val _ aa
 have:(16:Nat) ^ (l.take i).length≤16 ^ 6:=Y5 (by decide) (by rw[Zq];omega)
 clear hg aa
 have e:(16:Nat) ^ 6=16777216:=by decide
 rw[e]at this
 exact⟨h0,by omega⟩
def Fi.RetHex (l:List UInt8) (e:Ending):Prop:=e=.returned (.tuple #[.int .i32 ((Fi.hex l).getD 0),.bool (Fi.hex l).isSome])
theorem Fi.long_no {l:List UInt8} (h:Fi.long l=false):Fi.hex l=none:=by unfold Fi.hex;rw[h];rfl
theorem Fi.good_no {l:List UInt8} (h:¬Fi.good l=true):Fi.hex l=none:=by unfold Fi.hex;rw[Bool.not_eq_true]at h;rw[h,Bool.false_and,Bool.and_false];rfl
theorem Fi.good_take {l:List UInt8} (h:Fi.good l=true) (i:Nat):Fi.good (l.take i)=true:=by
 simp only[Fi.good,Yh]at h ⊢
 exact fun x hx=>h x (Yf hx)
theorem Fi.take_snoc (s:ByteArray) (i:Nat) (h:i<s.size):s.data.toList.take (i+1)=s.data.toList.take i++[s[i]]:=by
 have h':i<s.data.toList.length:=by simpa using h
 rw[YE h']
 rfl
theorem Fi.take_all (s:ByteArray):s.data.toList.take s.size=s.data.toList:=Zj (by simp)
theorem Fi.head_get (s:ByteArray) (h:0<s.size):s.data.toList.head?=some s[0]:=by
 rw[List.head?_eq_getElem?,List.getElem?_eq_getElem (by simpa using h)]
 rfl
set_option maxRecDepth 100000 in
set_option maxHeartbeats 4000000 in
theorem Fi.hex_any (s:ByteArray) (w:World) :
 Calls Tryz.prog 116 #[.string s] w fun e w'=>Fi.RetHex s.data.toList e∧w'=w:=by
 rcases ZX s.size 4 with h4|h4
 · have hN:Fi.hex s.data.toList=none:=Fi.long_no (by unfold Fi.long;rw[decide_eq_false (by simp;omega)];rfl)
   have i4:(s.size:Int)<4:=by omega
   go_enter Tryz.func116,Tryz.ntmps116
   go_wp2
   go_ret2
   exact⟨by unfold Fi.RetHex;rw[hN];rfl,rfl⟩
 rcases ZX 6 s.size with h6|h6
 · have hN:Fi.hex s.data.toList=none:=Fi.long_no (by unfold Fi.long;rw[decide_eq_false (p:=s.data.toList.length≤6) (by simp;omega),Bool.false_and,Bool.and_false])
   have i4:¬(s.size:Int)<4:=by omega
   have i6:(s.size:Int) > 6:=by omega
   go_enter Tryz.func116,Tryz.ntmps116
   go_wp2
   go_ret2
   exact⟨by unfold Fi.RetHex;rw[hN];rfl,rfl⟩
 have i4:¬(s.size:Int)<4:=by omega
 have i6:¬(s.size:Int) > 6:=by omega
 have l4:decide (4≤s.data.toList.length)=true:=Zn (by simp;omega)
 have l6:decide (s.data.toList.length≤6)=true:=Zn (by simp;omega)
 rcases ZX 4 s.size with h5|h5
 · have i5:(s.size:Int) > 4:=by omega
   have i0:(0:Int)<s.size:=by omega
   have h0:0<s.size:=by omega
   obtain⟨b,hb⟩:∃b,s[0]=b:=⟨_,rfl⟩
   have hh:=Fi.head_get s h0
   rw[hb]at hh
   by_cases hz:b=48
   · have hN:Fi.hex s.data.toList=none:=Fi.long_no (by unfold Fi.long;rw[l4,l6,hh,hz,decide_eq_true (p:=4<s.data.toList.length) (by simp;omega)];rfl)
     have aj:(b.toNat:Int)=48:=by rw[hz];rfl
     clear hh hz
     go_enter Tryz.func116,Tryz.ntmps116
     go_wp2_with fail
     go_ret2
     exact⟨by unfold Fi.RetHex;rw[hN];rfl,rfl⟩
   have hL:Fi.long s.data.toList=true:=by unfold Fi.long;rw[l4,l6,hh];simp[hz]
   have aj:¬(b.toNat:Int)=48:=fun h=>hz (UInt8.toNat_inj.1 (show b.toNat=48 by omega))
   have HL:=Za hL
   clear hh hz hL l4 l6
   go_enter Tryz.func116,Tryz.ntmps116
   go_wp2_with fail
   go_loop [4,27] (fun vn vi=>∃i:Nat,i≤s.size∧vi=.int .i64 i∧vn=.int .i64 (Fi.val (s.data.toList.take i))∧Fi.good (s.data.toList.take i)=true) (fun _ vi=>s.size-(intOf vi).toNat)
   case atStart=>exact⟨0,by omega,rfl,rfl,rfl⟩
   case round =>
    obtain⟨i,hi,rfl,rfl,hg⟩:=hrel
    have hv:=Fi.val_lt _ hg i (by omega)
    rw[XZ,Nat.min_self]at hv
    obtain⟨v,ae⟩:∃v,Fi.val (s.data.toList.take i)=v:=⟨_,rfl⟩
    rw[ae]at hv
    by_cases hlt:(i:Int)<s.size
    · have hi':i<s.size:=by omega
      have af:=Fi.take_snoc s i hi'
      have n0:(0:Int)≤(i:Int):=by omega
      obtain⟨b,hb⟩:∃b,s[i]=b:=⟨_,rfl⟩
      rw[hb]at af
      have ah:((b.toNat:Int)).toNat.toUInt8=b:=by simp
      have ai:=Fi.digit_lt b
      rcases Int.lt_or_le (Fi.digit b) 0 with hd|hd
      · have hN:Fi.hex s.data.toList=none:=Fi.good_no (fun h=>by
         have:=Fi.good_take h (i+1)
         rw[af,Fi.good_snoc,ZB,Zm]at this
         omega)
        clear af hg ae
        go_wp2_with (refine (Tryz.strings_IndexByte _ _ _).mono ?_;rintro e w1 ⟨rfl,rfl⟩;rw[ah,Fi.digit_index])
        go_ret2
        exact⟨by unfold Fi.RetHex;rw[hN];rfl,rfl⟩
      · have ak:¬Fi.digit b<0:=by omega
        have hval:Fi.val (s.data.toList.take (i+1))=v*16+Fi.digit b:=by rw[af,Fi.val_snoc,ae]
        have aa:Fi.good (s.data.toList.take (i+1))=true:=by rw[af,Fi.good_snoc,hg,Zn hd];rfl
        have HV:=Za hval
        have HG:=Za aa
        have ag:=Za ae
        clear af hg hval aa ae
        rw[ag.out]
        go_wp2_with (refine (Tryz.strings_IndexByte _ _ _).mono ?_;rintro e w1 ⟨rfl,rfl⟩;rw[ah,Fi.digit_index])
        exact⟨⟨i+1,by omega,by go_num,by rw[HV.out],HG.out⟩,by simp[intOf];omega⟩
    · obtain rfl:i=s.size:=by omega
      rw[Fi.take_all]at hg ae ⊢
      have HG:=Za hg
      have ag:=Za ae
      clear hg ae
      rw[ag.out]
      by_cases hbig:v > 1114111
      · have hN:Fi.hex s.data.toList=none:=by unfold Fi.hex;rw[ag.out,decide_eq_false (by omega),Bool.and_false,Bool.and_false];rfl
        go_wp2
        go_ret2
        exact⟨by unfold Fi.RetHex;rw[hN];rfl,rfl⟩
      · have hN:Fi.hex s.data.toList=some v:=by unfold Fi.hex;rw[HL.out,HG.out,ag.out,decide_eq_true (by omega)];rfl
        have HN:=Za hN
        clear hN
        go_wp2
        go_ret2
        exact⟨by unfold Fi.RetHex;rw[HN.out];rfl,rfl⟩
 · have i5:¬(s.size:Int) > 4:=by omega
   have hL:Fi.long s.data.toList=true:=by unfold Fi.long;rw[l4,l6,decide_eq_false (p:=4<s.data.toList.length) (by simp;omega)];rfl
   have HL:=Za hL
   clear hL l4 l6
   go_enter Tryz.func116,Tryz.ntmps116
   go_wp2_with fail
   go_loop [4,27] (fun vn vi=>∃i:Nat,i≤s.size∧vi=.int .i64 i∧vn=.int .i64 (Fi.val (s.data.toList.take i))∧Fi.good (s.data.toList.take i)=true) (fun _ vi=>s.size-(intOf vi).toNat)
   case atStart=>exact⟨0,by omega,rfl,rfl,rfl⟩
   case round =>
    obtain⟨i,hi,rfl,rfl,hg⟩:=hrel
    have hv:=Fi.val_lt _ hg i (by omega)
    rw[XZ,Nat.min_self]at hv
    obtain⟨v,ae⟩:∃v,Fi.val (s.data.toList.take i)=v:=⟨_,rfl⟩
    rw[ae]at hv
    by_cases hlt:(i:Int)<s.size
    · have hi':i<s.size:=by omega
      have af:=Fi.take_snoc s i hi'
      have n0:(0:Int)≤(i:Int):=by omega
      obtain⟨b,hb⟩:∃b,s[i]=b:=⟨_,rfl⟩
      rw[hb]at af
      have ah:((b.toNat:Int)).toNat.toUInt8=b:=by simp
      have ai:=Fi.digit_lt b
      rcases Int.lt_or_le (Fi.digit b) 0 with hd|hd
      · have hN:Fi.hex s.data.toList=none:=Fi.good_no (fun h=>by
         have:=Fi.good_take h (i+1)
         rw[af,Fi.good_snoc,ZB,Zm]at this
         omega)
        clear af hg ae
        go_wp2_with (refine (Tryz.strings_IndexByte _ _ _).mono ?_;rintro e w1 ⟨rfl,rfl⟩;rw[ah,Fi.digit_index])
        go_ret2
        exact⟨by unfold Fi.RetHex;rw[hN];rfl,rfl⟩
      · have ak:¬Fi.digit b<0:=by omega
        have hval:Fi.val (s.data.toList.take (i+1))=v*16+Fi.digit b:=by rw[af,Fi.val_snoc,ae]
        have aa:Fi.good (s.data.toList.take (i+1))=true:=by rw[af,Fi.good_snoc,hg,Zn hd];rfl
        have HV:=Za hval
        have HG:=Za aa
        have ag:=Za ae
        clear af hg hval aa ae
        rw[ag.out]
        go_wp2_with (refine (Tryz.strings_IndexByte _ _ _).mono ?_;rintro e w1 ⟨rfl,rfl⟩;rw[ah,Fi.digit_index])
        exact⟨⟨i+1,by omega,by go_num,by rw[HV.out],HG.out⟩,by simp[intOf];omega⟩
    · obtain rfl:i=s.size:=by omega
      rw[Fi.take_all]at hg ae ⊢
      have HG:=Za hg
      have ag:=Za ae
      clear hg ae
      rw[ag.out]
      by_cases hbig:v > 1114111
      · have hN:Fi.hex s.data.toList=none:=by unfold Fi.hex;rw[ag.out,decide_eq_false (by omega),Bool.and_false,Bool.and_false];rfl
        go_wp2
        go_ret2
        exact⟨by unfold Fi.RetHex;rw[hN];rfl,rfl⟩
      · have hN:Fi.hex s.data.toList=some v:=by unfold Fi.hex;rw[HL.out,HG.out,ag.out,decide_eq_true (by omega)];rfl
        have HN:=Za hN
        clear hN
        go_wp2
        go_ret2
        exact⟨by unfold Fi.RetHex;rw[HN.out];rfl,rfl⟩
theorem Fi.Laid.below {w w':World} (h:Fi.Laid w) (hb:Below w.heap.size w w'):Fi.Laid w':=by
 obtain⟨⟨m,h1⟩,h2⟩:=h
 exact⟨⟨m,by rw[(bcell hb).1 _ _ (YT w _ h1)];exact h1⟩,by rw[(bcell hb).1 _ _ (YT w _ h2)];exact h2⟩
def Fi.LaidM (w:World):Prop:=∃m:Int,w.cell? ⟨1,0,none⟩=some (.int .i64 m)
theorem Fi.LaidM.below {w w':World} (h:Fi.LaidM w) (hb:Below w.heap.size w w'):Fi.LaidM w':=by
 obtain⟨m,h1⟩:=h
 exact⟨m,by rw[(bcell hb).1 _ _ (YT w _ h1)];exact h1⟩
theorem Fi.up_lo:∀d:Fin 16,Lib.upperB (Fi.lo d.val)=Fi.up d.val∧(Fi.lo d.val).toNat<128:=by decide
theorem Fi.upper (l:List Nat) (h:∀d∈l,d<16):Lib.toUpperA (l.map Fi.lo)=l.map Fi.up:=by
 unfold Lib.toUpperA
 rw[Xc]
 exact Y0 fun d hd=>(Fi.up_lo ⟨d,h d hd⟩).1
theorem Fi.repeat0:∀c,Lib.repeatL [48] c=List.replicate c 48
 | 0=>rfl
 | c+1=>by rw[Lib.repeatL,Fi.repeat0 c];rfl
theorem Fi.ba_app (a b:List UInt8):(⟨a.toArray⟩++⟨b.toArray⟩:ByteArray)=⟨(a++b).toArray⟩:=by
 apply ByteArray.ext
 simp
set_option maxRecDepth 100000 in
set_option maxHeartbeats 1000000 in
theorem Fi.text_any (c:Nat) (hc:c<16777216) (w:World) (hL:Fi.Laid w) :
 Calls Tryz.prog 94 #[.int .i32 c] w fun e w'=>e=.returned (.string ⟨(Fi.text c).toArray⟩)∧Below w.heap.size w w':=by
 obtain⟨n,hn⟩:∃n,Fi.nd c=n:=⟨_,rfl⟩
 have aq:=Fi.nd_pos c
 have ao:Fi.nd c≤6:=Fi.nd_le 5 c (by rw[show (16:Nat) ^ (5+1)=16777216 from by decide];exact hc)
 rw[hn]at aq ao
 have h1:∀W:World,Fi.Laid W→Calls Tryz.prog 125 #[.int .i64 c,.int .i64 16] W fun e w'=>e=.returned (.string ⟨((Fi.low n c).map Fi.lo).toArray⟩)∧Below W.heap.size W w':=fun W hW=>by rw[←hn];exact Fi.format_any c hc W hW
 have h2:∀W:World,Calls Tryz.prog 124 #[.string ⟨((Fi.low n c).map Fi.lo).toArray⟩] W fun e w'=>e=.returned (.string ⟨((Fi.low n c).map Fi.up).toArray⟩)∧Below W.heap.size W w':=fun W=>by
  have h:=Tryz.strings_ToUpper_ascii ⟨((Fi.low n c).map Fi.lo).toArray⟩ W (by show ((Fi.low n c).map Fi.lo).toArray.size≤_;simp[Fi.low_len];omega) (by
   intro j b hb
   have hm:=Zk hb
   simp only[List.mem_map]at hm
   obtain⟨d,hd,rfl⟩:=hm
   exact (Fi.up_lo ⟨d,Fi.low_lt _ _ d hd⟩).2)
  rw[show Lib.toUpperA (⟨((Fi.low n c).map Fi.lo).toArray⟩:ByteArray).data.toList=(Fi.low n c).map Fi.up from Fi.upper _ (Fi.low_lt n c)]at h
  exact h
 have h3:∀(W:World) (k:Nat),k≤4→Calls Tryz.prog 126 #[.string ⟨#[48]⟩,.int .i64 k] W fun e w'=>e=.returned (.string ⟨(List.replicate k 48).toArray⟩)∧Below W.heap.size W w':=fun W k hk=>by
  have h:=Tryz.strings_Repeat ⟨#[48]⟩ k W (by omega) (by show 1*k≤_;omega)
  rw[show (⟨#[48]⟩:ByteArray).data.toList=[48] from rfl,Fi.repeat0]at h
  exact h
 have hlen:(⟨((Fi.low n c).map Fi.up).toArray⟩:ByteArray).size=n:=by show ((Fi.low n c).map Fi.up).toArray.size=n;simp[Fi.low_len]
 have aa:(⟨(List.replicate (4-n) 48).toArray⟩++⟨((Fi.low n c).map Fi.up).toArray⟩:ByteArray)=⟨(Fi.text c).toArray⟩:=by
  rw[Fi.ba_app,Fi.text_eq,hn]
 have au:(⟨(List.replicate (4-n) 48).toArray⟩:ByteArray).size=4-n:=by show (List.replicate (4-n) (48:UInt8)).toArray.size=_;simp
 obtain⟨raw,af⟩:∃raw,(⟨((Fi.low n c).map Fi.lo).toArray⟩:ByteArray)=raw:=⟨_,rfl⟩
 obtain⟨ag,ae⟩:∃ag,(⟨((Fi.low n c).map Fi.up).toArray⟩:ByteArray)=ag:=⟨_,rfl⟩
 obtain⟨zs,ah⟩:∃zs,(⟨(List.replicate (4-n) 48).toArray⟩:ByteArray)=zs:=⟨_,rfl⟩
 rw[ae]at hlen aa
 rw[ah]at aa au
 simp only[af]at h1 h2
 simp only[ae]at h2
 have aj:=fun W=>h3 W (4-n) (by omega)
 simp only[ah]at aj
 clear af ae ah h3 hn
 have HR:=Za aa
 clear aa
 have ap:¬9223372036854775807<zs.size+ag.size:=by omega
 go_enter Tryz.func94,Tryz.ntmps94
 go_wp2_with fail
 refine (h1 _ (by assumption)).mono ?_
 rintro e w1 ⟨rfl,ai⟩
 go_wp2_with fail
 refine (h2 _).mono ?_
 rintro e w2 ⟨rfl,ak⟩
 have hm:max (4-(n:Int)) 0=((4-n:Nat):Int):=by omega
 go_wp2_with fail
 refine (aj _).mono ?_
 rintro e w3 ⟨rfl,ar⟩
 go_wp2_with fail
 go_ret
 refine⟨by rw[HR.out];rfl,(ai.trans (ak.mono ai.size)).trans (ar.mono (Zh ai.size ak.size))⟩
def Fi.strip (l:List UInt8):List UInt8:=Lib.trimB (Lib.cut l [35]).1 32
theorem Fi.drewN_below (w:World) (n:Nat):Below w.heap.size w (w.drewN n):=⟨rfl,rfl,rfl,by simp[World.heap_drewN],fun k hk=>by simp[World.heap_drewN]⟩
set_option maxRecDepth 100000 in
set_option maxHeartbeats 1000000 in
theorem Fi.strip_any (s:ByteArray) (hs:s.size<4294967281) (w:World) (hL:Fi.LaidM w) :
 Calls Tryz.prog 86 #[.string s] w fun e w'=>e=.returned (.string ⟨(Fi.strip s.data.toList).toArray⟩)∧Below w.heap.size w w':=by
 obtain⟨m,hm⟩:=hL
 have h1:=Tryz.strings_Cut s ⟨#[35]⟩ m w hs hm
 obtain⟨a,ha⟩:∃a,(⟨(Lib.cut s.data.toList [35]).1.toArray⟩:ByteArray)=a:=⟨_,rfl⟩
 have aa:a.size≤s.size:=by
  rw[←ha]
  show (Lib.cut s.data.toList [35]).1.toArray.size≤s.size
  have h2:s.data.toList.length=s.size:=by simp
  unfold Lib.cut
  split <;> simp <;> omega
 have h2:∀W:World,Calls Tryz.prog 115 #[.string a,.string ⟨#[32]⟩] W fun e w'=>e=.returned (.string ⟨(Fi.strip s.data.toList).toArray⟩)∧Below W.heap.size W w':=fun W=>by
  refine (Tryz.strings_Trim_one a 32 (by decide) W (by omega)).mono ?_
  rintro e w' ⟨rfl,hw⟩
  refine⟨by rw[←ha];rfl,?_⟩
  rcases hw with rfl|rfl
  · exact Zd _ _
  · exact (Zd _ _).drew
 rw[show (⟨#[35]⟩:ByteArray).data.toList=[35] from rfl,ha]at h1
 clear ha hm
 go_enter Tryz.func86,Tryz.ntmps86
 go_wp2_with fail
 refine h1.mono ?_
 rintro e w1 ⟨rfl,q,rfl⟩
 go_wp2_with fail
 refine (h2 _).mono ?_
 rintro e w2 ⟨rfl,hb⟩
 go_wp2_with fail
 go_ret
 exact⟨rfl,(Fi.drewN_below w q).trans (hb.mono (by simp[World.heap_drewN]))⟩
def Fi.RetStrs (W:World) (l:List (List UInt8)) (e:Ending) (w':World):Prop :=
 ∃(A:Option Addr) (n c:Nat),e=.returned (.slice A n c)∧l.length=n∧Sl w' w'.heap.size A (l.map fun x=>Value.string ⟨x.toArray⟩)∧Below W.heap.size W w'
def Fi.spl (c:UInt8):List UInt8→List UInt8→List (List UInt8)
 | w,[]=>[w]
 | w,b::r=>if b=c then w::Fi.spl c [] r else Fi.spl c (w++[b]) r
theorem Fi.spl_ne (c:UInt8):∀(l w:List UInt8),Fi.spl c w l≠[]
 | [],w=>by simp[Fi.spl]
 | b::r,w=>by
   unfold Fi.spl
   split
   · simp
   · exact Fi.spl_ne c r _
theorem Fi.spl_app (c:UInt8):∀(a w r:List UInt8),c∉a→Fi.spl c w (a++r)=Fi.spl c (w++a) r
 | [],w,r,_=>by simp
 | b::a,w,r,h=>by
   have hb:b≠c:=fun e=>h (by rw[e];exact Zv)
   rw[ZQ,Fi.spl,Zl hb,Fi.spl_app c a _ r (fun h'=>h (Zx _ h')),Zz]
   rfl
theorem Fi.spl_hit (c:UInt8) (a r:List UInt8) (h:c∉a):Fi.spl c [] (a++c::r)=a::Fi.spl c [] r:=by
 rw[Fi.spl_app c a [] _ h,Fi.spl,Zp rfl];rfl
theorem Fi.spl_miss (c:UInt8) (a:List UInt8) (h:c∉a):Fi.spl c [] a=[a]:=by
 have:=Fi.spl_app c a [] [] h
 rw[Yc]at this
 rw[this];rfl
theorem Fi.spl_len (c:UInt8):∀(l w:List UInt8),(Fi.spl c w l).length≤l.length+1
 | [],w=>by simp[Fi.spl]
 | b::r,w=>by
   unfold Fi.spl
   split
   · have:=Fi.spl_len c r [];simp;omega
   · have:=Fi.spl_len c r (w++[b]);simp;omega
theorem Fi.spl_sizes (c:UInt8):∀(l w:List UInt8),∀x∈Fi.spl c w l,x.length≤w.length+l.length
 | [],w,x,h=>by simp[Fi.spl]at h;subst h;simp
 | b::r,w,x,h=>by
   unfold Fi.spl at h
   split at h
   · rcases List.mem_cons.1 h with rfl|h
     · simp
     · have:=Fi.spl_sizes c r [] x h;simp at this ⊢;omega
   · have:=Fi.spl_sizes c r (w++[b]) x h;simp at this ⊢;omega
theorem Fi.idx_miss (c:UInt8):∀l:List UInt8,Lib.indexByte l c = -1→c∉l
 | [],_=>by simp
 | b::l,h=>by
   unfold Lib.indexByte at h
   split at h
   · cases h
   · rename_i hb
     split at h
     · rename_i h2
       have:=Fi.idx_miss c l (by simpa using h2)
       simp at hb
       simp[this,Z8 hb]
     · have:=Lib.indexByte_ge l c
       rename_i h2
       simp at h2
       omega
theorem Fi.idx_hit (c:UInt8):∀(l:List UInt8) (i:Nat),Lib.indexByte l c=i→l=l.take i++c::l.drop (i+1)∧c∉l.take i
 | [],i,h=>by
   simp only[Lib.indexByte]at h
   omega
 | b::l,i,h=>by
   unfold Lib.indexByte at h
   split at h
   · rename_i hb
     have hi:i=0:=by omega
     subst hi
     simp at hb
     subst hb
     simp
   · rename_i hb
     simp at hb
     split at h
     · omega
     · obtain⟨j,rfl⟩:∃j,i=j+1:=⟨i-1,by have:=Lib.indexByte_ge l c;rename_i h2;simp at h2;omega⟩
       obtain⟨h1,h2⟩:=Fi.idx_hit c l j (by omega)
       refine⟨?_,?_⟩
       · rw[Xb,XP,ZQ,←h1]
       · rw[Xb]
         simp[h2,Z8 hb]
theorem Fi.split_eq (c:UInt8):∀(k:Nat) (s:ByteArray),Lib.countB s ⟨#[c]⟩≤k→(Lib.splitB ⟨#[c]⟩ 0 k s).map (·.data.toList)=Fi.spl c [] s.data.toList:=by
 have ae:∀s:ByteArray,Lib.indexB s ⟨#[c]⟩=Lib.indexByte s.data.toList c:=fun s=>by
  show Lib.index s.data.toList [c]=_
  exact Lib.index_one _ _
 intro k
 induction k with
 | zero =>
   intro s hk
   rcases Lib.indexB_cases s ⟨#[c]⟩ with aa|⟨i,aa,_⟩
   · rw[Lib.splitB_miss _ _ _ _ aa,Fi.spl_miss c _ (Fi.idx_miss c _ (by rw[←ae];exact aa))];rfl
   · have:=Lib.countB_hit s ⟨#[c]⟩ i (Zb 1) aa
     omega
 | succ k ih =>
   intro s hk
   rcases Lib.indexB_cases s ⟨#[c]⟩ with aa|⟨i,aa,_⟩
   · rw[Lib.splitB_miss _ _ _ _ aa,Fi.spl_miss c _ (Fi.idx_miss c _ (by rw[←ae];exact aa))];rfl
   · have hc:=Lib.countB_hit s ⟨#[c]⟩ i (Zb 1) aa
     obtain⟨h1,h2⟩:=Fi.idx_hit c s.data.toList i (by rw[←ae];exact aa)
     unfold Lib.splitB
     rw[Zl (by rw[aa];simp;try omega),aa,ZT]
     have hd:(s.extract (i+1) s.size).data.toList=s.data.toList.drop (i+1):=by
      rw[Lib.extract_data,Zj (by simp)]
     have ht:(s.extract 0 i).data.toList=s.data.toList.take i:=by rw[Lib.extract_data];simp
     have af:=ih (s.extract (i+1) s.size) (by
      have e:(⟨#[c]⟩:ByteArray).size=1:=rfl
      rw[e]at hc;omega)
     rw[hd]at af
     show (s.extract 0 (((i:Int)).toNat+0)).data.toList::(Lib.splitB ⟨#[c]⟩ 0 k (s.extract (((i:Int)).toNat+1) s.size)).map (·.data.toList)=_
     rw[YX,YW,ht,af]
     conv=>rhs;rw[h1]
     rw[Fi.spl_hit c _ _ h2]
theorem Fi.cut_head (c:UInt8) (l:List UInt8):(Fi.spl c [] l).head?=some (Lib.cut l [c]).1:=by
 unfold Lib.cut
 rw[Lib.index_one]
 by_cases h:Lib.indexByte l c = -1
 · rw[Zl (by omega),Fi.spl_miss c l (Fi.idx_miss c l h)];rfl
 · have hge:=Lib.indexByte_ge l c
   obtain⟨i,hi⟩:∃i:Nat,Lib.indexByte l c=i:=⟨(Lib.indexByte l c).toNat,by omega⟩
   obtain⟨h1,h2⟩:=Fi.idx_hit c l i hi
   rw[Zp (by omega),hi]
   conv=>lhs;rw[h1]
   rw[Fi.spl_hit c _ _ h2]
   simp
def Fi.glue (c:UInt8):List (List UInt8)→List UInt8
 | []=>[]
 | x::r=>x++(r.map fun y=>c::y).flatten
theorem Fi.glue_snoc (c:UInt8) (l:List (List UInt8)) (x:List UInt8):Fi.glue c (l++[x])=(if l=[] then x else Fi.glue c l++c::x):=by
 rcases l with _|⟨y,t⟩
 · simp[Fi.glue]
 · simp[Fi.glue]
theorem Fi.trimR_cons (c:UInt8) (b:UInt8) (t:List UInt8):Lib.trimRightB (b::t) c=if Lib.trimRightB t c=[] then (if b=c then [] else [b]) else b::Lib.trimRightB t c:=by
 unfold Lib.trimRightB
 rw[List.reverse_cons,List.dropWhile_append]
 by_cases h:(t.reverse.dropWhile (· == c))=[]
 · rw[h]
   simp[Yx]
   split <;> simp
 · have h':(t.reverse.dropWhile (· == c)).isEmpty=false:=by simpa using h
   rw[h']
   simp[h]
theorem Fi.trim_comm (c:UInt8):∀l:List UInt8,Lib.trimB l c=Lib.trimRightB (Lib.trimLeftB l c) c
 | []=>rfl
 | b::t=>by
   have ih:=Fi.trim_comm c t
   unfold Lib.trimB Lib.trimLeftB at ih ⊢
   rw[Fi.trimR_cons,Yx]
   by_cases hb:b=c
   · subst hb
     simp only[beq_self_eq_true,Yt]
     split
     · rename_i h
       rw[←ih,h]
     · rw[Yx]
       simp only[beq_self_eq_true,Yt]
       exact ih
   · have aa:(b == c)=false:=by simpa using hb
     rw[aa]
     simp only[hb,Ye,ZJ]
     rw[Fi.trimR_cons]
     simp only[hb,Ye]
     split
     · rw[Yx,aa];simp
     · rw[Yx,aa];simp
theorem Fi.trimR_snoc (c:UInt8) (l:List UInt8):Lib.trimRightB (l++[c]) c=Lib.trimRightB l c:=by
 unfold Lib.trimRightB
 rw[List.reverse_append]
 simp[Yx]
theorem Fi.trimR_stop (c:UInt8) (l:List UInt8) (b:UInt8) (h:b≠c):Lib.trimRightB (l++[b]) c=l++[b]:=by
 unfold Lib.trimRightB
 rw[List.reverse_append]
 simp[Yx,h]
def Fi.numV (l:List UInt8):Int:=l.foldl (fun n b=>10*n+((b.toNat:Int)-48)) 0
def Fi.isD (b:UInt8):Bool:=decide (48≤b.toNat)&&decide (b.toNat≤57)
def Fi.isNum (l:List UInt8) (aa:Int):Bool:=(l == Lib.decDigits (Fi.numV l).toNat)&&decide (Fi.numV l≤aa)
def Fi.num (l:List UInt8) (aa:Int):Option Int:=if Fi.isNum l aa then some (Fi.numV l) else none
theorem Fi.numV_snoc (l:List UInt8) (b:UInt8):Fi.numV (l++[b])=10*Fi.numV l+((b.toNat:Int)-48):=by simp[Fi.numV,Y8]
theorem Fi.dig10 (d:Nat) (h:d<10):(UInt8.ofNat (48+d)).toNat=48+d:=by rw[XV,Xv (by omega)]
theorem Fi.numV_dec (u:Nat):Fi.numV (Lib.decDigits u)=(u:Int):=by
 rw[Lib.decDigits]
 split
 · rename_i h
   simp only[Fi.numV,Y9,List.foldl_nil,Fi.dig10 u h]
   omega
 · rename_i h
   rw[Fi.numV_snoc,Fi.numV_dec (u/10),Fi.dig10 _ (by omega)]
   omega
 termination_by u
 decreasing_by omega
theorem Fi.dec_digits (u:Nat):∀b∈Lib.decDigits u,Fi.isD b=true:=by
 rw[Lib.decDigits]
 split
 · rename_i h
   intro b hb
   rw[ZA]at hb
   subst hb
   unfold Fi.isD
   rw[Fi.dig10 u h,Zn (by omega),Zn (by omega)]
   rfl
 · intro b hb
   rcases List.mem_append.1 hb with h|h
   · exact Fi.dec_digits (u/10) b h
   · rw[ZA]at h
     subst h
     unfold Fi.isD
     rw[Fi.dig10 _ (by omega),Zn (by omega),Zn (by omega)]
     rfl
 termination_by u
 decreasing_by omega
theorem Fi.dec_ne (u:Nat):Lib.decDigits u≠[]:=by
 rw[Lib.decDigits]
 split
 · simp
 · simp
theorem Fi.dec_len:∀(k u:Nat),u<10 ^ (k+1)→(Lib.decDigits u).length≤k+1
 | 0,u,h=>by rw[Lib.decDigits,dif_pos (by simpa using h)];simp
 | k+1,u,h=>by
   rw[Lib.decDigits]
   split
   · simp
   · have:=Fi.dec_len k (u/10) (by rw[YY]at h;omega)
     simp;omega
theorem Fi.isNum_dec (u:Nat) (aa:Int) (h:(u:Int)≤aa):Fi.num (Lib.decDigits u) aa=some (u:Int):=by
 unfold Fi.num Fi.isNum
 rw[Fi.numV_dec,YX,beq_self_eq_true,Zn h]
 rfl
theorem Fi.num_some {l:List UInt8} {aa v:Int} (h:Fi.num l aa=some v):∃u:Nat,v=u∧(u:Int)≤aa∧l=Lib.decDigits u:=by
 unfold Fi.num at h
 split at h
 · rename_i h1
   unfold Fi.isNum at h1
   rw[ZB,YP,Zm]at h1
   obtain⟨h2,h3⟩:=h1
   have h4:Fi.numV l=((Fi.numV l).toNat:Int):=by
    conv=>lhs;rw[h2,Fi.numV_dec]
   simp only[Zi]at h
   exact⟨(Fi.numV l).toNat,by rw[←h];exact h4,by omega,h2⟩
 · cases h
theorem Fi.num_none_of {l:List UInt8} {aa:Int} (h:∀u:Nat,(u:Int)≤aa→l≠Lib.decDigits u):Fi.num l aa=none:=by
 rcases hn:Fi.num l aa with _|v
 · rfl
 · obtain⟨u,_,h2,h3⟩:=Fi.num_some hn
   exact absurd h3 (h u h2)
theorem Fi.decFrom_app:∀(a:List UInt8) (b:UInt8) (acc:Nat),Lib.decFrom acc (a++[b])=(Lib.decFrom acc a).bind fun n=>(Lib.digitVal b).map fun d=>n*10+d
 | [],b,acc=>by
   simp only[Z2,Lib.decFrom]
   rcases Lib.digitVal b with _|d <;> rfl
 | c::t,b,acc=>by
   simp only[ZQ,Lib.decFrom]
   rcases Lib.digitVal c with _|d
   · rfl
   · exact Fi.decFrom_app t b _
theorem Fi.digitVal_dig (d:Nat) (h:d<10):Lib.digitVal (UInt8.ofNat (48+d))=some d:=by
 have key:∀d:Fin 10,Lib.digitVal (UInt8.ofNat (48+d.val))=some d.val:=by decide
 exact key ⟨d,h⟩
theorem Fi.decFrom_dec (u:Nat):Lib.decFrom 0 (Lib.decDigits u)=some u:=by
 rw[Lib.decDigits]
 split
 · rename_i h
   simp only[Lib.decFrom,Fi.digitVal_dig u h]
   simp
 · rename_i h
   rw[Fi.decFrom_app,Fi.decFrom_dec (u/10),Zr,Fi.digitVal_dig _ (by omega),Zt]
   congr 1
   omega
 termination_by u
 decreasing_by omega
theorem Fi.atoi_dec (u:Nat) (h:u<10000000000):Lib.atoiAll (Lib.decDigits u)=.ok (u:Int):=by
 have hl:(Lib.decDigits u).length≤10:=Fi.dec_len 9 u (by rw[show (10:Nat) ^ (9+1)=10000000000 from by decide];exact h)
 rw[Lib.atoiAll_short _ (by omega)]
 have hne:=Fi.dec_ne u
 have hd:=Fi.dec_digits u
 have hf:=Fi.decFrom_dec u
 rcases hc:Lib.decDigits u with _|⟨b,r⟩
 · exact absurd hc hne
 · rw[hc]at hd hf
   have hb:=hd b Zv
   unfold Fi.isD at hb
   rw[ZB,Zm,Zm]at hb
   have aa:(b == 45)=false:=by
    rw[Xq]
    rintro rfl
    exact absurd hb.1 (by decide)
   have ae:(b == 43)=false:=by
    rw[Xq]
    rintro rfl
    exact absurd hb.1 (by decide)
   have hn:Lib.decNat (b::r)=some u:=by
    unfold Lib.decNat
    simpa using hf
   unfold Lib.atoi
   simp only[aa,ae,hn,ZJ,Ye]
   rfl
def Rw.lns:List UInt8→List UInt8→List (List UInt8)
 | w,[]=>if w=[] then [] else [w]
 | w,b::r=>if b=10 then w::Rw.lns [] r else Rw.lns (w++[b]) r
theorem Rw.lns_app:∀(a w r:List UInt8),(10:UInt8)∉a→Rw.lns w (a++r)=Rw.lns (w++a) r
 | [],w,r,_=>by simp
 | b::a,w,r,h=>by
   have hb:b≠10:=fun e=>h (by rw[e];exact Zv)
   rw[ZQ,Rw.lns,Zl hb,Rw.lns_app a _ r (fun h'=>h (Zx _ h')),Zz]
   rfl
theorem Rw.lns_hit (a r:List UInt8) (h:(10:UInt8)∉a):Rw.lns [] (a++10::r)=a::Rw.lns [] r:=by
 rw[Rw.lns_app a [] _ h,Rw.lns,Zp rfl];rfl
theorem Rw.lns_text:∀(l:List (List UInt8)),(∀x∈l,(10:UInt8)∉x)→Rw.lns [] (l.flatMap fun x=>x++[10])=l
 | [],_=>rfl
 | x::l,h=>by
   rw[Xn,Zz,List.singleton_append,Rw.lns_hit _ _ (h x Zv),Rw.lns_text l fun y hy=>h y (Zx _ hy)]
theorem Rw.lns_len:∀(l w:List UInt8),(Rw.lns w l).length≤l.length+1
 | [],w=>by unfold Rw.lns;split <;> simp
 | b::r,w=>by
   unfold Rw.lns
   split
   · have:=Rw.lns_len r [];simp;omega
   · have:=Rw.lns_len r (w++[b]);simp;omega
def Rw.plainL (x:List UInt8):Bool:=x.all fun b=>decide (32≤b.toNat)&&decide (b.toNat≤126)
def Rw.okl (x:List UInt8):Bool:=decide (x.length≤1000)&&Rw.plainL x
def Rw.mp (f:List UInt8):Option (List Int) :=
 if f=[]∨f.head?=some 60 then some []
 else if (Fi.spl 32 [] f).all (fun x=>(Fi.hex x).isSome)=true∧(Fi.spl 32 [] f).length≤2 then some ((Fi.spl 32 [] f).map fun x=>(Fi.hex x).getD 0)
 else none
def Rw.row (F:List (List UInt8)):Option Rw.Row :=
 if F.length=15∧F.getD 1 []≠[] then
  (Fi.hex (F.getD 0 [])).bind fun c=>(Fi.num (F.getD 3 []) 254).bind fun k=>(Rw.mp (F.getD 5 [])).map fun m=>(c,k,m)
 else none
def Rw.quiet (r:Rw.Row):Bool:=decide (r.2.1=0)&&decide (r.2.2.length=0)
def Rw.first:List UInt8:=[44,32,70,105,114,115,116,62]
def Rw.last:List UInt8:=[44,32,76,97,115,116,62]
def Rw.ends (s e:List UInt8):Bool:=decide (e.length≤s.length)&&(s.drop (s.length-e.length) == e)
def Rw.cutE (s e:List UInt8):List UInt8:=if Rw.ends s e then s.take (s.length-e.length) else s
def Rw.ranged (was name:List UInt8) (q:Bool):Option (List UInt8) :=
 if was≠[]∨Rw.ends name Rw.last=true then (if Rw.ends name Rw.last=true∧Rw.cutE name Rw.last++Rw.first=was∧q=true then some [] else none)
 else if Rw.ends name Rw.first=true then (if q then some (Rw.cutE name Rw.first++Rw.first) else none)
 else some []
abbrev Rw.St:=List Rw.Row × Int × List UInt8
def Rw.step (st:Rw.St) (l:List UInt8):Option Rw.St :=
 (Rw.row (Fi.spl 59 [] l)).bind fun r =>
   if st.2.1<r.1 then (Rw.ranged st.2.2 ((Fi.spl 59 [] l).getD 1 []) (Rw.quiet r)).bind fun o =>
    if C.isC r.1=true∨Rw.quiet r=true then some (if Rw.quiet r then st.1 else st.1++[r],r.1,o) else none
   else none
def Rw.steps:Rw.St→List (List UInt8)→Option Rw.St
 | st,[]=>some st
 | st,l::r=>(Rw.step st l).bind fun st'=>Rw.steps st' r
theorem Rw.steps_app:∀(a b:List (List UInt8)) (st:Rw.St),Rw.steps st (a++b)=(Rw.steps st a).bind fun st'=>Rw.steps st' b
 | [],b,st=>rfl
 | l::a,b,st=>by
   rw[ZQ,Rw.steps,Rw.steps]
   rcases Rw.step st l with _|st'
   · rfl
   · exact Rw.steps_app a b st'
def Rw.parse (s:List UInt8):Option (List Rw.Row) :=
 if (Rw.lns [] s).all Rw.okl=true∧(Rw.lns [] s).length≤40000 then (Rw.steps ([],-1,[]) (Rw.lns [] s)).bind fun st=>if st.2.2=[] then some st.1 else none
 else none
def Rw.line (r:Rw.Row):List UInt8 :=
 Fi.text r.1.toNat++([59,88,59,59]++(Lib.decDigits r.2.1.toNat++([59,59]++(Fi.glue 32 (r.2.2.map fun c=>Fi.text c.toNat)++[59,59,59,59,59,59,59,59,59]))))
def Rw.fields (r:Rw.Row):List (List UInt8) :=
 [Fi.text r.1.toNat,[88],[],Lib.decDigits r.2.1.toNat,[],Fi.glue 32 (r.2.2.map fun c=>Fi.text c.toNat),[],[],[],[],[],[],[],[],[]]
def Rw.right (r:Rw.Row):Prop:=0≤r.1∧r.1≤1114111∧0≤r.2.1∧r.2.1≤254∧r.2.2.length≤2∧∀c∈r.2.2,0≤c∧c≤1114111
theorem Rw.up_bytes:∀d:Fin 16,48≤(Fi.up d.val).toNat∧(Fi.up d.val).toNat≤70∧(Fi.up d.val)≠59:=by decide
theorem Rw.text_bytes (n:Nat):∀b∈Fi.text n,48≤b.toNat∧b.toNat≤70∧b≠59:=by
 intro b hb
 unfold Fi.text at hb
 obtain⟨d,hd,rfl⟩:=List.mem_map.1 hb
 exact Rw.up_bytes ⟨d,Fi.low_lt _ _ d hd⟩
theorem Rw.text_no (n:Nat) (c:UInt8) (h:c.toNat<48∨c=59):c∉Fi.text n:=fun hb=>by
 have:=Rw.text_bytes n c hb
 rcases h with h|h
 · omega
 · exact this.2.2 h
theorem Rw.up_low:∀d:Fin 16,Fi.up d.val≠60:=by decide
theorem Rw.text_low (n:Nat):∀b∈Fi.text n,b≠60:=by
 intro b hb
 unfold Fi.text at hb
 obtain⟨d,hd,rfl⟩:=List.mem_map.1 hb
 exact Rw.up_low ⟨d,Fi.low_lt _ _ d hd⟩
theorem Rw.text_ne (n:Nat):Fi.text n≠[]:=fun h=>by
 have:=Fi.text_len n
 rw[h,Z6]at this
 omega
theorem Rw.dec_bytes (n:Nat):∀b∈Lib.decDigits n,48≤b.toNat∧b.toNat≤57:=by
 intro b hb
 have:=Fi.dec_digits n b hb
 unfold Fi.isD at this
 rw[ZB,Zm,Zm]at this
 exact this
theorem Rw.dec_no (n:Nat) (c:UInt8) (h:c.toNat<48∨57<c.toNat):c∉Lib.decDigits n:=fun hb=>by
 have:=Rw.dec_bytes n c hb
 omega
theorem Rw.spl_glue (c:UInt8):∀(l:List (List UInt8)) (x:List UInt8),c∉x→(∀y∈l,c∉y)→Fi.spl c [] (Fi.glue c (x::l))=x::l
 | [],x,hx,_=>by simp[Fi.glue];exact Fi.spl_miss c x hx
 | y::l,x,hx,h=>by
   have e:Fi.glue c (x::y::l)=x++c::Fi.glue c (y::l):=by simp[Fi.glue]
   rw[e,Fi.spl_hit c _ _ hx,Rw.spl_glue c l y (h y Zv) fun z hz=>h z (Zx _ hz)]
theorem Rw.glue_bytes (c:UInt8):∀(l:List (List UInt8)),∀b∈Fi.glue c l,b=c∨∃x∈l,b∈x
 | [],b,h=>by simp[Fi.glue]at h
 | x::l,b,h=>by
   simp only[Fi.glue,Xa,List.mem_flatten,List.mem_map]at h
   rcases h with h|⟨y,⟨z,hz,rfl⟩,hb⟩
   · exact .inr ⟨x,Zv,h⟩
   · rcases List.mem_cons.1 hb with h|h
     · exact .inl h
     · exact .inr ⟨z,Zx _ hz,h⟩
theorem Rw.map_bytes (m:List Int):∀b∈Fi.glue 32 (m.map fun c=>Fi.text c.toNat),b=32∨(48≤b.toNat∧b.toNat≤70∧b≠59):=by
 intro b hb
 rcases Rw.glue_bytes 32 _ b hb with h|⟨x,hx,aa⟩
 · exact .inl h
 · obtain⟨c,_,rfl⟩:=List.mem_map.1 hx
   exact .inr (Rw.text_bytes _ b aa)
theorem Rw.line_fields (r:Rw.Row):Fi.spl 59 [] (Rw.line r)=Rw.fields r:=by
 have hm:(59:UInt8)∉Fi.glue 32 (r.2.2.map fun c=>Fi.text c.toNat):=fun h=>by
  rcases Rw.map_bytes _ _ h with h|h
  · exact absurd h (by decide)
  · exact h.2.2 rfl
 unfold Rw.line Rw.fields
 rw[show ∀x:List UInt8,[59,88,59,59]++x=59::([88]++59::([]++59::x)) from fun _=>rfl,Fi.spl_hit 59 _ _ (Rw.text_no _ _ (.inr rfl)),Fi.spl_hit 59 _ _ (by decide),Fi.spl_hit 59 _ _ (by decide),
  show ∀x:List UInt8,[59,59]++x=59::([]++59::x) from fun _=>rfl,Fi.spl_hit 59 _ _ (Rw.dec_no _ _ (.inr (by decide))),Fi.spl_hit 59 _ _ (by decide),Fi.spl_hit 59 _ _ hm]
 rfl
theorem Rw.line_ok (r:Rw.Row) (hr:Rw.right r):Rw.okl (Rw.line r)=true:=by
 obtain⟨c0,c1,k0,k1,hm,hc⟩:=hr
 have l1:=Fi.text_le r.1.toNat (by omega)
 have l2:=Fi.dec_len 9 r.2.1.toNat (by rw[show (10:Nat) ^ (9+1)=10000000000 from by decide];omega)
 have l3:(Fi.glue 32 (r.2.2.map fun c=>Fi.text c.toNat)).length≤20:=by
  obtain⟨c,k,m⟩:=r
  rcases m with _|⟨a,_|⟨b,_|⟨d,t⟩⟩⟩
  · simp[Fi.glue]
  · have:=Fi.text_le a.toNat (by have:=(hc a (by simp)).2;omega)
    simp[Fi.glue];omega
  · have h1:=Fi.text_le a.toNat (by have:=(hc a (by simp)).2;omega)
    have h2:=Fi.text_le b.toNat (by have:=(hc b (by simp)).2;omega)
    simp[Fi.glue];omega
  · simp at hm
 unfold Rw.okl
 rw[ZB,Zm]
 refine⟨?_,?_⟩
 · unfold Rw.line
   simp only[Ze,ZI,Z6]
   omega
 · unfold Rw.plainL
   rw[Yh]
   have key:∀b:UInt8,(b=32∨b=59∨b=88∨(48≤b.toNat∧b.toNat≤70))→(decide (32≤b.toNat)&&decide (b.toNat≤126))=true:=by
    intro b hb
    rw[ZB,Zm,Zm]
    rcases hb with rfl|rfl|rfl|hb
    · decide
    · decide
    · decide
    · omega
   intro b hb
   apply key
   unfold Rw.line at hb
   simp only[Xa]at hb
   rcases hb with hb|hb|hb|hb|hb|hb
   · have:=Rw.text_bytes _ b hb;exact .inr (.inr (.inr ⟨this.1,this.2.1⟩))
   · simp at hb;rcases hb with rfl|rfl|rfl|rfl <;> simp
   · have:=Rw.dec_bytes _ b hb;exact .inr (.inr (.inr ⟨this.1,by omega⟩))
   · simp at hb;subst hb;simp
   · rcases Rw.map_bytes _ b hb with h|h
     · exact .inl h
     · exact .inr (.inr (.inr ⟨h.1,h.2.1⟩))
   · simp at hb;subst hb;simp
theorem Rw.line_no (r:Rw.Row) (hr:Rw.right r):(10:UInt8)∉Rw.line r:=fun h=>by
 have:=Rw.line_ok r hr
 unfold Rw.okl Rw.plainL at this
 rw[ZB,Yh]at this
 exact absurd (this.2 10 h) (by decide)
theorem Rw.nat_cast {c:Int} (h:0≤c):((c.toNat:Nat):Int)=c:=by omega
theorem Rw.mp_glue (m:List Int) (hm:m.length≤2) (hc:∀c∈m,0≤c∧c≤1114111):Rw.mp (Fi.glue 32 (m.map fun c=>Fi.text c.toNat))=some m:=by
 rcases m with _|⟨a,t⟩
 · simp[Fi.glue,Rw.mp]
 · have hs:Fi.spl 32 [] (Fi.glue 32 ((a::t).map fun c=>Fi.text c.toNat))=(a::t).map fun c=>Fi.text c.toNat :=
    Rw.spl_glue 32 _ _ (Rw.text_no _ _ (.inl (by decide))) fun y hy=>by
     obtain⟨c,_,rfl⟩:=List.mem_map.1 hy
     exact Rw.text_no _ _ (.inl (by decide))
   have hx:∀c∈a::t,Fi.hex (Fi.text c.toNat)=some c:=fun c aa=>by
    rw[Fi.hex_text _ (by have:=(hc c aa).2;omega),Rw.nat_cast (hc c aa).1]
   have hne:¬(Fi.glue 32 ((a::t).map fun c=>Fi.text c.toNat)=[]∨(Fi.glue 32 ((a::t).map fun c=>Fi.text c.toNat)).head?=some 60):=by
    obtain⟨b,q,hb⟩:∃b q,Fi.text a.toNat=b::q:=by
     rcases h:Fi.text a.toNat with _|⟨b,q⟩
     · exact absurd h (Rw.text_ne _)
     · exact⟨b,q,rfl⟩
    have ag:=Rw.text_low a.toNat b (by rw[hb];exact Zv)
    rw[ZT,hb]
    simp only[Fi.glue,ZQ,List.head?_cons,Zi]
    rintro (h|h)
    · cases h
    · subst h;exact ag rfl
   have ae:(((a::t).map fun c=>Fi.text c.toNat).all fun x=>(Fi.hex x).isSome)=true:=by
    rw[Yh]
    intro x af
    obtain⟨c,aa,rfl⟩:=List.mem_map.1 af
    rw[hx c aa]
    rfl
   unfold Rw.mp
   rw[if_neg hne,hs,if_pos ⟨ae,by simpa using hm⟩,List.map_map]
   congr 1
   conv=>rhs;rw[←List.map_id (a::t)]
   refine Y0 fun c aa=>?_
   show (Fi.hex (Fi.text c.toNat)).getD 0=c
   rw[hx c aa];rfl
theorem Rw.row_fields (r:Rw.Row) (hr:Rw.right r):Rw.row (Rw.fields r)=some r:=by
 obtain⟨c0,c1,k0,k1,hm,hc⟩:=hr
 unfold Rw.row
 rw[Zp ⟨rfl,show ([88]:List UInt8)≠[] from by decide⟩]
 show (Fi.hex (Fi.text r.1.toNat)).bind (fun c=>(Fi.num (Lib.decDigits r.2.1.toNat) 254).bind fun k=>(Rw.mp (Fi.glue 32 (r.2.2.map fun c=>Fi.text c.toNat))).map fun m=>(c,k,m))=_
 rw[Fi.hex_text _ (by omega),Fi.isNum_dec _ _ (by omega),Rw.mp_glue _ hm hc,Rw.nat_cast c0,Rw.nat_cast k0]
 rfl
theorem Rw.step_line (out:List Rw.Row) (c:Int) (r:Rw.Row) (hr:Rw.right r) (aa:c<r.1) (hq:C.isC r.1=true∨Rw.quiet r=true) :
 Rw.step (out,c,[]) (Rw.line r)=some (if Rw.quiet r then out else out++[r],r.1,[]):=by
 unfold Rw.step
 rw[Rw.line_fields,Rw.row_fields r hr,Zr,Zp aa]
 have:Rw.ranged [] ((Rw.fields r).getD 1 []) (Rw.quiet r)=some []:=by
  show Rw.ranged [] [88] (Rw.quiet r)=some []
  unfold Rw.ranged
  rw[Zl (by decide),Zl (by decide)]
 show (Rw.ranged [] ((Rw.fields r).getD 1 []) (Rw.quiet r)).bind _=_
 rw[this,Zr,Zp hq]
def Rw.rise:Int→List Rw.Row→Prop
 | _,[]=>True
 | c,r::l=>c<r.1∧Rw.rise r.1 l
theorem Rw.steps_lines:∀(l:List Rw.Row) (out:List Rw.Row) (c:Int),(∀r∈l,Rw.right r∧(C.isC r.1=true∨Rw.quiet r=true))→Rw.rise c l →
 ∃c',Rw.steps (out,c,[]) (l.map Rw.line)=some (out++l.filter (fun r=>!Rw.quiet r),c',[])
 | [],out,c,_,_=>⟨c,by simp[Rw.steps]⟩
 | r::l,out,c,h,hr=>by
   obtain⟨h1,h2⟩:=h r Zv
   rw[ZT,Rw.steps,Rw.step_line out c r h1 hr.1 h2,Zr]
   obtain⟨c',aa⟩:=Rw.steps_lines l (if Rw.quiet r then out else out++[r]) r.1 (fun q hq=>h q (Zx _ hq)) hr.2
   refine⟨c',?_⟩
   rw[aa,Yo]
   by_cases hq:Rw.quiet r=true
   · simp[hq]
   · simp[hq]
theorem Rw.parse_lines (l:List Rw.Row) (h:∀r∈l,Rw.right r∧(C.isC r.1=true∨Rw.quiet r=true)) (hr:Rw.rise (-1) l) (hl:l.length≤40000) :
 Rw.parse ((l.map Rw.line).flatMap fun x=>x++[10])=some (l.filter fun r=>!Rw.quiet r):=by
 have hn:Rw.lns [] ((l.map Rw.line).flatMap fun x=>x++[10])=l.map Rw.line:=Rw.lns_text _ fun x hx=>by
  obtain⟨r,hm,rfl⟩:=List.mem_map.1 hx
  exact Rw.line_no r (h r hm).1
 obtain⟨c',ae⟩:=Rw.steps_lines l [] (-1) h hr
 have aa:(l.map Rw.line).all Rw.okl=true:=by
  rw[Yh]
  intro x hx
  obtain⟨r,hm,rfl⟩:=List.mem_map.1 hx
  exact Rw.line_ok r (h r hm).1
 unfold Rw.parse
 rw[hn,Zp ⟨aa,by rw[Zg];exact hl⟩,ae]
 rfl
end Go.Proofs.YtikiplbhlohmdaaGreatDoor
