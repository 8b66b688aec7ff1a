/- The layer rows: each, Parse, by walking their texts. -/
import Derived.Test.YtbeakahjbkdeiaaGreatDoorAl1
import Derived.Test.YtbeakahjbkdeiaaGreatDoorMap
import Derived.Test.YtbeakahjbkdeiaaGreatDoorPgReg
import Derived.Test.YtbeakahjbkdeiaaGreatDoorRwLines
import Derived.Test.YtbeakahjbkdeiaaGreatDoorRwPlain
import Derived.Test.YtbeakahjbkdeiaaGreatDoorFaCh
import Derived.Test.YtbeakahjbkdeiaaGreatDoorMdOwn
import Derived.Test.YtbeakahjbkdeiaaGreatDoorUdOf
import Derived.Test.YtbeakahjbkdeiaaGreatDoorFiRef2
import Derived.Deep.RegionHeld3
import Derived.BigQuiet
import Derived.BigRegion
import Derived.Deep.DeepCutAuto
import Derived.Test.YtbeakahjbkdeiaaGreatDoorSlt
import Derived.Deep.SlicePairs
import Derived.Deep.Strs
import Derived.ProofKit
import Derived.OpenShut
set_option linter.unusedVariables false
set_option linter.unusedSimpArgs false
namespace Go.Proofs.YtbeakahjbkdeiaaGreatDoor
open Go.RowKit
set_option linter.unusedSimpArgs false
set_option linter.unusedVariables false
theorem Rw.steps_take {aa ae st:Rw.St} {L:List (List UInt8)} {k:Nat} {x:List UInt8} (h:Rw.steps aa L=some ae) (hx:L[k]?=some x) (hs:Rw.steps aa (L.take k)=some st) :
 ∃st',Rw.step st x=some st'∧Rw.steps aa (L.take (k+1))=some st':=by
 have hk:=(List.getElem?_eq_some_iff.1 hx).1
 have e:L.take k++x::L.drop (k+1)=L:=by
  have:=ZH k L
  rw[ZS hk]at this
  rw[Zc hk,Zg]at hx
  rw[hx]at this
  exact this
 rw[←e,Rw.steps_app,hs,Zt,Rw.steps]at h
 rcases hst:Rw.step st x with _|st'
 · rw[hst]at h;cases h
 · refine⟨st',rfl,?_⟩
   rw[Zr,hx,Rw.steps_app,hs]
   show Rw.steps st [x]=some st'
   rw[Rw.steps,hst]
   rfl
theorem Rw.step_len {st st':Rw.St} {x:List UInt8} (h:Rw.step st x=some st'):st'.1.length≤st.1.length+1:=by
 obtain⟨r,o,_,_,_,_,rfl⟩:=Rw.step_some h
 show (if Rw.quiet r=true then st.1 else st.1++[r]).length≤_
 split
 · omega
 · simp
theorem Rw.steps_len:∀(L:List (List UInt8)) {st st':Rw.St},Rw.steps st L=some st'→st'.1.length≤st.1.length+L.length
 | [],st,st',h=>by
   rw[Rw.steps,Zg]at h
   subst h
   simp
 | x::L,st,st',h=>by
   rw[Rw.steps]at h
   rcases hs:Rw.step st x with _|s
   · rw[hs]at h;cases h
   · rw[hs,Zt]at h
     have h1:=Rw.step_len hs
     have h2:=Rw.steps_len L h
     simp
     omega
def Rw.RetEach (b:Nat) (st:Rw.St) (w:World) (e:Ending) (w':World):Prop:=e=.returned (.tuple #[.int .i64 0,.string ⟨#[]⟩])∧Rw.Rd w' b st∧Below b w w'
def Rw.Inv (w:World) (b:Nat) (aa:Rw.St) (L:List (List UInt8)) (k:Nat) (wr:World):Prop:=∃st,Rw.steps aa (L.take k)=some st∧Rw.Rd wr b st∧Below b w wr
set_option maxRecDepth 100000 in
set_option maxHeartbeats 4000000 in
theorem Rw.each_any (b:Nat) (af aj:Rw.St) (L:List (List UInt8)) (A:Option Addr) (n cp:Nat) (w0 w:World) (hL:Rw.Laid w0) (h0:w0.heap.size≤b) (ax:Below w0.heap.size w0 w) (hI:Rw.Rd w b af) (hlen:af.1.length=0)
 (aw:L.length=n) (hn:n≤100000) (hl:∀x∈L,x.length≤1000) (hA:Sl w b A (L.map fun x=>Value.string ⟨x.toArray⟩)) (ba:b<w.heap.size)
 (ar:Rw.steps af L=some aj):Calls Tryz.prog 65 #[.slice A n cp,.func (.func 66) #[.pointer (some ⟨b,0,none⟩)] #[]] w (Rw.RetEach b aj w):=by
 have HL:=Za hl
 have HN:=Za aw
 have av:=Za ar
 have HB:=Za ax
 have H0:=Za hlen
 have HA:=Za hA
 clear hl aw ar ax hlen hA
 go_enter Tryz.func65,Tryz.ntmps65
 go_wp2_with fail
 go_loopw [6,7,8,11] (fun _ _ _ i wr=>∃k:Nat,k≤n∧i=.int .i64 k∧Rw.Inv w b af L k wr) (fun _ _ _ i _=>n-(intOf i).toNat)
 case atStart=>exact⟨0,Zz _,rfl,af,rfl,hI,Zd _ _⟩
 case round =>
  obtain⟨k,hk,rfl,st,hs,hR,aa⟩:=hrel
  by_cases hlt:k<n
  · obtain⟨x,hx⟩:∃x,L[k]?=some x:=⟨_,Zc (by rw[HN.out];exact hlt)⟩
    obtain⟨st',h1,h2⟩:=Rw.steps_take av.out hx hs
    obtain⟨ab,ao,rfl,a6,a1⟩:=HA.out (by rw[Zf,HN.out];omega)
    have hc:=a1 k (by rw[Zf,HN.out];exact hlt)
    rw[Zl,hx,Zn,←(bcell aa).1 _ _ a6]at hc
    have au:=HL.out x (Zk hx)
    obtain⟨bx,ag⟩:∃bx:ByteArray,⟨x.toArray⟩=bx:=⟨_,rfl⟩
    rw[ag]at hc
    have ay:=Rw.steps_len _ hs
    rw[H0.out,Zm]at ay
    have ae:=fun W (e:W=wr)=>Rw.line_any b st st' bx w0 W hL h0 (by rw[e];exact HB.out.trans (aa.mono h0)) (by rw[e];exact hR) (by rw[←ag];show x.toArray.size≤_;simpa using au) (by omega) (by rw[←ag];exact h1)
    have HX:=Za h2
    have ap:=Za aa
    have a7:(k:Int)<n:=by omega
    clear a1 hx hs hR h1 h2 aa ag ay au
    go_wp2_with fail
    refine (ae _ rfl).mono ?_
    rintro e w2 ⟨rfl,az,aq⟩
    have ai:=Za az
    have ah:=Za aq
    clear az aq ae
    go_wp2_with fail
    exact⟨⟨k+1,by omega,by go_num,st',HX.out,ai.out,ap.out.trans ah.out⟩,by simp[intOf];omega⟩
  · obtain rfl:k=n:=by omega
    have a8:¬(k:Int)<k:=by omega
    have ak:st=aj:=by
     rw[Zj (by rw[HN.out];exact Zb _),av.out,Zg]at hs
     exact hs.symm
    subst ak
    have ai:=Za hR
    have ah:=Za aa
    clear hs hR aa
    go_wp2_with fail
    go_ret2
    exact⟨rfl,ai.out,ah.out⟩
def Rw.RetParse (rs:List Rw.Row) (w:World) (e:Ending) (w':World):Prop :=
 ∃A c,e=.returned (.tuple #[.slice A rs.length c,.nilIface])∧Rw.Tab w' A rs∧Below w.heap.size w w'
theorem Rw.parse_some {s:List UInt8} {rs:List Rw.Row} (h:Rw.parse s=some rs):(Rw.lns [] s).all Rw.okl=true∧(Rw.lns [] s).length≤40000∧∃c,Rw.steps ([],-1,[]) (Rw.lns [] s)=some (rs,c,[]):=by
 unfold Rw.parse at h
 split at h
 · rename_i h0
   obtain⟨h0,h1⟩:=h0
   refine⟨h0,h1,?_⟩
   rcases hs:Rw.steps ([],-1,[]) (Rw.lns [] s) with _|⟨aa,c,o⟩
   · rw[hs]at h;cases h
   · rw[hs,Zt]at h
     split at h
     · rename_i ho
       simp only at ho
       subst ho
       simp only[Zg]at h
       subst h
       exact⟨c,rfl⟩
     · cases h
 · cases h
set_option maxRecDepth 100000 in
set_option maxHeartbeats 4000000 in
theorem Rw.parse_any (s:ByteArray) (hs:s.size≤1000000) (rs:List Rw.Row) (hp:Rw.parse s.data.toList=some rs) (w:World) (hL:Rw.Laid w) :
 Calls Tryz.prog 19 #[.string s] w (Rw.RetParse rs w):=by
 obtain⟨ai,ap,cN,ah⟩:=Rw.parse_some hp
 have ak:=Rw.lines_any s hs ai
 have hl:∀x∈Rw.lns [] s.data.toList,x.length≤1000:=fun x hx=>by
  rw[Ya]at ai
  have:=ai x hx
  unfold Rw.okl at this
  rw[Zx,Zp]at this
  exact this.1
 obtain⟨L,av⟩:∃L,Rw.lns [] s.data.toList=L:=⟨_,rfl⟩
 rw[av]at ah ak ap hl
 have a1:=Rw.steps_len _ ah
 simp only[Z9,Z2]at a1
 have az:=Za ah
 have ay:=Za hl
 clear ai hp av ah hl
 go_enter Tryz.func19,Tryz.ntmps19
 go_wp2_with fail
 refine (ak _).mono ?_
 rintro e w1 ⟨A,c,rfl,hA,aj⟩
 have ax:=hL.next aj
 have hmx:¬(40000:Int)<(L.length:Int):=by omega
 have ag:=Rw.At.new w1 91 [.slice none 0 0,.int .i32 (-1),.string ⟨#[]⟩]
 have ar:=fun W (e:W=w1.alloc (.cells #[.slice none 0 0,.int .i32 (-1),.string ⟨#[]⟩] 91))=>Rw.each_any w1.heap.size ([],-1,[]) (rs,cN,[]) L A L.length c w1 W ax (Zb _)
  (by rw[e];exact (Zd _ _).alloc (Zb _) _) (by rw[e];exact⟨.slice none 0 0,[],ag,ZG _ _ _ _,rfl,fun i r a h=>by simp at h⟩) rfl rfl (by omega) ay.out (by rw[e];exact hA.below ((Zd _ _).alloc (Zb _) _) (Zb _)) (by rw[e];simp) az.out
 have au:=Za aj
 clear hA aj ak ag
 go_wp2_with fail
 refine (ar _ rfl).mono ?_
 rintro e w2 ⟨rfl,⟨v,ads,ag,ae,has,aa⟩,aq⟩
 simp only at ag ae has aa
 obtain⟨Av,cv,rfl⟩:=own_form ae
 obtain⟨d1,d2,d3,d4,d5,d6⟩:=ag.three
 have ao:=Za ae
 have af:=Za aa
 have aw:=Za aq
 clear ae aa aq ar
 go_wp2_with fail
 go_ret2
 exact⟨Av,cv,rfl,⟨ads,has,Slt.of_own ao.out,af.out⟩,au.out.trans ((((Zd w1.heap.size w1).alloc (Zb _) _).trans aw.out).mono au.out.size)⟩
set_option maxHeartbeats 1000000 in
theorem Ex.index_any (A:Option Addr) (n cp B:Nat) (l:List Int) (c:Int) (w:World) (hn:l.length=n) (hN:n≤1000000) (hB:B≤w.heap.size) (hA:Sl w B A (l.map (Value.int .i32))) (hc:c∉l) :
 Calls Tryz.prog 201 #[.slice A n cp,.int .i32 c] w fun e w'=>e=.returned (.int .i64 (-1))∧w'=w:=by
 have HN:=Za hn
 have HC:=Za hc
 clear hn hc
 go_enter Tryz.func201,Tryz.ntmps201
 go_wp2_with fail
 go_loop [5,8] (fun _ i=>∃k:Nat,k≤n∧i=.int .i64 k) (fun _ i=>n-(intOf i).toNat)
 case atStart=>exact⟨0,Zz _,rfl⟩
 case round =>
  obtain⟨k,hk,rfl⟩:=hrel
  by_cases hlt:k<n
  · obtain⟨x,hx⟩:∃x,l[k]?=some x:=⟨_,Zc (by rw[HN.out];exact hlt)⟩
    obtain⟨b,o,rfl,hb,hcell⟩:=hA (by rw[Zf,HN.out];omega)
    have h1:=hcell k (by rw[Zf,HN.out];exact hlt)
    rw[Zl,hx,Zn]at h1
    have hne:(c == x)=false:=by
     have:c≠x:=fun e=>HC.out (by rw[e];exact Zk hx)
     simpa using this
    have kI:(k:Int)<n:=by omega
    have k0:(0:Int)≤(k:Int):=by omega
    clear hcell hx
    go_wp2_with fail
    exact⟨⟨k+1,by omega,by go_num⟩,by simp[intOf];omega⟩
  · obtain rfl:k=n:=by omega
    have kI:¬(k:Int)<k:=by omega
    go_wp2_with fail
    go_ret
    exact⟨rfl,rfl⟩
theorem Ex.contains_any (A:Option Addr) (n cp B:Nat) (l:List Int) (c:Int) (w:World) (hn:l.length=n) (hN:n≤1000000) (hB:B≤w.heap.size) (hA:Sl w B A (l.map (Value.int .i32))) (hc:c∉l) :
 Calls Tryz.prog 153 #[.slice A n cp,.int .i32 c] w fun e w'=>e=.returned (.bool false)∧w'=w:=by
 have h:=Ex.index_any A n cp B l c w hn hN hB hA hc
 clear hn hc hA
 go_enter Tryz.func153,Tryz.ntmps153
 go_wp2_with fail
 refine h.mono ?_
 rintro e w1 ⟨rfl,rfl⟩
 go_wp2_with fail
 go_ret
 exact⟨rfl,rfl⟩
set_option maxHeartbeats 1000000 in
theorem Ex.char_any (s:ByteArray) (A:Option Addr) (n cp B:Nat) (l:List Int) (c:Int) (w:World) (hs:s.size≤1000000) (hn:l.length=n) (hN:n≤1000000) (hB:B≤w.heap.size) (hA:Sl w B A (l.map (Value.int .i32)))
 (hx:Fi.hex s.data.toList=some c) (hi:C.isC c=true) (hc:c∉l) :
 Calls Tryz.prog 117 #[.string s,.slice A n cp] w fun e w'=>e=.returned (.tuple #[.int .i32 c,.string ⟨#[]⟩])∧w'=w:=by
 have h1:∀W:World,Calls Tryz.prog 138 #[.string s] W fun e w'=>e=.returned (.tuple #[.int .i32 c,.bool true])∧w'=W:=fun W=>(Fi.hex_any s W).mono fun e w' h=>⟨by
  have:=h.1
  unfold Fi.RetHex at this
  rw[this,hx];rfl,h.2⟩
 have h2:=C.utfis_any c
 rw[hi]at h2
 have h3:=fun (W:World) (e:W=w)=>Ex.contains_any A n cp B l c W hn hN (by rw[e];exact hB) (by rw[e];exact hA) hc
 clear hx hi hc hA hn
 go_enter Tryz.func117,Tryz.ntmps117
 go_wp2_with fail
 refine (h1 _).mono ?_
 rintro e w1 ⟨rfl,rfl⟩
 go_wp2_with fail
 refine (h2 _).mono ?_
 rintro e w1 ⟨rfl,rfl⟩
 go_wp2_with fail
 refine (h3 _ rfl).mono ?_
 rintro e w1 ⟨rfl,rfl⟩
 go_wp2_with fail
 go_ret2
 exact⟨rfl,rfl⟩
theorem Ex.drop_le (c:UInt8):∀l:List UInt8,(l.dropWhile (· == c)).length≤l.length
 | []=>Zb _
 | b::l=>by
   rw[Yr]
   split
   · have:=Ex.drop_le c l;simp;omega
   · exact Zb _
theorem Ex.strip_le (x:List UInt8):(Lib.trimB (Lib.cut x [35]).1 32).length≤x.length:=by
 have h1:(Lib.cut x [35]).1.length≤x.length:=by unfold Lib.cut;split <;> simp <;> omega
 rw[Fi.trim_comm]
 unfold Lib.trimRightB Lib.trimLeftB
 rw[List.length_reverse]
 have h2:=Ex.drop_le 32 ((Lib.cut x [35]).1.dropWhile (· == 32)).reverse
 have h3:=Ex.drop_le 32 (Lib.cut x [35]).1
 rw[List.length_reverse]at h2
 omega
def Ex.RetParse (cs:List Int) (w:World) (e:Ending) (w':World):Prop :=
 ∃A c,e=.returned (.tuple #[.agg #[.slice A (C.chars cs).length c],.nilIface])∧Slt w' 21 A ((C.chars cs).map (Value.int .i32))∧Below w.heap.size w w'
set_option maxRecDepth 100000 in
set_option maxHeartbeats 4000000 in
theorem Ex.parse_any (s:ByteArray) (hs:s.size≤300000) (cs:List Int) (hp:Ex.parse s.data.toList=some cs) (w:World) (hL:Fi.LaidM w) :
 Calls Tryz.prog 77 #[.string s] w (Ex.RetParse cs w):=by
 unfold Ex.parse at hp
 split at hp
 case isFalse=>cases hp
 rename_i h0
 obtain⟨a1,ar⟩:=h0
 have av:=Rw.lines_any s (by omega) a1
 have hl:∀x∈Rw.lns [] s.data.toList,x.length≤1000:=fun x hx=>by
  rw[Ya]at a1
  have:=a1 x hx
  unfold Rw.okl at this
  rw[Zx,Zp]at this
  exact this.1
 obtain⟨L,bi⟩:∃L,Rw.lns [] s.data.toList=L:=⟨_,rfl⟩
 rw[bi]at hp av ar hl
 obtain⟨n,hn⟩:∃n,L.length=n:=⟨_,rfl⟩
 have HP:=Za hp
 have b1:=Za hl
 have HN:=Za hn
 obtain⟨i0,hi,bo,bw,bp⟩:=Yf infoRune
 rw[hn]at ar
 unfold Rw.RetLines at av
 rw[hn]at av
 clear a1 hp bi hl hn
 go_enter Tryz.func77,Tryz.ntmps77
 go_wp2_with fail
 refine (av _).mono ?_
 rintro e w1 ⟨A,c,rfl,hA,bc⟩
 have a8:Below w.heap.size w w1:=((Zd _ _).alloc (Zb _) _).trans (bc.mono (by simp))
 have bq:Rw.At w1 w.heap.size 113 [.slice none 0 0]:=(Rw.At.new w 113 [.slice none 0 0]).below bc
 have b3:=Za (hL.below a8)
 have HA:=Za hA
 have bk:=Za a8
 clear hA bc hL av a8
 go_wp2_with fail
 go_loopw [6,7,8,9,10,22] (fun v _ _ _ _ i wr=>∃(k:Nat) (seen:List Int),k≤n∧i=.int .i64 k∧Ex.steps [] (L.take k)=some seen∧wr.ownsRow w1.heap.size 21 1 v seen.length (seen.map (Value.int .i32))∧Below w1.heap.size w1 wr)
  (fun _ _ _ _ _ i _=>n-(intOf i).toNat)
 case atStart=>exact⟨0,[],Zz _,rfl,rfl,ZG _ _ _ _,Zd _ _⟩
 case round =>
  obtain⟨k,seen,hk,rfl,ak,ag,ae⟩:=hrel
  have hz:=ae.size
  have br:=Ex.steps_len _ ak
  simp only[Z9,Z2]at br
  have b5:(L.take k).length≤k:=Xh _ _
  by_cases hlt:k<n
  · obtain⟨x,hx⟩:∃x,L[k]?=some x:=⟨_,Zc (by rw[HN.out];exact hlt)⟩
    obtain⟨bm,h1,h2⟩:=Ex.steps_take HP.out hx ak
    obtain⟨ab,ao,rfl,b2,bn⟩:=HA.out (by rw[Zf,HN.out];omega)
    have hc:=bn k (by rw[Zf,HN.out];exact hlt)
    rw[Zl,hx,Zn,←(bcell ae).1 _ _ b2]at hc
    have b6:=b1.out x (Zk hx)
    have hS:=Fi.strip_any ⟨x.toArray⟩ (by show x.toArray.size<_;simp;omega) wr (b3.out.below ae)
    rw[show (⟨x.toArray⟩:ByteArray).data.toList=x from rfl]at hS
    obtain⟨bx,bl⟩:∃bx:ByteArray,⟨x.toArray⟩=bx:=⟨_,rfl⟩
    rw[bl]at hc hS
    obtain⟨sx,bg⟩:∃sx:ByteArray,⟨(Fi.strip x).toArray⟩=sx:=⟨_,rfl⟩
    rw[bg]at hS
    have bf:sx.data.toList=Fi.strip x:=by rw[←bg]
    have kI:(k:Int)<n:=by omega
    have bs:ab<wr.heap.size:=by omega
    have HX:=Za h2
    have ai:=Za ae
    have bh:=Za ag
    have HH:=Za h1
    have bb:=Za bf
    have bu:sx.size≤1000000:=by
     have h3:sx.data.toList.length=sx.size:=by simp
     have h4:(Fi.strip x).length≤x.length:=by
      unfold Fi.strip
      exact Ex.strip_le x
     rw[bf]at h3
     omega
    clear bn hx h1 h2 ae bl bg ag ak bf
    go_wp2_with fail
    refine hS.mono ?_
    rintro e w2 ⟨rfl,aj⟩
    have aa:=own_below bh.out aj (Zb _)
    have ay:=Za (ai.out.trans (aj.mono hz))
    have b4:w1.heap.size≤w2.heap.size:=Zh hz aj.size
    clear aj hS
    rcases Ex.line_some HH.out with ⟨he,rfl⟩|⟨ch,hne,ax,aw,au,rfl⟩
    · have a7:sx.toList.isEmpty=true:=by rw[Yw sx,bb.out,he];rfl
      have af:=Za aa
      clear he aa
      go_wp2_with fail
      exact⟨⟨k+1,_,by omega,by go_num,HX.out,af.out,ay.out⟩,by simp[intOf];omega⟩
    · have a7:sx.toList.isEmpty=false:=by
       rw[Yw sx,bb.out]
       rcases hl:Fi.strip x with _|⟨q,r⟩
       · exact absurd hl hne
       · rfl
      obtain⟨Av,cv,rfl⟩:=own_form aa
      have az:=Ex.char_any sx Av seen.length cv w2.heap.size seen ch w2 bu rfl (by omega) (Zb _) (Sl.of_own aa) (by rw[bb.out];exact ax) aw au
      have af:=Za aa
      clear hne ax aw au aa
      go_wp2_with fail
      refine az.mono ?_
      rintro e w3 ⟨rfl,rfl⟩
      go_wp2_with (first|(at_builtin;refine wpList_push1 _ rfl _ _ _ rfl w1.heap.size 21 i0 _ 4 Tryz.underlying25 hi bo bw bp rfl _ seen.length _ rfl af.out _ rfl rfl (by simp only[maxLen];omega) (by omega) b4 ?_;intro v1 w4 ap bz)|fail)
      exact⟨⟨k+1,_,by omega,by go_num,HX.out,by rw[Zi,ZO];exact ap,ay.out.trans bz⟩,by simp[intOf];omega⟩
  · obtain rfl:k=n:=by omega
    have kI:¬(k:Int)<k:=by omega
    have ba:seen=cs:=by
     rw[Zj (by rw[HN.out];exact Zb _),HP.out,Zg]at ak
     exact ak.symm
    subst ba
    obtain⟨Av,cv,rfl⟩:=own_form ag
    have az:=C.chars_any Av seen.length cv wr.heap.size seen wr rfl (by omega) (Zb _) (Sl.of_own ag)
    have aq:=bq.below ae
    have ai:=Za (bk.out.trans (ae.mono bk.out.size))
    clear ak ag ae
    go_wp2_with fail
    refine az.mono ?_
    rintro e w2 ⟨A2,c2,rfl,aa,aj⟩
    have ah:=aq.below aj
    have z0:=ah.cell 0 rfl
    have g0:=ah.frozen 0
    have bj:=Slt.of_own aa
    have ay:=Za (ai.out.trans (aj.mono ai.out.size))
    have bt:=Za bj
    clear bj aa aj az aq
    go_wp2_with fail
    have a6:=ah.set 0 (.slice A2 (C.chars seen).length c2)
    refine Yy (Rw.results2 rfl _ _ w.heap.size _ _ _ _ rfl a6 Tryz.underlying113 rfl (by kernel_rfl)) rfl ⟨A2,c2,rfl,?_,?_⟩
    · exact bt.out.setAt ah (by decide) 0 _
    · exact ay.out.setCell (p:=⟨w.heap.size,0,none⟩) (Zb _) _
theorem Rw.Laid.max {w:World} (h:Rw.Laid w):Fi.LaidM w:=h.1.1
set_option maxRecDepth 100000 in
set_option maxHeartbeats 2000000 in
theorem Ud.load_any (u x:ByteArray) (hu:u.size≤1000000) (aj:x.size≤300000) (T:List Rw.Row) (cs:List Int) (hp:Rw.parse u.data.toList=some T) (hx:Ex.parse x.data.toList=some cs) (ok:Ud.Ok T (C.chars cs)) (hbd:Md.bd T) (w:World) (hL:Rw.Laid w) :
 Calls Tryz.prog 24 #[.string u,.string x] w (Ud.RetOf T (C.chars cs) w):=by
 have hP:=Rw.parse_any u hu T hp w hL
 have HX:=Za (fun W (hW:Below w.heap.size w W)=>Ex.parse_any x aj cs hx W (hL.next hW).max)
 have HO:=Za (fun v W h=>Ud.of_any v T (C.chars cs) W h ok hbd)
 unfold Ex.RetParse at HX
 obtain⟨S,hS⟩:∃S,C.chars cs=S:=⟨_,rfl⟩
 rw[hS]at HX HO ⊢
 clear hp hx ok hbd hS hu aj hL
 go_enter Tryz.func24,Tryz.ntmps24
 go_wp2_with fail
 refine hP.mono ?_
 rintro e w1 ⟨A,c,rfl,aa,ag⟩
 have ap:=HX.out w1 ag
 have HT:=Za aa.sees
 have ah:=Za ag
 clear hP HX aa ag
 go_wp2_with fail
 refine ap.mono ?_
 rintro e w2 ⟨A2,c2,rfl,aq,af⟩
 have ae:Below w2.heap.size w2 (w2.alloc (.cells #[.slice A2 S.length c2] 113)):=(Zd _ _).alloc (Zb _) _
 have hn:=Rw.At.new w2 113 [.slice A2 S.length c2]
 have z0:=hn.cell 0 rfl
 have ak:Md.Is (w2.alloc (.cells #[.slice A2 S.length c2] 113)) (Md.tv A T.length c A2 S.length c2) T S:=⟨A,c,A2,c2,rfl,(HT.out.below af).below ae,aq.sl.below ae ae.size⟩
 have ai:=HO.out _ _ ak
 have ar:=Za ((ah.out.trans (af.mono ah.out.size)).trans (ae.mono (Zh ah.out.size af.size)))
 unfold Md.tv at ai
 clear ap aq af ae hn ak HO
 go_wp2_with fail
 refine ai.mono ?_
 rintro e w3 ⟨p,rfl,au,ao⟩
 have HI:=Za au
 have av:=Za (ar.out.trans (ao.mono ar.out.size))
 clear ai au ao
 go_wp2_with fail
 go_ret2
 exact⟨p,rfl,HI.out,av.out⟩
end Go.Proofs.YtbeakahjbkdeiaaGreatDoor
namespace Go.Proofs.YtbeakahjbkdeiaaGreatDoor
open Go.RowKit Go.Stop
set_option linter.unusedSimpArgs false
set_option linter.unusedVariables false
theorem Fi.dec_step {u x:Nat} {s:List UInt8} (hx:0<x) (h:Lib.decDigits u=Lib.decDigits x++s) :
 Lib.decDigits u=(if x/10=0 then [] else Lib.decDigits (x/10))++(UInt8.ofNat (48+x%10)::s):=by
 rw[h,Lib.decDigits]
 by_cases hx10:x<10
 · rw[dif_pos hx10,Zv (by omega),Xi hx10];rfl
 · rw[dif_neg hx10,Zs (by omega),ZN];rfl
set_option maxRecDepth 100000 in
set_option maxHeartbeats 4000000 in
theorem Fi.digits_any (u:Nat) (w:World) (hu:u<9223372036854775808) :
 Calls Tryz.prog 112 #[.int .i64 u] w fun e w'=>e=.returned (.string ⟨(Lib.decDigits u).toArray⟩)∧Below w.heap.size w w':=by
 go_enter Tryz.func112,Tryz.ntmps112
 go_wp2
 go_loopw [0,3,4] (fun vx vs vi wr=>∃(i x:Nat) (s:List UInt8),vx=.int .i64 x∧vs=.string ⟨s.toArray⟩∧vi=.int .i64 i∧i≤64∧s.length=i∧x<2 ^ (63-i)∧((i=0∧x=u∧s=[])∨(0<i∧Lib.decDigits u=(if x=0 then [] else Lib.decDigits x)++s))∧Below w.heap.size w wr) (fun _ _ vi _=>65-(intOf vi).toNat)
 case atStart=>exact⟨0,u,[],rfl,rfl,rfl,by omega,rfl,by simpa using hu,.inl ⟨rfl,rfl,rfl⟩,Below.refl _ _⟩
 case round =>
  obtain⟨i,x,s,rfl,rfl,rfl,hi,ar,hx,af,ae⟩:=hrel
  obtain⟨w1,rfl⟩:∃w1:World,w1=wr:=⟨_,rfl⟩
  have av:=ae.size
  have az:=Za ae
  have hC:=Fi.conv1 w1 (48+(x:Int)%10)
  rw[show (48+(x:Int)%10).toNat=48+x%10 by omega]at hC
  have aq:=Za ar
  have ax:¬9223372036854775807<1+s.length:=by omega
  have ao:=Za (ae.alloc av (.cells #[.int .u8 (48+(x:Int)%10)] 5))
  clear ar
  have aw:x<9223372036854775808:=by
   have:2 ^ (63-i)≤2 ^ 63:=YW (by decide) (by omega)
   have e:(2:Nat) ^ 63=9223372036854775808:=by decide
   omega
  by_cases hgo:i=0∨0<x
  · have ai:Lib.decDigits u=(if x/10=0 then [] else Lib.decDigits (x/10))++(UInt8.ofNat (48+x%10)::s):=by
     rcases af with ⟨rfl,rfl,rfl⟩|⟨h0,h⟩
     · rcases YC x with rfl|hp
       · rw[Lib.decDigits];rfl
       · exact Fi.dec_step hp (by simp)
     · have hp:0<x:=by omega
       rw[Zs (by omega)]at h
       exact Fi.dec_step hp h
    have ay:i<63:=by
     rcases hgo with rfl|hp
     · omega
     · rcases ZY i 63 with h|h
       · exact h
       · have:63-i=0:=by omega
         rw[this]at hx;omega
    have ak:x/10<2 ^ (63-(i+1)):=by
     have e:63-i=(63-(i+1))+1:=by omega
     rw[e,YR]at hx
     omega
    have ah:=Za ai
    have au:=Za ak
    clear ai ak hx af ae
    obtain⟨dg,aj⟩:∃dg,UInt8.ofNat (48+x%10)=dg:=⟨_,rfl⟩
    rw[aj]at hC ah
    have aa:=Za (Fi.ba_app [dg] s)
    clear aj
    rcases YC i with ag|hp
    · have HI:=Za ag
      subst ag
      go_wp2
      refine⟨⟨1,x/10,dg::s,by go_num,by first|exact Z5 Value.string aa.out|(congr 1;exact aa.out),rfl,by omega,by rw[ZM,aq.out],au.out,.inr ⟨by omega,ah.out⟩,ao.out⟩,by simp[intOf]⟩
    · have hne:¬(i:Int)=0:=by omega
      have ap:0<x:=by omega
      have a1:(x:Int) > 0:=by omega
      go_wp2
      refine⟨⟨i+1,x/10,dg::s,by go_num,by first|exact Z5 Value.string aa.out|(congr 1;exact aa.out),by go_num,by omega,by rw[ZM,aq.out],au.out,.inr ⟨by omega,ah.out⟩,ao.out⟩,by simp[intOf];omega⟩
  · have ap:x=0:=by omega
    have ag:0<i:=by omega
    subst ap
    have hf:Lib.decDigits u=s:=by
     rcases af with ⟨h,_⟩|⟨_,h⟩
     · omega
     · simpa using h
    have HF:=Za hf
    have hne:¬(i:Int)=0:=by omega
    clear af hf hx hgo hC
    go_wp2
    go_ret
    exact⟨by rw[HF.out];rfl,ae⟩
end Go.Proofs.YtbeakahjbkdeiaaGreatDoor
namespace Go.Proofs.YtbeakahjbkdeiaaGreatDoor
open Go.RowKit
set_option linter.unusedSimpArgs false
set_option linter.unusedVariables false
theorem Rw.third {P Q:Prop} {W w':World} {B:Nat} (h:P∧Q∧Below B W w'):Below B W w':=h.2.2
theorem Rw.keep2 {W w':World} {B b1 b2 o1 o2:Nat} {v1 v2:Value} (d1:W.cell? ⟨b1,o1,none⟩=some v1) (d2:W.cell? ⟨b2,o2,none⟩=some v2) (h1:b1<B) (h2:b2<B) (h:Below B W w') :
 w'.cell? ⟨b1,o1,none⟩=some v1∧w'.cell? ⟨b2,o2,none⟩=some v2∧Below B W w':=⟨((bcell h).1 _ _ h1).trans d1,((bcell h).1 _ _ h2).trans d2,h⟩
theorem Rw.rtext_int (v:Int) (h0:0≤v) (h1:v<16777216) (w:World) :
 Calls Tryz.prog 111 #[.int .i64 v] w fun e w'=>e=.returned (.string ⟨(Fi.text v.toNat).toArray⟩)∧Below w.heap.size w w':=by
 obtain⟨n,rfl⟩:∃n:Nat,v=n:=⟨v.toNat,by omega⟩
 rw[YQ]
 exact Fi.rtext_any n (by omega) w
theorem Rw.rdig_int (v:Int) (h0:0≤v) (h1:v<9223372036854775808) (w:World) :
 Calls Tryz.prog 112 #[.int .i64 v] w fun e w'=>e=.returned (.string ⟨(Lib.decDigits v.toNat).toArray⟩)∧Below w.heap.size w w':=by
 obtain⟨n,rfl⟩:∃n:Nat,v=n:=⟨v.toNat,by omega⟩
 rw[YQ]
 exact Fi.digits_any n w (by omega)
theorem Rw.ba_size (l:List UInt8):(⟨l.toArray⟩:ByteArray).size=l.length:=by show l.toArray.size=_;simp
def Rw.mtext (m:List Int):List UInt8:=Fi.glue 32 (m.map fun c=>Fi.text c.toNat)
theorem Rw.mtext_snoc (m:List Int) (c:Int):Rw.mtext (m++[c])=(if m=[] then Fi.text c.toNat else Rw.mtext m++32::Fi.text c.toNat):=by
 unfold Rw.mtext
 rw[ZO,Xp,Fi.glue_snoc]
 rcases m with _|⟨a,t⟩ <;> simp
theorem Rw.mtext_len:∀(k:Nat) (m:List Int),m.length=k→(∀c∈m,0≤c∧c<16777216)→(Rw.mtext m).length≤7*k
 | 0,m,h,_=>by
   obtain rfl:m=[]:=List.length_eq_zero_iff.1 h
   simp[Rw.mtext,Fi.glue]
 | k+1,m,h,hc=>by
   rcases YI m with rfl|⟨t,c,aa⟩
   · simp at h
   rw[YJ]at aa
   subst aa
   have ih:=Rw.mtext_len k t (by simpa using h) fun x hx=>hc x (by simp[hx])
   have h1:=hc c (by simp)
   have h2:=Fi.nd_le 5 c.toNat (by rw[show (16:Nat) ^ (5+1)=16777216 from by decide];omega)
   have h3:=Fi.text_len c.toNat
   rw[Rw.mtext_snoc]
   split
   · omega
   · simp;omega
set_option maxRecDepth 100000 in
set_option maxHeartbeats 4000000 in
theorem Rw.rline_any (c k:Int) (A:Option Addr) (m:List Int) (n cp B:Nat) (w:World) (c0:0≤c) (c1:c<16777216) (k0:0≤k) (k1:k<1000000000) (hn:m.length=n) (hm:n≤1000) (hmb:∀x∈m,0≤x∧x<16777216)
 (hB:B≤w.heap.size) (hA:Sl w B A (m.map (Value.int .i64))) :
 Calls Tryz.prog 73 #[.agg #[.int .i64 c,.int .i64 k,.slice A n cp]] w fun e w'=>e=.returned (.string ⟨(Rw.line (c,k,m)).toArray⟩)∧Below w.heap.size w w':=by
 have hT:=Rw.rtext_int c c0 c1
 have hD:=Rw.rdig_int k k0 (by omega)
 have l1:(Fi.text c.toNat).length≤6:=by
  have h2:=Fi.nd_le 5 c.toNat (by rw[show (16:Nat) ^ (5+1)=16777216 from by decide];omega)
  have h3:=Fi.text_len c.toNat
  omega
 have l2:=Fi.dec_len 9 k.toNat (by rw[show (10:Nat) ^ (9+1)=10000000000 from by decide];omega)
 obtain⟨tc,a1⟩:∃x:ByteArray,⟨(Fi.text c.toNat).toArray⟩=x:=⟨_,rfl⟩
 obtain⟨dk,az⟩:∃x:ByteArray,⟨(Lib.decDigits k.toNat).toArray⟩=x:=⟨_,rfl⟩
 have s1:tc.size≤6:=by rw[←a1,Rw.ba_size];exact l1
 have s2:dk.size≤10:=by rw[←az,Rw.ba_size];exact l2
 simp only[a1]at hT
 simp only[az]at hD
 obtain⟨mt,aq⟩:∃x:ByteArray,⟨(Rw.mtext m).toArray⟩=x:=⟨_,rfl⟩
 have s3:mt.size≤7000:=by
  rw[←aq,Rw.ba_size]
  have:=Rw.mtext_len n m hn hmb
  omega
 have ax:(((((tc++⟨#[59,88,59,59]⟩)++dk)++⟨#[59,59]⟩)++mt)++⟨#[59,59,59,59,59,59,59,59,59]⟩:ByteArray)=⟨(Rw.line (c,k,m)).toArray⟩:=by
  rw[←a1,←az,←aq,show (⟨#[59,88,59,59]⟩:ByteArray)=⟨[59,88,59,59].toArray⟩ from rfl,show (⟨#[59,59]⟩:ByteArray)=⟨[59,59].toArray⟩ from rfl,show (⟨#[59,59,59,59,59,59,59,59,59]⟩:ByteArray)=⟨[59,59,59,59,59,59,59,59,59].toArray⟩ from rfl]
  simp only[Fi.ba_app]
  unfold Rw.line Rw.mtext
  simp only[ZN]
 have HR:=Za ax
 have HN:=Za hn
 have bi:=Za hmb
 have bm:=Za aq
 clear ax a1 az hn hmb aq l1 l2
 have ap:=Rw.At.new w 43 [.int .i64 c,.int .i64 k,.slice A n cp]
 obtain⟨d1,d2,d3,d4,d5,d6⟩:=ap.three
 clear d4 d5 d6
 go_enter Tryz.func73,Tryz.ntmps73
 go_wp2_with fail
 obtain⟨wa,ay⟩:∃wa,w.alloc (.cells #[.int .i64 c,.int .i64 k,.slice A n cp] 43)=wa:=⟨_,rfl⟩
 have a6:w.heap.size<wa.heap.size:=by rw[←ay];simp
 have ag:Below w.heap.size w wa:=by rw[←ay];exact (Zd _ _).alloc (Zb _) _
 have aj:Rw.At wa w.heap.size 43 [.int .i64 c,.int .i64 k,.slice A n cp]:=by rw[←ay];exact ap
 clear d1 d2 d3
 rw[ay]
 have HA:=Za (hA.below (ag.mono hB) (Z3 (Nat.lt_of_le_of_lt hB a6)))
 have bp:=Za ag
 clear ay ap hA ag
 go_loopw [3,4,5,9] (fun v3 _ _ i wr=>∃j:Nat,j≤n∧i=.int .i64 j∧v3=.string ⟨(Rw.mtext (m.take j)).toArray⟩∧Below wa.heap.size wa wr) (fun _ _ _ i _=>n-(intOf i).toNat)
 case atStart=>exact⟨0,Zz _,rfl,rfl,Zd _ _⟩
 case round =>
  obtain⟨j,hj,rfl,rfl,ae⟩:=hrel
  by_cases hlt:j<n
  · obtain⟨x,hx⟩:∃x,m[j]?=some x:=⟨_,Zc (by rw[HN.out];exact hlt)⟩
    have hxb:=bi.out x (Zk hx)
    obtain⟨ab,ao,rfl,bn,bj⟩:=HA.out (by rw[Zf,HN.out];omega)
    have hc:=bj j (by rw[Zf,HN.out];exact hlt)
    rw[Zl,hx,Zn,←(bcell ae).1 _ _ bn]at hc
    have hX:=Rw.rtext_int x hxb.1 hxb.2
    have bo:(⟨(Rw.mtext (m.take j)).toArray⟩:ByteArray).size≤7000:=by
     rw[Rw.ba_size]
     have:=Rw.mtext_len (m.take j).length (m.take j) rfl (fun y hy=>bi.out y (Yn hy))
     have:(m.take j).length≤j:=Xh _ _
     omega
    have bk:(⟨(Fi.text x.toNat).toArray⟩:ByteArray).size≤6:=by
     rw[Rw.ba_size]
     have h2:=Fi.nd_le 5 x.toNat (by rw[show (16:Nat) ^ (5+1)=16777216 from by decide];omega)
     have h3:=Fi.text_len x.toNat
     omega
    have ak:m.take (j+1)=m.take j++[x]:=by rw[Zr,hx];rfl
    have aa:m.take j=[]↔j=0:=by
     constructor
     · intro h
       have:=Z5 List.length h
       rw[Zm,HN.out,Z9]at this
       omega
     · rintro rfl;rfl
    obtain⟨ms,bb⟩:∃y:ByteArray,⟨(Rw.mtext (m.take j)).toArray⟩=y:=⟨_,rfl⟩
    obtain⟨tx,ah⟩:∃y:ByteArray,⟨(Fi.text x.toNat).toArray⟩=y:=⟨_,rfl⟩
    have au:(if j=0 then ms++tx else ms++⟨#[32]⟩++tx)=⟨(Rw.mtext (m.take (j+1))).toArray⟩:=by
     rw[ak,Rw.mtext_snoc,←bb,←ah]
     by_cases h0:j=0
     · rw[Zv h0,Zv (aa.2 h0),aa.2 h0]
       simp[Rw.mtext,Fi.glue,Fi.ba_app]
     · rw[Zs h0,Zs (fun h=>h0 (aa.1 h)),show (⟨#[32]⟩:ByteArray)=⟨[32].toArray⟩ from rfl]
       simp only[Fi.ba_app]
       simp
    rw[bb]at bo ⊢
    rw[ah]at bk
    simp only[ah]at hX
    have ai:=Za au
    have af:=Za ae
    have bh:¬9223372036854775807<ms.size+tx.size:=by omega
    have bf:¬9223372036854775807<ms.size+(⟨#[32]⟩:ByteArray).size:=by have:(⟨#[32]⟩:ByteArray).size=1:=rfl;omega
    have bg:¬9223372036854775807<(ms++⟨#[32]⟩).size+tx.size:=by
     have:(⟨#[32]⟩:ByteArray).size=1:=rfl
     rw[ZQ];omega
    have a8:(j:Int)<n:=by omega
    clear ak aa bb ah au ae hx bj
    by_cases h0:j=0
    · subst h0
      rw[Zv rfl]at ai
      rw[YS]at hc
      go_wp2_with fail
      refine (hX _).mono ?_
      rintro e w3 ⟨rfl,av⟩
      have ba:=Za av
      clear av
      go_wp2_with fail
      exact⟨⟨1,by omega,rfl,by rw[ai.out],af.out.trans (ba.out.mono af.out.size)⟩,by simp[intOf];omega⟩
    · rw[Zs h0]at ai
      have h1:(0:Int)<(j:Int):=by omega
      go_wp2_with fail
      refine (hX _).mono ?_
      rintro e w3 ⟨rfl,av⟩
      have ba:=Za av
      clear av
      go_wp2_with fail
      exact⟨⟨j+1,by omega,by go_num,by rw[ai.out],af.out.trans (ba.out.mono af.out.size)⟩,by simp[intOf];omega⟩
  · obtain rfl:j=n:=by omega
    have a8:¬(j:Int)<j:=by omega
    have aq:(⟨(Rw.mtext (m.take j)).toArray⟩:ByteArray)=mt:=by rw[Zj (by rw[HN.out];exact Zb _)];exact bm.out
    rw[aq]
    obtain⟨d1,d2,d3,_,_,_⟩:=(aj.below ae).three
    have ar:w.heap.size<wr.heap.size:=Ze a6 ae.size
    have af:=Za ae
    clear aq ae aj d3
    have bq:¬9223372036854775807<tc.size+(⟨#[59,88,59,59]⟩:ByteArray).size:=by have:(⟨#[59,88,59,59]⟩:ByteArray).size=4:=rfl;omega
    have bz:¬9223372036854775807<(tc++(⟨#[59,88,59,59]⟩:ByteArray)).size+dk.size:=by
     have:(⟨#[59,88,59,59]⟩:ByteArray).size=4:=rfl
     rw[ZQ];omega
    have br:¬9223372036854775807<(tc++(⟨#[59,88,59,59]⟩:ByteArray)++dk).size+(⟨#[59,59]⟩:ByteArray).size:=by
     have:(⟨#[59,88,59,59]⟩:ByteArray).size=4:=rfl
     have:(⟨#[59,59]⟩:ByteArray).size=2:=rfl
     simp only[ZQ];omega
    have bt:¬9223372036854775807<(tc++(⟨#[59,88,59,59]⟩:ByteArray)++dk++(⟨#[59,59]⟩:ByteArray)).size+mt.size:=by
     have:(⟨#[59,88,59,59]⟩:ByteArray).size=4:=rfl
     have:(⟨#[59,59]⟩:ByteArray).size=2:=rfl
     simp only[ZQ];omega
    have b2:¬9223372036854775807<(tc++(⟨#[59,88,59,59]⟩:ByteArray)++dk++(⟨#[59,59]⟩:ByteArray)++mt).size+(⟨#[59,59,59,59,59,59,59,59,59]⟩:ByteArray).size:=by
     have:(⟨#[59,88,59,59]⟩:ByteArray).size=4:=rfl
     have:(⟨#[59,59]⟩:ByteArray).size=2:=rfl
     have:(⟨#[59,59,59,59,59,59,59,59,59]⟩:ByteArray).size=9:=rfl
     simp only[ZQ];omega
    have bx:¬9223372036854775807<tc.size+4:=by omega
    have bu:¬9223372036854775807<tc.size+4+dk.size:=by omega
    have b1:¬9223372036854775807<tc.size+4+dk.size+2:=by omega
    have bw:¬9223372036854775807<tc.size+4+dk.size+2+mt.size:=by omega
    have bs:¬9223372036854775807<tc.size+4+dk.size+2+mt.size+9:=by omega
    have bc:Below wr.heap.size wr wr:=Zd _ _
    go_wp2_with fail
    go_region_held3 (fun w'=>w'.cell? ⟨w.heap.size,0,none⟩=some (.int .i64 c)∧w'.cell? ⟨w.heap.size,1,none⟩=some (.int .i64 k)∧Below wr.heap.size wr w')
     (first
       | exact Rw.keep2 d1 d2 ar ar bc
       | exact Rw.keep2 d1 d2 ar ar bc.drew
       | exact Rw.keep2 d1 d2 ar ar aw
       | fail)
     (first
       | (go_at_call 111;refine (hT _).mono ?_;rintro e wq ⟨rfl,a7⟩;have aw:=(Rw.third (W:=wr) (by assumption)).trans (a7.mono (Rw.third (W:=wr) (by assumption)).size))
       | (go_at_call 112;refine (hD _).mono ?_;rintro e wq ⟨rfl,a7⟩;have aw:=(Rw.third (W:=wr) (by assumption)).trans (a7.mono (Rw.third (W:=wr) (by assumption)).size))
       | fail)
    all_goals
     have bl:=Za (Rw.third (W:=wr) (by assumption))
     go_wp2_with fail
     go_ret
     exact⟨by rw[←HR.out];rfl,bp.out.trans ((af.out.trans (bl.out.mono af.out.size)).mono (Z3 a6))⟩
set_option maxRecDepth 100000 in
set_option maxHeartbeats 2000000 in
theorem Ud.rtext_any (A:Option Addr) (n c:Nat) (T:List Rw.Row) (w:World) (hn:T.length=n) (a8:n≤1000) (hr:∀r∈T,Rw.right r) (hA:Rw.SeesI w A T) :
 Calls Tryz.prog 161 #[.slice A n c] w fun e w'=>e=.returned (.string ⟨(Rw.txt T).toArray⟩)∧Below w.heap.size w w':=by
 have HN:=Za hn
 have HR:=Za hr
 have HA:=Za hA
 clear hn hr hA
 go_enter Tryz.func161,Tryz.ntmps161
 go_wp2_with fail
 go_loopw [3,5,8] (fun v3 _ i wr=>∃j:Nat,j≤n∧i=.int .i64 j∧v3=.string ⟨(Rw.txt (T.take j)).toArray⟩∧Below w.heap.size w wr) (fun _ _ i _=>n-(intOf i).toNat)
 case atStart=>exact⟨0,Zz _,rfl,rfl,Zd _ _⟩
 case round =>
  obtain⟨j,hj,rfl,rfl,aa⟩:=hrel
  by_cases hlt:j<n
  · obtain⟨r,hr⟩:∃r,T[j]?=some r:=⟨_,Zc (by rw[HN.out];exact hlt)⟩
    have ae:=HR.out r (Zk hr)
    obtain⟨b,o,a,rfl,hb,av,aw,au,ay⟩:=HA.out.row hr
    have c0:=((bcell aa).1 b (o+j*3) hb).trans av
    have c1:=((bcell aa).1 b (o+j*3+1) hb).trans aw
    have c2:=((bcell aa).1 b (o+j*3+2) hb).trans au
    have a7:b<wr.heap.size:=Ze hb aa.size
    obtain⟨ml,ak⟩:∃k,r.2.2.length=k:=⟨_,rfl⟩
    rw[ak]at c2
    have ao:Below wr.heap.size wr (wr.alloc (.cells #[.int .i64 r.1,.int .i64 r.2.1,.slice a.1 ml a.2] 43)):=(Zd _ _).alloc (Zb _) _
    have ag:=Rw.At.new wr 43 [.int .i64 r.1,.int .i64 r.2.1,.slice a.1 ml a.2]
    have aq:ml≤2:=by rw[←ak];exact ae.2.2.2.2.1
    have hL:=Rw.rline_any r.1 r.2.1 a.1 r.2.2 ml a.2 w.heap.size (wr.alloc (.cells #[.int .i64 r.1,.int .i64 r.2.1,.slice a.1 ml a.2] 43)) ae.1 (by have:=ae.2.1;omega) ae.2.2.1 (by have:=ae.2.2.2.1;omega) ak (by omega) (fun x hx=>by have:=ae.2.2.2.2.2 x hx;omega) (Zh aa.size ao.size) ((ay.below aa (Zb _)).below (ao.mono aa.size) (Zb _))
    have ax:=Rw.line_len r ae
    have a1:=Rw.txt_len (T.take j) (fun q hq=>HR.out q (Yn hq))
    have a6:(T.take j).length≤j:=Xh _ _
    have af:Rw.txt (T.take (j+1))=Rw.txt (T.take j)++(Rw.line r++[10]):=by
     rw[Zr,hr,Rw.txt_app]
     show _++Rw.txt [r]=_
     rw[Rw.txt_one]
    obtain⟨ln,ai⟩:∃y:ByteArray,⟨(Rw.line (r.1,r.2.1,r.2.2)).toArray⟩=y:=⟨_,rfl⟩
    obtain⟨st,aj⟩:∃y:ByteArray,⟨(Rw.txt (T.take j)).toArray⟩=y:=⟨_,rfl⟩
    have s1:ln.size≤1000:=by rw[←ai,Rw.ba_size];exact ax
    have s2:st.size≤1001000:=by rw[←aj,Rw.ba_size];omega
    have ah:st++(ln++⟨#[10]⟩)=⟨(Rw.txt (T.take (j+1))).toArray⟩:=by
     rw[af,←aj,←ai,show (⟨#[10]⟩:ByteArray)=⟨[10].toArray⟩ from rfl]
     simp only[Fi.ba_app]
    simp only[ai]at hL
    rw[aj]
    have jI:(j:Int)<n:=by omega
    have j0:(0:Int)≤j:=by omega
    obtain⟨d1,d2,d3,-,-,-⟩:=ag.three
    have ap:=Za ah
    have HB:=Za (aa.trans (ao.mono aa.size))
    clear av aw au ay hr ae ak ai aj ah af ax a1 a6 aa ao ag aq
    go_wp2_with fail
    refine hL.mono ?_
    rintro e w2 ⟨rfl,ar⟩
    have az:=Za (HB.out.trans (ar.mono HB.out.size))
    clear ar hL d1 d2 d3 c0 c1 c2
    go_wp2_with fail
    exact⟨⟨j+1,by omega,by go_num,by rw[←ap.out],az.out⟩,by simp[intOf];omega⟩
  · obtain rfl:j=n:=by omega
    have jI:¬(j:Int)<j:=by omega
    have he:Rw.txt (T.take j)=Rw.txt T:=by rw[Zj (by rw[HN.out];exact Zb _)]
    rw[he]
    have HB:=Za aa
    clear aa he
    go_wp2_with fail
    go_ret
    exact⟨rfl,HB.out⟩
def Ud.uniq (l:List Int):List Int:=l.foldl (fun acc c=>if c∈acc then acc else acc++[c]) []
theorem Ud.uniq_go:∀(l acc:List Int),acc.Nodup→(l.foldl (fun acc c=>if c∈acc then acc else acc++[c]) acc).Nodup∧∀d,d∈l.foldl (fun acc c=>if c∈acc then acc else acc++[c]) acc↔d∈acc∨d∈l
 | [],acc,h=>⟨h,fun d=>by simp⟩
 | c::l,acc,h=>by
   rw[Xb]
   by_cases hc:c∈acc
   · rw[Zv hc]
     obtain⟨h1,h2⟩:=Ud.uniq_go l acc h
     refine⟨h1,fun d=>?_⟩
     rw[h2 d,XO]
     constructor
     · rintro (h|h)
       · exact .inl h
       · exact .inr (.inr h)
     · rintro (h|rfl|h)
       · exact .inl h
       · exact .inl hc
       · exact .inr h
   · rw[Zs hc]
     obtain⟨h1,h2⟩:=Ud.uniq_go l (acc++[c]) (by
      rw[List.nodup_append]
      refine⟨h,by simp,fun a ha b hb=>?_⟩
      rw[Zy]at hb
      rw[hb]
      exact fun e=>hc (e▸ha))
     refine⟨h1,fun d=>?_⟩
     rw[h2 d,YZ,Zy,XO,or_assoc]
theorem Ud.uniq_nodup (l:List Int):(Ud.uniq l).Nodup:=(Ud.uniq_go l [] List.nodup_nil).1
theorem Ud.uniq_mem (l:List Int) (d:Int):d∈Ud.uniq l↔d∈l:=by
 unfold Ud.uniq
 rw[(Ud.uniq_go l [] List.nodup_nil).2 d]
 simp
theorem Ud.uniq_snoc (l:List Int) (c:Int):Ud.uniq (l++[c])=if c∈l then Ud.uniq l else Ud.uniq l++[c]:=by
 have h:=Ud.uniq_mem l c
 unfold Ud.uniq at h ⊢
 rw[YY,Xb,List.foldl_nil]
 by_cases hc:c∈l
 · rw[Zv hc,Zv (h.2 hc)]
 · rw[Zs hc,Zs (fun x=>hc (h.1 x))]
theorem Ud.uniq_len (l:List Int):(Ud.uniq l).length≤l.length:=by
 unfold Ud.uniq
 have:∀(l acc:List Int),(l.foldl (fun acc c=>if c∈acc then acc else acc++[c]) acc).length≤acc.length+l.length:=by
  intro l
  induction l with
  | nil=>intro acc;simp
  | cons c l ih =>
    intro acc
    rw[Xb]
    refine Zh (ih _) ?_
    split
    · simp
    · simp;omega
 simpa using this l []
set_option maxRecDepth 100000 in
set_option maxHeartbeats 2000000 in
theorem Ud.texts_any (A:Option Addr) (n c:Nat) (XA:Option Addr) (xn xc:Nat) (T:List Rw.Row) (E:List Int) (w:World) (hn:T.length=n) (bi:n≤1000) (hxn:E.length=xn) (bp:xn≤1000) (bg:xn≤xc)
 (hr:∀r∈T,Rw.right r) (hE:∀x∈E,0≤x∧x≤1114111) (hA:Rw.SeesI w A T) (hX:Sl w w.heap.size XA (E.map (Value.int .i64))) :
 Calls Tryz.prog 126 #[.agg #[.slice A n c,.slice XA xn xc]] w fun e w'=>e=.returned (.tuple #[.string ⟨(Rw.txt T).toArray⟩,.string ⟨(Ex.btxt (Ud.uniq E)).toArray⟩])∧Below w.heap.size w w':=by
 have HT:=Za (fun W (hW:Below w.heap.size w W)=>Ud.rtext_any A n c T W hn bi hr (hA.below hW))
 have HE:=Za hE
 have ax:=Za hxn
 obtain⟨t1,az⟩:∃y:ByteArray,⟨(Rw.txt T).toArray⟩=y:=⟨_,rfl⟩
 obtain⟨t2,a7⟩:∃y:ByteArray,⟨(Ex.btxt (Ud.uniq E)).toArray⟩=y:=⟨_,rfl⟩
 simp only[az]at HT
 rw[az,a7]
 have bk:=Za a7
 have a8:=Rw.At.new w 31 [.slice A n c,.slice XA xn xc]
 have av:Below w.heap.size w (w.alloc (.cells #[.slice A n c,.slice XA xn xc] 31)):=(Zd _ _).alloc (Zb _) _
 obtain⟨w0,au⟩:∃w0,w.alloc (.cells #[.slice A n c,.slice XA xn xc] 31)=w0:=⟨_,rfl⟩
 have ah:Rw.At w0 w.heap.size 31 [.slice A n c,.slice XA xn xc]:=by rw[←au];exact a8
 rw[au]at av
 have bn:=Za au
 have bq:=Za ah
 have HB:=Za av
 have HX:=Za (hX.below av (Zb _))
 have y1:=ah.cell 1 rfl
 have yl:=ah.lt
 clear hn hr hE hxn hA hX a8 av au ah az a7
 go_enter Tryz.func126,Tryz.ntmps126
 go_upto_region 1 with (fail)
 rw[bn.out]
 go_wp2_with fail
 clear y1 yl
 go_loopw [4,5,6,7,9,13] (fun v4 _ _ _ _ i wr=>∃j:Nat,j≤xn∧i=.int .i64 j∧v4=.string ⟨(Ex.btxt (Ud.uniq (E.take j))).toArray⟩∧Below w0.heap.size w0 wr) (fun _ _ _ _ _ i _=>xn-(intOf i).toNat)
 case atStart=>exact⟨0,Zz _,rfl,rfl,Zd _ _⟩
 case round =>
  obtain⟨j,hj,rfl,rfl,aa⟩:=hrel
  have ae:=bq.out.below aa
  have y0:=ae.cell 0 rfl
  have y1:=ae.cell 1 rfl
  have yl:=ae.lt
  by_cases hlt:j<xn
  · obtain⟨x,hx⟩:∃x,E[j]?=some x:=⟨_,Zc (by rw[ax.out];exact hlt)⟩
    have ar:=HE.out x (Zk hx)
    obtain⟨xb,xo,rfl,hxb,ba⟩:=HX.out (by rw[Zf,ax.out];omega)
    have ap:xb<w0.heap.size:=Ze hxb HB.out.size
    have hcell:∀(i:Nat) (y:Int),E[i]?=some y→wr.cell? ⟨xb,xo+i,none⟩=some (.int .i64 y):=fun i y hy=>by
     have hi:=(List.getElem?_eq_some_iff.1 hy).1
     have:=ba i (by rw[Zf];exact hi)
     rw[Zl,hy,Zn,←(bcell aa).1 _ _ ap]at this
     exact this
    have q:=hcell j x hx
    have HC:=Za hcell
    have bh:xb<wr.heap.size:=Ze ap aa.size
    have jI:(j:Int)<xn:=by omega
    have j0:(0:Int)≤j:=by omega
    have jc:(j:Int)≤xc:=by omega
    have bs:=Za hx
    have aj:=Za aa
    have bl:(⟨(Ex.btxt (Ud.uniq (E.take j))).toArray⟩:ByteArray).size≤7000:=by
     rw[Rw.ba_size]
     have h1:=Ex.btxt_len (Ud.uniq (E.take j)) (fun d hd=>HE.out d (Yn ((Ud.uniq_mem _ _).1 hd)))
     have h2:=Ud.uniq_len (E.take j)
     have h3:(E.take j).length≤j:=Xh _ _
     omega
    have ai:Ex.btxt (Ud.uniq (E.take (j+1)))=if x∈E.take j then Ex.btxt (Ud.uniq (E.take j)) else Ex.btxt (Ud.uniq (E.take j))++(Fi.text x.toNat++[10]):=by
     rw[Zr,hx]
     show Ex.btxt (Ud.uniq (E.take j++[x]))=_
     rw[Ud.uniq_snoc]
     by_cases hm:x∈E.take j
     · rw[Zv hm,Zv hm]
     · rw[Zs hm,Zs hm,Ex.btxt_snoc]
    obtain⟨st,a6⟩:∃y:ByteArray,⟨(Ex.btxt (Ud.uniq (E.take j))).toArray⟩=y:=⟨_,rfl⟩
    rw[a6]at bl ⊢
    have bc:=Za ai
    have bf:=Za a6
    have br:=Za ae
    have a1:=Rw.rtext_int x ar.1 (by omega)
    have bm:(⟨(Fi.text x.toNat).toArray⟩:ByteArray).size≤6:=by
     rw[Rw.ba_size]
     have h2:=Fi.nd_le 5 x.toNat (by rw[show (16:Nat) ^ (5+1)=16777216 from by decide];omega)
     have h3:=Fi.text_len x.toNat
     omega
    obtain⟨tx,aw⟩:∃y:ByteArray,⟨(Fi.text x.toNat).toArray⟩=y:=⟨_,rfl⟩
    rw[aw]at bm
    simp only[aw]at a1
    have bj:=Za a1
    have bo:=Za aw
    clear hcell hx ai a6 ae a1 aw aa ba ar
    go_wp2_with fail
    go_loop [7,9,23] (fun v7 _ k=>∃m:Nat,m≤j∧k=.int .i64 m∧v7=.bool (decide (x∈(E.take j).take m))) (fun _ _ k=>j-(intOf k).toNat)
    case atStart=>exact⟨0,Zz _,rfl,by simp⟩
    case round =>
     obtain⟨m,hm,rfl,rfl⟩:=hrel
     by_cases hmj:m<j
     · obtain⟨y,hy⟩:∃y,E[m]?=some y:=⟨_,Zc (by rw[ax.out];omega)⟩
       have qm:=HC.out m y hy
       have ag:decide (x∈(E.take j).take (m+1))=(decide (x∈(E.take j).take m)||(y == x)):=by
        rw[Zr,show (E.take j)[m]?=some y by rw[Ys,Zv hmj];exact hy,YK]
        simp only[Option.toList_some,YZ,Zy,Zp,XI,Y8]
        constructor
        · rintro (h|h)
          · exact .inl h
          · exact .inr h.symm
        · rintro (h|h)
          · exact .inl h
          · exact .inr h.symm
       obtain⟨sn,ak⟩:∃b,decide (x∈(E.take j).take m)=b:=⟨_,rfl⟩
       rw[ak]at ag ⊢
       have HS:=Za ag
       have mI:(m:Int)<j:=by omega
       have m0:(0:Int)≤m:=by omega
       clear ag ak hy
       cases sn
       · rcases hyx:(y == x) with _|_
         · rw[hyx]at HS
           go_wp2_with fail
           exact⟨⟨m+1,by omega,by go_num,by rw[HS.out];rfl⟩,by simp[intOf];omega⟩
         · rw[hyx]at HS
           go_wp2_with fail
           exact⟨⟨m+1,by omega,by go_num,by rw[HS.out];rfl⟩,by simp[intOf];omega⟩
       · go_wp2_with fail
         exact⟨⟨m+1,by omega,by go_num,by rw[HS.out];rfl⟩,by simp[intOf];omega⟩
     · obtain rfl:m=j:=by omega
       have mI:¬(m:Int)<m:=by omega
       obtain⟨sn,ak⟩:∃b,decide (x∈(E.take m).take m)=b:=⟨_,rfl⟩
       rw[ak]
       have ao:decide (x∈E.take m)=sn:=by rw[←ak,XM,Nat.min_self]
       have bb:=Za ao
       clear ak ao
       cases sn
       · have af:st++(tx++⟨#[10]⟩)=⟨(Ex.btxt (Ud.uniq (E.take (m+1)))).toArray⟩:=by
          rw[bc.out,if_neg (by simpa using bb.out),←bf.out,←bo.out,show (⟨#[10]⟩:ByteArray)=⟨[10].toArray⟩ from rfl]
          simp only[Fi.ba_app]
         have HF:=Za af
         clear af
         go_wp2_with (go_at_call 111;refine (bj.out _).mono ?_;rintro e w2 ⟨rfl,aq⟩;have ay:=Za (aj.out.trans (aq.mono aj.out.size));clear aq)
         exact⟨⟨m+1,by omega,by go_num,by rw[←HF.out],ay.out⟩,by simp[intOf];omega⟩
       · have af:st=⟨(Ex.btxt (Ud.uniq (E.take (m+1)))).toArray⟩:=by
          rw[bc.out,if_pos (by simpa using bb.out),←bf.out]
         have HF:=Za af
         clear af
         go_wp2_with fail
         exact⟨⟨m+1,by omega,by go_num,by rw[←HF.out],aj.out⟩,by simp[intOf];omega⟩
  · obtain rfl:j=xn:=by omega
    have jI:¬(j:Int)<j:=by omega
    have he:(⟨(Ex.btxt (Ud.uniq (E.take j))).toArray⟩:ByteArray)=t2:=by rw[Zj (by rw[ax.out];exact Zb _)];exact bk.out
    rw[he]
    have hT:=HT.out wr (HB.out.trans (aa.mono HB.out.size))
    have aj:=Za (HB.out.trans (aa.mono HB.out.size))
    clear aa he ae
    go_wp2_with fail
    refine hT.mono ?_
    rintro e w2 ⟨rfl,aq⟩
    have ay:=Za (aj.out.trans (aq.mono aj.out.size))
    clear aq hT
    go_wp2_with fail
    go_ret2
    exact⟨rfl,ay.out⟩
end Go.Proofs.YtbeakahjbkdeiaaGreatDoor
namespace Go.Proofs.YtbeakahjbkdeiaaGreatDoor
open Go.ChangeShapes Go.WideShapes Go.RowKit Go.Deep
set_option linter.unusedSimpArgs false
set_option linter.unusedVariables false
def Rw.bounds (r:Rw.Row):Prop:=(-9223372036854775808≤r.1∧r.1≤9223372036854775807)∧(-9223372036854775808≤r.2.1∧r.2.1≤9223372036854775807)∧r.2.2.length≤maxLen∧∀c∈r.2.2,-9223372036854775808≤c∧c≤9223372036854775807
def Rw.IsRows (w:World) (a:Option Addr) (len cap:Nat) (l:List Rw.Row):Prop :=
 ∃ads,ads.length=l.length∧l.length=len∧len≤cap∧cap≤maxLen∧Sl w w.heap.size a (Rw.flI l ads) ∧
  (∀(i:Nat) (r:Rw.Row) (a:Option Addr × Nat),l[i]?=some r→ads[i]?=some a→Sl w w.heap.size a.1 (r.2.2.map (Value.int .i64)))∧∀r∈l,Rw.bounds r
theorem Rw.getD_get {α:Type} {n:Nat} {f:Nat→α} {i:Nat} {x:α} (h:((List.range n).map f)[i]?=some x):i<n∧f i=x:=by
 have aa:=(List.getElem?_eq_some_iff.1 h).1
 simp at aa
 rw[Zl,XF aa]at h
 simp at h
 exact⟨aa,h⟩
theorem Rw.flI_cell {w:World} {b o:Nat}:∀(l:List Rw.Row) (ads:List (Option Addr × Nat)) (k:Nat),ads.length=l.length →
 (∀i r a,l[i]?=some r→ads[i]?=some a→w.cell? ⟨b,o+(k+i)*3,none⟩=some (.int .i64 r.1)∧w.cell? ⟨b,o+(k+i)*3+1,none⟩=some (.int .i64 r.2.1)∧w.cell? ⟨b,o+(k+i)*3+2,none⟩=some (.slice a.1 r.2.2.length a.2)) →
 ∀j,j<(Rw.flI l ads).length→w.cell? ⟨b,o+k*3+j,none⟩=(Rw.flI l ads)[j]?
 | [],_,k,_,_,j,hj=>by simp[Rw.flI]at hj
 | _::_,[],k,h,_,j,hj=>by simp at h
 | r::t,a::as',k,hl,h,j,hj=>by
   obtain⟨h0,h1,h2⟩:=h 0 r a rfl rfl
   rw[YS]at h0 h1 h2
   have ih:=Rw.flI_cell t as' (k+1) (by simpa using hl) (fun i r' a' hi hi'=>by
    have:=h (i+1) r' a' (by simpa using hi) (by simpa using hi')
    rw[show k+(i+1)=k+1+i by omega]at this
    exact this)
   rcases j with _|_|_|j
   · exact h0
   · rw[show o+k*3+(0+1)=o+k*3+1 by omega];exact h1
   · rw[show o+k*3+(0+1+1)=o+k*3+2 by omega];exact h2
   · have:=ih j (by simp only[Rw.flI,ZM]at hj;omega)
     rw[show o+k*3+(j+1+1+1)=o+(k+1)*3+j by omega,this]
     rfl
theorem Rw.isRows_of {H:Type} {enc:TypeId × Value→H} {P:Program} {w:World} {t e q:TypeId} {f0 f1 f2:Field} {fuel:Nat} {a:Option Addr} {len cap:Nat} {x:DataW H × List MemPlace} (ht:P.underlying t=some (.slice e)) (he:P.underlying e=some (.struct #[f0,f1,f2]))
 (ce:P.cellsOf e=3) (o0:f0.offset=0) (o1:f1.offset=1) (o2:f2.offset=2) (c0:P.cellsOf f0.type=1) (c1:P.cellsOf f1.type=1) (c2:P.cellsOf f2.type=1) (k0:P.underlying f0.type=some (.int .i64)) (k1:P.underlying f1.type=some (.int .i64))
 (k2:P.underlying f2.type=some (.slice q)) (k3:P.underlying q=some (.int .i64)) (c3:P.cellsOf q=1)
 (h:DataW.trod enc P w 0 (fun _=>true) true fuel t [.slice a len cap]=some x):∃l,Rw.IsRows w a len cap l:=by
 rcases open_slice ht h with ⟨hcs,_⟩|⟨ad,l,c,m,n,D,Pl,hcs,hb,hl,hm,ao,_,hx⟩
 · simp only[Yc,ZV,YG]at hcs
   obtain⟨rfl,rfl,rfl⟩:=hcs
   exact⟨[],[],rfl,rfl,Zb _,by decide,Sl.nil _ _ _,by simp,by simp⟩
 · simp only[Yc,ZV,YG]at hcs
   obtain⟨rfl,rfl,rfl⟩:=hcs
   have aq:len≤m:=by rw[ao];split <;> omega
   have each:∀i,i<len→∃q:Rw.Row × Option Addr × Nat,w.cell? (ad.add (i*3))=some (.int .i64 q.1.1)∧w.cell? (ad.add (i*3+1))=some (.int .i64 q.1.2.1)∧w.cell? (ad.add (i*3+2))=some (.slice q.2.1 q.1.2.2.length q.2.2) ∧
    Sl w w.heap.size q.2.1 (q.1.2.2.map (Value.int .i64))∧Rw.bounds q.1:=by
    intro i hi
    obtain⟨cs',h1,h2⟩:=hx i (by omega)
    rw[ce]at h1
    obtain⟨_,hlen,hcell⟩:=World.cells?_some h1
    obtain⟨y0,y1,y2,n',_,_,g0,g1,g2⟩:=trod_struct3 he h2
    match cs',hlen with
    | [v0,v1,v2],_ =>
      simp[o0,o1,o2,c0,c1,c2]at g0 g1 g2
      obtain⟨z0,e0,_,w0⟩:=DataW.trod_int k0 g0
      obtain⟨z1,e1,_,w1⟩:=DataW.trod_int k1 g1
      simp only[Yc,YG]at e0 e1
      have d0:=hcell 0 (by omega)
      have d1:=hcell 1 (by omega)
      have d2:=hcell 2 (by omega)
      rw[add_add]at d0 d1 d2
      obtain⟨a2,l2,p2,zs,ev,hR⟩:∃a2 l2 p2 zs,v2=.slice a2 l2 p2∧IsRow .i64 w a2 l2 p2 zs:=by
       rcases open_ints k2 k3 c3 g2 with ⟨hcs,_⟩|⟨x,l,c,zs,hcs,_,hl,hm,hz,_,aa,ak⟩
       · simp only[Yc,YG]at hcs
         subst hcs
         exact⟨none,0,0,[],rfl,.inl ⟨rfl,rfl,rfl,rfl⟩⟩
       · simp only[Yc,YG]at hcs
         subst hcs
         exact⟨some x,l,c,zs,rfl,.inr ⟨_,rfl,hl,hm,by simpa using hz,aa,ak⟩⟩
      subst ev
      obtain⟨q1,q2,q3⟩:=hR.len_le
      have ap:(zs.take l2).length=l2:=by rw[Zm,q3];omega
      refine⟨((z0,z1,zs.take l2),a2,p2),?_,?_,?_,hR.sl l2 (Zb _),bounds_i64 w0,bounds_i64 w1,by show (zs.take l2).length≤maxLen;omega,fun c hc=>bounds_i64 (hR.wf c (Yn hc))⟩
      · rw[←e0];simpa using d0
      · rw[←e1];simpa using d1
      · show w.cell? (ad.add (i*3+2))=some (.slice a2 (zs.take l2).length p2)
        rw[ap];simpa using d2
   obtain⟨q,hq⟩:=choose_lt each
   refine⟨(List.range len).map fun i=>(q i).1,(List.range len).map fun i=>(q i).2,by simp,by simp,hl,hm,?_,?_,?_⟩
   · intro hne
     rw[Rw.flI_len _ _ (by simp),Zf,List.length_range]at hne
     obtain⟨b,off,spot⟩:=ad
     have ah:=(hq 0 (by omega)).1
     have af:spot=none:=by simpa [Addr.add] using World.cell?_spot ah
     subst af
     have ae:∀i,(⟨b,off,none⟩:Addr).add i=⟨b,off+i,none⟩:=by
      intro i;unfold Addr.add;split <;> simp_all
     refine⟨b,off,rfl,?_,fun j hj=>?_⟩
     · rw[ae]at ah
       exact YA w _ ah
     · have:=Rw.flI_cell (w:=w) (b:=b) (o:=off) ((List.range len).map fun i=>(q i).1) ((List.range len).map fun i=>(q i).2) 0 (by simp) (fun i r a hi hi'=>by
        obtain⟨ai,ag⟩:=Rw.getD_get hi
        obtain⟨_,aj⟩:=Rw.getD_get hi'
        obtain⟨a0,a1,a2,_⟩:=hq i ai
        rw[ae]at a0 a1 a2
        rw[ag]at a0 a1 a2
        rw[aj]at a2
        rw[Z2]
        exact⟨a0,a1,a2⟩) j hj
       simpa using this
   · intro i r a hi hi'
     obtain⟨ai,ag⟩:=Rw.getD_get hi
     obtain⟨_,aj⟩:=Rw.getD_get hi'
     have:=(hq i ai).2.2.2.1
     rw[ag,aj]at this
     exact this
   · intro r hr
     obtain⟨i,hi,rfl⟩:=List.mem_map.1 hr
     exact (hq i (List.mem_range.1 hi)).2.2.2.2
end Go.Proofs.YtbeakahjbkdeiaaGreatDoor
