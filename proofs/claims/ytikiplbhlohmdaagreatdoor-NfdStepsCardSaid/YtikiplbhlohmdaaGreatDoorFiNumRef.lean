/- The layer rows: each, Parse, by walking their texts. -/
import Derived.Test.YtikiplbhlohmdaaGreatDoorExText
import Derived.Test.YtikiplbhlohmdaaGreatDoorUdOf
set_option linter.unusedVariables false
set_option linter.unusedSimpArgs false
namespace Go.Proofs.YtikiplbhlohmdaaGreatDoor
open Go.RowKit
theorem Rw.steps_take {aa ae st:Rw.St} {L:List (List UInt8)} {k:Nat} {x:List UInt8} (h:Rw.steps aa L=some ae) (hx:L[k]?=some x) (hs:Rw.steps aa (L.take k)=some st) :
 ∃st',Rw.step st x=some st'∧Rw.steps aa (L.take (k+1))=some st':=by
 have hk:=(List.getElem?_eq_some_iff.1 hx).1
 have e:L.take k++x::L.drop (k+1)=L:=by
  have:=ZG k L
  rw[ZV hk]at this
  rw[Zc hk,Zi]at hx
  rw[hx]at this
  exact this
 rw[←e,Rw.steps_app,hs,Zr,Rw.steps]at h
 rcases hst:Rw.step st x with _|st'
 · rw[hst]at h;cases h
 · refine⟨st',rfl,?_⟩
   rw[Zw,hx,Rw.steps_app,hs]
   show Rw.steps st [x]=some st'
   rw[Rw.steps,hst]
   rfl
theorem Rw.step_len {st st':Rw.St} {x:List UInt8} (h:Rw.step st x=some st'):st'.1.length≤st.1.length+1:=by
 obtain⟨r,o,_,_,_,_,rfl⟩:=Rw.step_some h
 show (if Rw.quiet r=true then st.1 else st.1++[r]).length≤_
 split
 · omega
 · simp
theorem Rw.steps_len:∀(L:List (List UInt8)) {st st':Rw.St},Rw.steps st L=some st'→st'.1.length≤st.1.length+L.length
 | [],st,st',h=>by
   rw[Rw.steps,Zi]at h
   subst h
   simp
 | x::L,st,st',h=>by
   rw[Rw.steps]at h
   rcases hs:Rw.step st x with _|s
   · rw[hs]at h;cases h
   · rw[hs,Zr]at h
     have h1:=Rw.step_len hs
     have h2:=Rw.steps_len L h
     simp
     omega
def Rw.RetEach (b:Nat) (st:Rw.St) (w:World) (e:Ending) (w':World):Prop:=e=.returned (.tuple #[.int .i64 0,.string ⟨#[]⟩])∧Rw.Rd w' b st∧Below b w w'
def Rw.Inv (w:World) (b:Nat) (aa:Rw.St) (L:List (List UInt8)) (k:Nat) (wr:World):Prop:=∃st,Rw.steps aa (L.take k)=some st∧Rw.Rd wr b st∧Below b w wr
set_option maxRecDepth 100000 in
set_option maxHeartbeats 4000000 in
theorem Rw.each_any (b:Nat) (af ai:Rw.St) (L:List (List UInt8)) (A:Option Addr) (n cp:Nat) (w0 w:World) (hL:Rw.Laid w0) (h0:w0.heap.size≤b) (aw:Below w0.heap.size w0 w) (hI:Rw.Rd w b af) (hlen:af.1.length=0)
 (ax:L.length=n) (hn:n≤100000) (hl:∀x∈L,x.length≤1000) (hA:Sl w b A (L.map fun x=>Value.string ⟨x.toArray⟩)) (a8:b<w.heap.size)
 (ar:Rw.steps af L=some ai):Calls Tryz.prog 84 #[.slice A n cp,.func (.func 85) #[.pointer (some ⟨b,0,none⟩)] #[]] w (Rw.RetEach b ai w):=by
 have HL:=Za hl
 have HN:=Za ax
 have ay:=Za ar
 have HB:=Za aw
 have H0:=Za hlen
 have HA:=Za hA
 clear hl ax ar aw hlen hA
 go_enter Tryz.func84,Tryz.ntmps84
 go_wp2_with fail
 go_loopw [6,7,8,11] (fun _ _ _ i wr=>∃k:Nat,k≤n∧i=.int .i64 k∧Rw.Inv w b af L k wr) (fun _ _ _ i _=>n-(intOf i).toNat)
 case atStart=>exact⟨0,ZE _,rfl,af,rfl,hI,Zd _ _⟩
 case round =>
  obtain⟨k,hk,rfl,st,hs,hR,aa⟩:=hrel
  by_cases hlt:k<n
  · obtain⟨x,hx⟩:∃x,L[k]?=some x:=⟨_,Zc (by rw[HN.out];exact hlt)⟩
    obtain⟨st',h1,h2⟩:=Rw.steps_take ay.out hx hs
    obtain⟨ab,ao,rfl,a7,aq⟩:=HA.out (by rw[Zg,HN.out];omega)
    have hc:=aq k (by rw[Zg,HN.out];exact hlt)
    rw[Zu,hx,Zt,←(bcell aa).1 _ _ a7]at hc
    have a1:=HL.out x (Zk hx)
    obtain⟨bx,ag⟩:∃bx:ByteArray,⟨x.toArray⟩=bx:=⟨_,rfl⟩
    rw[ag]at hc
    have az:=Rw.steps_len _ hs
    rw[H0.out,Zq]at az
    have ae:=fun W (e:W=wr)=>Rw.line_any b st st' bx w0 W hL h0 (by rw[e];exact HB.out.trans (aa.mono h0)) (by rw[e];exact hR) (by rw[←ag];show x.toArray.size≤_;simpa using a1) (by omega) (by rw[←ag];exact h1)
    have HX:=Za h2
    have ak:=Za aa
    have a6:(k:Int)<n:=by omega
    clear aq hx hs hR h1 h2 aa ag az a1
    go_wp2_with fail
    refine (ae _ rfl).mono ?_
    rintro e w2 ⟨rfl,au,av⟩
    have ap:=Za au
    have ah:=Za av
    clear au av ae
    go_wp2_with fail
    exact⟨⟨k+1,by omega,by go_num,st',HX.out,ap.out,ak.out.trans ah.out⟩,by simp[intOf];omega⟩
  · obtain rfl:k=n:=by omega
    have ba:¬(k:Int)<k:=by omega
    have aj:st=ai:=by
     rw[Zj (by rw[HN.out];exact Zb _),ay.out,Zi]at hs
     exact hs.symm
    subst aj
    have ap:=Za hR
    have ah:=Za aa
    clear hs hR aa
    go_wp2_with fail
    go_ret2
    exact⟨rfl,ap.out,ah.out⟩
def Rw.RetParse (rs:List Rw.Row) (w:World) (e:Ending) (w':World):Prop :=
 ∃A c,e=.returned (.tuple #[.slice A rs.length c,.nilIface])∧Rw.Tab w' A rs∧Below w.heap.size w w'
theorem Rw.parse_some {s:List UInt8} {rs:List Rw.Row} (h:Rw.parse s=some rs):(Rw.lns [] s).all Rw.okl=true∧(Rw.lns [] s).length≤40000∧∃c,Rw.steps ([],-1,[]) (Rw.lns [] s)=some (rs,c,[]):=by
 unfold Rw.parse at h
 split at h
 · rename_i h0
   obtain⟨h0,h1⟩:=h0
   refine⟨h0,h1,?_⟩
   rcases hs:Rw.steps ([],-1,[]) (Rw.lns [] s) with _|⟨aa,c,o⟩
   · rw[hs]at h;cases h
   · rw[hs,Zr]at h
     split at h
     · rename_i ho
       simp only at ho
       subst ho
       simp only[Zi]at h
       subst h
       exact⟨c,rfl⟩
     · cases h
 · cases h
set_option maxRecDepth 100000 in
set_option maxHeartbeats 4000000 in
theorem Rw.parse_any (s:ByteArray) (hs:s.size≤1000000) (rs:List Rw.Row) (hp:Rw.parse s.data.toList=some rs) (w:World) (hL:Rw.Laid w) :
 Calls Tryz.prog 55 #[.string s] w (Rw.RetParse rs w):=by
 obtain⟨ai,ak,cN,ah⟩:=Rw.parse_some hp
 have ap:=Rw.lines_any s hs ai
 have hl:∀x∈Rw.lns [] s.data.toList,x.length≤1000:=fun x hx=>by
  rw[Yh]at ai
  have:=ai x hx
  unfold Rw.okl at this
  rw[ZB,Zm]at this
  exact this.1
 obtain⟨L,aq⟩:∃L,Rw.lns [] s.data.toList=L:=⟨_,rfl⟩
 rw[aq]at ah ap ak hl
 have ay:=Rw.steps_len _ ah
 simp only[Z6,Z1]at ay
 have ax:=Za ah
 have a1:=Za hl
 clear ai hp aq ah hl
 go_enter Tryz.func55,Tryz.ntmps55
 go_wp2_with fail
 refine (ap _).mono ?_
 rintro e w1 ⟨A,c,rfl,hA,ao⟩
 have az:=hL.next ao
 have hmx:¬(40000:Int)<(L.length:Int):=by omega
 have ag:=Rw.At.new w1 153 [.slice none 0 0,.int .i32 (-1),.string ⟨#[]⟩]
 have av:=fun W (e:W=w1.alloc (.cells #[.slice none 0 0,.int .i32 (-1),.string ⟨#[]⟩] 153))=>Rw.each_any w1.heap.size ([],-1,[]) (rs,cN,[]) L A L.length c w1 W az (Zb _)
  (by rw[e];exact (Zd _ _).alloc (Zb _) _) (by rw[e];exact⟨.slice none 0 0,[],ag,ZC _ _ _ _,rfl,fun i r a h=>by simp at h⟩) rfl rfl (by omega) a1.out (by rw[e];exact hA.below ((Zd _ _).alloc (Zb _) _) (Zb _)) (by rw[e];simp) ax.out
 have au:=Za ao
 clear hA ao ap ag
 go_wp2_with fail
 refine (av _ rfl).mono ?_
 rintro e w2 ⟨rfl,⟨v,ads,ag,ae,has,aa⟩,ar⟩
 simp only at ag ae has aa
 obtain⟨Av,cv,rfl⟩:=own_form ae
 obtain⟨d1,d2,d3,d4,d5,d6⟩:=ag.three
 have aj:=Za ae
 have af:=Za aa
 have aw:=Za ar
 clear ae aa ar av
 go_wp2_with fail
 go_ret2
 exact⟨Av,cv,rfl,⟨ads,has,Slt.of_own aj.out,af.out⟩,au.out.trans ((((Zd w1.heap.size w1).alloc (Zb _) _).trans aw.out).mono au.out.size)⟩
set_option maxHeartbeats 1000000 in
theorem Ex.index_any (A:Option Addr) (n cp B:Nat) (l:List Int) (c:Int) (w:World) (hn:l.length=n) (hN:n≤1000000) (hB:B≤w.heap.size) (hA:Sl w B A (l.map (Value.int .i32))) (hc:c∉l) :
 Calls Tryz.prog 151 #[.slice A n cp,.int .i32 c] w fun e w'=>e=.returned (.int .i64 (-1))∧w'=w:=by
 have HN:=Za hn
 have HC:=Za hc
 clear hn hc
 go_enter Tryz.func151,Tryz.ntmps151
 go_wp2_with fail
 go_loop [5,8] (fun _ i=>∃k:Nat,k≤n∧i=.int .i64 k) (fun _ i=>n-(intOf i).toNat)
 case atStart=>exact⟨0,ZE _,rfl⟩
 case round =>
  obtain⟨k,hk,rfl⟩:=hrel
  by_cases hlt:k<n
  · obtain⟨x,hx⟩:∃x,l[k]?=some x:=⟨_,Zc (by rw[HN.out];exact hlt)⟩
    obtain⟨b,o,rfl,hb,hcell⟩:=hA (by rw[Zg,HN.out];omega)
    have h1:=hcell k (by rw[Zg,HN.out];exact hlt)
    rw[Zu,hx,Zt]at h1
    have hne:(c == x)=false:=by
     have:c≠x:=fun e=>HC.out (by rw[e];exact Zk hx)
     simpa using this
    have kI:(k:Int)<n:=by omega
    have k0:(0:Int)≤(k:Int):=by omega
    clear hcell hx
    go_wp2_with fail
    exact⟨⟨k+1,by omega,by go_num⟩,by simp[intOf];omega⟩
  · obtain rfl:k=n:=by omega
    have kI:¬(k:Int)<k:=by omega
    go_wp2_with fail
    go_ret
    exact⟨rfl,rfl⟩
theorem Ex.contains_any (A:Option Addr) (n cp B:Nat) (l:List Int) (c:Int) (w:World) (hn:l.length=n) (hN:n≤1000000) (hB:B≤w.heap.size) (hA:Sl w B A (l.map (Value.int .i32))) (hc:c∉l) :
 Calls Tryz.prog 117 #[.slice A n cp,.int .i32 c] w fun e w'=>e=.returned (.bool false)∧w'=w:=by
 have h:=Ex.index_any A n cp B l c w hn hN hB hA hc
 clear hn hc hA
 go_enter Tryz.func117,Tryz.ntmps117
 go_wp2_with fail
 refine h.mono ?_
 rintro e w1 ⟨rfl,rfl⟩
 go_wp2_with fail
 go_ret
 exact⟨rfl,rfl⟩
set_option maxHeartbeats 1000000 in
theorem Ex.char_any (s:ByteArray) (A:Option Addr) (n cp B:Nat) (l:List Int) (c:Int) (w:World) (hs:s.size≤1000000) (hn:l.length=n) (hN:n≤1000000) (hB:B≤w.heap.size) (hA:Sl w B A (l.map (Value.int .i32)))
 (hx:Fi.hex s.data.toList=some c) (hi:C.isC c=true) (hc:c∉l) :
 Calls Tryz.prog 87 #[.string s,.slice A n cp] w fun e w'=>e=.returned (.tuple #[.int .i32 c,.string ⟨#[]⟩])∧w'=w:=by
 have h1:∀W:World,Calls Tryz.prog 116 #[.string s] W fun e w'=>e=.returned (.tuple #[.int .i32 c,.bool true])∧w'=W:=fun W=>(Fi.hex_any s W).mono fun e w' h=>⟨by
  have:=h.1
  unfold Fi.RetHex at this
  rw[this,hx];rfl,h.2⟩
 have h2:=C.utfis_any c
 rw[hi]at h2
 have h3:=fun (W:World) (e:W=w)=>Ex.contains_any A n cp B l c W hn hN (by rw[e];exact hB) (by rw[e];exact hA) hc
 clear hx hi hc hA hn
 go_enter Tryz.func87,Tryz.ntmps87
 go_wp2_with fail
 refine (h1 _).mono ?_
 rintro e w1 ⟨rfl,rfl⟩
 go_wp2_with fail
 refine (h2 _).mono ?_
 rintro e w1 ⟨rfl,rfl⟩
 go_wp2_with fail
 refine (h3 _ rfl).mono ?_
 rintro e w1 ⟨rfl,rfl⟩
 go_wp2_with fail
 go_ret2
 exact⟨rfl,rfl⟩
theorem Ex.drop_le (c:UInt8):∀l:List UInt8,(l.dropWhile (· == c)).length≤l.length
 | []=>Zb _
 | b::l=>by
   rw[Yx]
   split
   · have:=Ex.drop_le c l;simp;omega
   · exact Zb _
theorem Ex.strip_le (x:List UInt8):(Lib.trimB (Lib.cut x [35]).1 32).length≤x.length:=by
 have h1:(Lib.cut x [35]).1.length≤x.length:=by unfold Lib.cut;split <;> simp <;> omega
 rw[Fi.trim_comm]
 unfold Lib.trimRightB Lib.trimLeftB
 rw[List.length_reverse]
 have h2:=Ex.drop_le 32 ((Lib.cut x [35]).1.dropWhile (· == 32)).reverse
 have h3:=Ex.drop_le 32 (Lib.cut x [35]).1
 rw[List.length_reverse]at h2
 omega
def Ex.RetParse (cs:List Int) (w:World) (e:Ending) (w':World):Prop :=
 ∃A c,e=.returned (.tuple #[.agg #[.slice A (C.chars cs).length c],.nilIface])∧Slt w' 21 A ((C.chars cs).map (Value.int .i32))∧Below w.heap.size w w'
set_option maxRecDepth 100000 in
set_option maxHeartbeats 4000000 in
theorem Ex.parse_any (s:ByteArray) (hs:s.size≤300000) (cs:List Int) (hp:Ex.parse s.data.toList=some cs) (w:World) (hL:Fi.LaidM w) :
 Calls Tryz.prog 57 #[.string s] w (Ex.RetParse cs w):=by
 unfold Ex.parse at hp
 split at hp
 case isFalse=>cases hp
 rename_i h0
 obtain⟨a1,ax⟩:=h0
 have au:=Rw.lines_any s (by omega) a1
 have hl:∀x∈Rw.lns [] s.data.toList,x.length≤1000:=fun x hx=>by
  rw[Yh]at a1
  have:=a1 x hx
  unfold Rw.okl at this
  rw[ZB,Zm]at this
  exact this.1
 obtain⟨L,bj⟩:∃L,Rw.lns [] s.data.toList=L:=⟨_,rfl⟩
 rw[bj]at hp au ax hl
 obtain⟨n,hn⟩:∃n,L.length=n:=⟨_,rfl⟩
 have HP:=Za hp
 have b2:=Za hl
 have HN:=Za hn
 obtain⟨i0,hi,b1,b3,bt⟩:=Z7 infoRune
 rw[hn]at ax
 unfold Rw.RetLines at au
 rw[hn]at au
 clear a1 hp bj hl hn
 go_enter Tryz.func57,Tryz.ntmps57
 go_wp2_with fail
 refine (au _).mono ?_
 rintro e w1 ⟨A,c,rfl,hA,a7⟩
 have a8:Below w.heap.size w w1:=((Zd _ _).alloc (Zb _) _).trans (a7.mono (by simp))
 have b4:Rw.At w1 w.heap.size 100 [.slice none 0 0]:=(Rw.At.new w 100 [.slice none 0 0]).below a7
 have bp:=Za (hL.below a8)
 have HA:=Za hA
 have bn:=Za a8
 clear hA a7 hL au a8
 go_wp2_with fail
 go_loopw [6,7,8,9,10,22] (fun v _ _ _ _ i wr=>∃(k:Nat) (seen:List Int),k≤n∧i=.int .i64 k∧Ex.steps [] (L.take k)=some seen∧wr.ownsRow w1.heap.size 21 1 v seen.length (seen.map (Value.int .i32))∧Below w1.heap.size w1 wr)
  (fun _ _ _ _ _ i _=>n-(intOf i).toNat)
 case atStart=>exact⟨0,[],ZE _,rfl,rfl,ZC _ _ _ _,Zd _ _⟩
 case round =>
  obtain⟨k,seen,hk,rfl,ak,ag,ae⟩:=hrel
  have hz:=ae.size
  have bz:=Ex.steps_len _ ak
  simp only[Z6,Z1]at bz
  have b5:(L.take k).length≤k:=Xs _ _
  by_cases hlt:k<n
  · obtain⟨x,hx⟩:∃x,L[k]?=some x:=⟨_,Zc (by rw[HN.out];exact hlt)⟩
    obtain⟨bi,h1,h2⟩:=Ex.steps_take HP.out hx ak
    obtain⟨ab,ao,rfl,bo,bk⟩:=HA.out (by rw[Zg,HN.out];omega)
    have hc:=bk k (by rw[Zg,HN.out];exact hlt)
    rw[Zu,hx,Zt,←(bcell ae).1 _ _ bo]at hc
    have b6:=b2.out x (Zk hx)
    have hS:=Fi.strip_any ⟨x.toArray⟩ (by show x.toArray.size<_;simp;omega) wr (bp.out.below ae)
    rw[show (⟨x.toArray⟩:ByteArray).data.toList=x from rfl]at hS
    obtain⟨bx,bl⟩:∃bx:ByteArray,⟨x.toArray⟩=bx:=⟨_,rfl⟩
    rw[bl]at hc hS
    obtain⟨sx,bc⟩:∃sx:ByteArray,⟨(Fi.strip x).toArray⟩=sx:=⟨_,rfl⟩
    rw[bc]at hS
    have ba:sx.data.toList=Fi.strip x:=by rw[←bc]
    have kI:(k:Int)<n:=by omega
    have br:ab<wr.heap.size:=by omega
    have HX:=Za h2
    have ai:=Za ae
    have bf:=Za ag
    have HH:=Za h1
    have bg:=Za ba
    have bs:sx.size≤1000000:=by
     have h3:sx.data.toList.length=sx.size:=by simp
     have h4:(Fi.strip x).length≤x.length:=by
      unfold Fi.strip
      exact Ex.strip_le x
     rw[ba]at h3
     omega
    clear bk hx h1 h2 ae bl bc ag ak ba
    go_wp2_with fail
    refine hS.mono ?_
    rintro e w2 ⟨rfl,aj⟩
    have aa:=own_below bf.out aj (Zb _)
    have ay:=Za (ai.out.trans (aj.mono hz))
    have bq:w1.heap.size≤w2.heap.size:=Zh hz aj.size
    clear aj hS
    rcases Ex.line_some HH.out with ⟨he,rfl⟩|⟨ch,hne,ar,aq,av,rfl⟩
    · have a6:sx.toList.isEmpty=true:=by rw[Yw sx,bg.out,he];rfl
      have af:=Za aa
      clear he aa
      go_wp2_with fail
      exact⟨⟨k+1,_,by omega,by go_num,HX.out,af.out,ay.out⟩,by simp[intOf];omega⟩
    · have a6:sx.toList.isEmpty=false:=by
       rw[Yw sx,bg.out]
       rcases hl:Fi.strip x with _|⟨q,r⟩
       · exact absurd hl hne
       · rfl
      obtain⟨Av,cv,rfl⟩:=own_form aa
      have az:=Ex.char_any sx Av seen.length cv w2.heap.size seen ch w2 bs rfl (by omega) (Zb _) (Sl.of_own aa) (by rw[bg.out];exact ar) aq av
      have af:=Za aa
      clear hne ar aq av aa
      go_wp2_with fail
      refine az.mono ?_
      rintro e w3 ⟨rfl,rfl⟩
      go_wp2_with (first|(at_builtin;refine wpList_push1 _ rfl _ _ _ rfl w1.heap.size 21 i0 _ 4 Tryz.underlying49 hi b1 b3 bt rfl _ seen.length _ rfl af.out _ rfl rfl (by simp only[maxLen];omega) (by omega) bq ?_;intro v1 w4 aw bu)|fail)
      exact⟨⟨k+1,_,by omega,by go_num,HX.out,by rw[Ze,ZM];exact aw,ay.out.trans bu⟩,by simp[intOf];omega⟩
  · obtain rfl:k=n:=by omega
    have kI:¬(k:Int)<k:=by omega
    have bh:seen=cs:=by
     rw[Zj (by rw[HN.out];exact Zb _),HP.out,Zi]at ak
     exact ak.symm
    subst bh
    obtain⟨Av,cv,rfl⟩:=own_form ag
    have az:=C.chars_any Av seen.length cv wr.heap.size seen wr rfl (by omega) (Zb _) (Sl.of_own ag)
    have ap:=b4.below ae
    have ai:=Za (bn.out.trans (ae.mono bn.out.size))
    clear ak ag ae
    go_wp2_with fail
    refine az.mono ?_
    rintro e w2 ⟨A2,c2,rfl,aa,aj⟩
    have ah:=ap.below aj
    have z0:=ah.cell 0 rfl
    have g0:=ah.frozen 0
    have bm:=Slt.of_own aa
    have ay:=Za (ai.out.trans (aj.mono ai.out.size))
    have bw:=Za bm
    clear bm aa aj az ap
    go_wp2_with fail
    have bb:=ah.set 0 (.slice A2 (C.chars seen).length c2)
    refine Yl (Rw.results2 rfl _ _ w.heap.size _ _ _ _ rfl bb Tryz.underlying100 rfl (by kernel_rfl)) rfl ⟨A2,c2,rfl,?_,?_⟩
    · exact bw.out.setAt ah (by decide) 0 _
    · exact ay.out.setCell (p:=⟨w.heap.size,0,none⟩) (Zb _) _
theorem Rw.Laid.max {w:World} (h:Rw.Laid w):Fi.LaidM w:=h.1.1
set_option maxRecDepth 100000 in
set_option maxHeartbeats 2000000 in
theorem Ud.load_any (u x:ByteArray) (hu:u.size≤1000000) (aj:x.size≤300000) (T:List Rw.Row) (cs:List Int) (hp:Rw.parse u.data.toList=some T) (hx:Ex.parse x.data.toList=some cs) (ok:Ud.Ok T (C.chars cs)) (hbd:Md.bd T) (w:World) (hL:Rw.Laid w) :
 Calls Tryz.prog 34 #[.string u,.string x] w (Ud.RetOf T (C.chars cs) w):=by
 have hP:=Rw.parse_any u hu T hp w hL
 have HX:=Za (fun W (hW:Below w.heap.size w W)=>Ex.parse_any x aj cs hx W (hL.next hW).max)
 have HO:=Za (fun v W h=>Ud.of_any v T (C.chars cs) W h ok hbd)
 unfold Ex.RetParse at HX
 obtain⟨S,hS⟩:∃S,C.chars cs=S:=⟨_,rfl⟩
 rw[hS]at HX HO ⊢
 clear hp hx ok hbd hS hu aj hL
 go_enter Tryz.func34,Tryz.ntmps34
 go_wp2_with fail
 refine hP.mono ?_
 rintro e w1 ⟨A,c,rfl,aa,ah⟩
 have au:=HX.out w1 ah
 have HT:=Za aa.sees
 have ai:=Za ah
 clear hP HX aa ah
 go_wp2_with fail
 refine au.mono ?_
 rintro e w2 ⟨A2,c2,rfl,aq,af⟩
 have ae:Below w2.heap.size w2 (w2.alloc (.cells #[.slice A2 S.length c2] 100)):=(Zd _ _).alloc (Zb _) _
 have hn:=Rw.At.new w2 100 [.slice A2 S.length c2]
 have z0:=hn.cell 0 rfl
 have ap:Md.Is (w2.alloc (.cells #[.slice A2 S.length c2] 100)) (Md.tv A T.length c A2 S.length c2) T S:=⟨A,c,A2,c2,rfl,(HT.out.below af).below ae,aq.sl.below ae ae.size⟩
 have ag:=HO.out _ _ ap
 have ao:=Za ((ai.out.trans (af.mono ai.out.size)).trans (ae.mono (Zh ai.out.size af.size)))
 unfold Md.tv at ag
 clear au aq af ae hn ap HO
 go_wp2_with fail
 refine ag.mono ?_
 rintro e w3 ⟨p,rfl,ak,ar⟩
 have HI:=Za ak
 have av:=Za (ao.out.trans (ar.mono ao.out.size))
 clear ag ak ar
 go_wp2_with fail
 go_ret2
 exact⟨p,rfl,HI.out,av.out⟩
end Go.Proofs.YtikiplbhlohmdaaGreatDoor
namespace Go.Proofs.YtikiplbhlohmdaaGreatDoor
open Go.RowKit Go.Stop
theorem Fi.dec_step {u x:Nat} {s:List UInt8} (hx:0<x) (h:Lib.decDigits u=Lib.decDigits x++s) :
 Lib.decDigits u=(if x/10=0 then [] else Lib.decDigits (x/10))++(UInt8.ofNat (48+x%10)::s):=by
 rw[h,Lib.decDigits]
 by_cases hx10:x<10
 · rw[dif_pos hx10,Zp (by omega),Xv hx10];rfl
 · rw[dif_neg hx10,Zl (by omega),Zz];rfl
set_option maxRecDepth 100000 in
set_option maxHeartbeats 4000000 in
theorem Fi.digits_any (u:Nat) (w:World) (hu:u<9223372036854775808) :
 Calls Tryz.prog 135 #[.int .i64 u] w fun e w'=>e=.returned (.string ⟨(Lib.decDigits u).toArray⟩)∧Below w.heap.size w w':=by
 go_enter Tryz.func135,Tryz.ntmps135
 go_wp2
 go_loopw [0,3,4] (fun vx vs vi wr=>∃(i x:Nat) (s:List UInt8),vx=.int .i64 x∧vs=.string ⟨s.toArray⟩∧vi=.int .i64 i∧i≤64∧s.length=i∧x<2 ^ (63-i)∧((i=0∧x=u∧s=[])∨(0<i∧Lib.decDigits u=(if x=0 then [] else Lib.decDigits x)++s))∧Below w.heap.size w wr) (fun _ _ vi _=>65-(intOf vi).toNat)
 case atStart=>exact⟨0,u,[],rfl,rfl,rfl,by omega,rfl,by simpa using hu,.inl ⟨rfl,rfl,rfl⟩,Below.refl _ _⟩
 case round =>
  obtain⟨i,x,s,rfl,rfl,rfl,hi,ao,hx,af,ae⟩:=hrel
  obtain⟨w1,rfl⟩:∃w1:World,w1=wr:=⟨_,rfl⟩
  have ax:=ae.size
  have a1:=Za ae
  have hC:=Fi.conv1 w1 (48+(x:Int)%10)
  rw[show (48+(x:Int)%10).toNat=48+x%10 by omega]at hC
  have ai:=Za ao
  have av:¬9223372036854775807<1+s.length:=by omega
  have au:=Za (ae.alloc ax (.cells #[.int .u8 (48+(x:Int)%10)] 5))
  clear ao
  have aw:x<9223372036854775808:=by
   have:2 ^ (63-i)≤2 ^ 63:=Y5 (by decide) (by omega)
   have e:(2:Nat) ^ 63=9223372036854775808:=by decide
   omega
  by_cases hgo:i=0∨0<x
  · have aj:Lib.decDigits u=(if x/10=0 then [] else Lib.decDigits (x/10))++(UInt8.ofNat (48+x%10)::s):=by
     rcases af with ⟨rfl,rfl,rfl⟩|⟨h0,h⟩
     · rcases Yz x with rfl|hp
       · rw[Lib.decDigits];rfl
       · exact Fi.dec_step hp (by simp)
     · have hp:0<x:=by omega
       rw[Zl (by omega)]at h
       exact Fi.dec_step hp h
    have ay:i<63:=by
     rcases hgo with rfl|hp
     · omega
     · rcases ZX i 63 with h|h
       · exact h
       · have:63-i=0:=by omega
         rw[this]at hx;omega
    have aq:x/10<2 ^ (63-(i+1)):=by
     have e:63-i=(63-(i+1))+1:=by omega
     rw[e,YY]at hx
     omega
    have ag:=Za aj
    have ar:=Za aq
    clear aj aq hx af ae
    obtain⟨dg,ak⟩:∃dg,UInt8.ofNat (48+x%10)=dg:=⟨_,rfl⟩
    rw[ak]at hC ag
    have aa:=Za (Fi.ba_app [dg] s)
    clear ak
    rcases Yz i with ah|hp
    · have HI:=Za ah
      subst ah
      go_wp2
      refine⟨⟨1,x/10,dg::s,by go_num,by first|exact Z4 Value.string aa.out|(congr 1;exact aa.out),rfl,by omega,by rw[ZI,ai.out],ar.out,.inr ⟨by omega,ag.out⟩,au.out⟩,by simp[intOf]⟩
    · have hne:¬(i:Int)=0:=by omega
      have ap:0<x:=by omega
      have az:(x:Int) > 0:=by omega
      go_wp2
      refine⟨⟨i+1,x/10,dg::s,by go_num,by first|exact Z4 Value.string aa.out|(congr 1;exact aa.out),by go_num,by omega,by rw[ZI,ai.out],ar.out,.inr ⟨by omega,ag.out⟩,au.out⟩,by simp[intOf];omega⟩
  · have ap:x=0:=by omega
    have ah:0<i:=by omega
    subst ap
    have hf:Lib.decDigits u=s:=by
     rcases af with ⟨h,_⟩|⟨_,h⟩
     · omega
     · simpa using h
    have HF:=Za hf
    have hne:¬(i:Int)=0:=by omega
    clear af hf hx hgo hC
    go_wp2
    go_ret
    exact⟨by rw[HF.out];rfl,ae⟩
end Go.Proofs.YtikiplbhlohmdaaGreatDoor
