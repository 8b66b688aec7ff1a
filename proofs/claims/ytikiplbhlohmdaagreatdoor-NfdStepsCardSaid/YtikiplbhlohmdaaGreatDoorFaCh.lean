/- The layer model: expand and Full, by walking their text. -/
import Derived.Test.YtikiplbhlohmdaaGreatDoorUdInv
set_option linter.unusedVariables false
set_option linter.unusedSimpArgs false
namespace Go.Proofs.YtikiplbhlohmdaaGreatDoor
open Go.RowKit
theorem Md.expL_app (f:List Int→Int→Option (List Int)):∀(a b out:List Int),Md.expL f out (a++b)=(Md.expL f out a).bind fun o=>Md.expL f o b
 | [],b,out=>rfl
 | d::r,b,out=>by
   rw[ZQ,Md.expL,Md.expL]
   cases f out d with
   | none=>rfl
   | some o=>exact Md.expL_app f r b o
theorem Md.expL_step {f:List Int→Int→Option (List Int)} {L out o:List Int} {k:Nat} {x:Int} (hx:L[k]?=some x) (h:Md.expL f out (L.take k)=some o):Md.expL f out (L.take (k+1))=f o x:=by
 rw[Zw,hx,Md.expL_app,h,Zr]
 show (f o x).bind (fun o=>Md.expL f o [])=f o x
 cases f o x <;> rfl
theorem Md.expL_stop {f:List Int→Int→Option (List Int)} {L out o:List Int} {k:Nat} {x:Int} (hx:L[k]?=some x) (h:Md.expL f out (L.take k)=some o) (hn:f o x=none):Md.expL f out L=none:=by
 have h1:=Md.expL_step hx h
 rw[hn]at h1
 rw[←ZG (k+1) L,Md.expL_app,h1]
 rfl
theorem Md.exp_le {mp:Int→List Int} {k:Nat} {out l:List Int} {c:Int} (ho:out.length≤32) (h:Md.exp mp k out c=some l):l.length≤32:=by
 rw[Md.exp_lv mp k out c ho]at h
 cases hl:Md.lv mp k c with
 | none=>rw[hl]at h;cases h
 | some a =>
   rw[hl,Zr]at h
   unfold Md.fit at h
   split at h
   · cases h;simpa using ‹_›
   · cases h
theorem Md.exp_leaf {mp:Int→List Int} (k:Nat) {out:List Int} {c:Int} (h:mp c=[]):Md.exp mp k out c=Md.leaf out c:=by
 cases k with
 | zero=>rw[Md.exp,Zp h]
 | succ k=>rw[Md.exp,Zp h]
theorem Md.kept_of {w w':World} {base:Nat} {e:TypeId} {size n:Nat} {v:Value} {xs:List Value} {row:Option Nat} (h:w.ownsRow base e size v n xs) (hg:w.grownBy w' row) (hr:∀k,row=some k→k<base):w'.ownsRow base e size v n xs:=by
 refine h.kept hg ?_
 cases hv:v.ownBlock with
 | none=>exact .inl rfl
 | some g =>
   refine .inr fun e'=>?_
   have h1:=hr g e'.symm
   have h2:=(h.lt g hv).1
   omega
def Md.RetExp (W0:World) (w:World) (vo:Value) (o:Option (List Int)) (e:Ending) (w':World):Prop :=
 ∃A n c,e=.returned (.tuple #[.slice A n c,.bool o.isSome])∧(∀l,o=some l→w'.ownsRow W0.heap.size 21 1 (.slice A n c) l.length (l.map (Value.int .i32))∧∀g,(Value.slice A n c).ownBlock=some g→vo.ownBlock=some g∨w.heap.size≤g)∧w.grownBy w' vo.ownBlock
def Md.Exps (T:List Rw.Row) (W0:World) (v:Value) (k:Nat):Prop :=
 ∀(l:List Int) (vo:Value) (c:Int) (deep:Nat) (w:World),deep+k=T.length+3 → -2147483648≤c→c≤2147483647→l.length≤32→Below W0.heap.size W0 w→w.ownsRow W0.heap.size 21 1 vo l.length (l.map (Value.int .i32)) →
  Calls Tryz.prog 120 #[v,vo,.int .i32 c,.int .i64 deep] w (Md.RetExp W0 w vo (Md.exp (Md.mp T) k l c))
set_option maxRecDepth 100000 in
set_option maxHeartbeats 4000000 in
theorem Md.exp_step (T:List Rw.Row) (S:List Int) (W0:World) (v:Value) (ok:Md.Ok T) (h0:Md.Is W0 v T S) (k:Nat) (IH:∀k',k=k'+1→Md.Exps T W0 v k'):Md.Exps T W0 v k:=by
 intro l vo c deep w hd h3 h4 hl b4 ar
 obtain⟨j0,hj0,dm,di,dh⟩:=Z7 infoRune
 have hv:=h0
 obtain⟨A,cc,XA,xc,rfl,h2,hX⟩:=hv
 obtain⟨xn,hxn⟩:∃k,S.length=k:=⟨_,rfl⟩
 obtain⟨n,hn⟩:∃k,T.length=k:=⟨_,rfl⟩
 have hnb:n≤1000000:=by rw[←hn];exact ok.1
 rw[hn]at hd
 have dt:=Za hn
 rw[hn,hxn]at h0 IH ⊢
 obtain⟨AO,co,rfl⟩:=own_form ar
 have b8:Below w.heap.size w (w.alloc (.cells #[.slice A n cc,.slice XA xn xc] 105)):=(Zd _ _).alloc (Zb _) _
 have b6:Rw.At (w.alloc (.cells #[.slice A n cc,.slice XA xn xc] 105)) w.heap.size 105 [.slice A n cc,.slice XA xn xc]:=Rw.At.new w 105 [.slice A n cc,.slice XA xn xc]
 have cw:=b4.trans (b8.mono b4.size)
 have hM:=Md.map_any _ T S c _ ok (h0.below cw) h3 h4
 have hmb:=Md.mp_bd ok.2.2.1 c
 have cx:(Md.mp T c).length≤1000000:=by
  unfold Md.mp Md.rmp
  split
  · simp
  · cases hf:Md.find T c with
    | none=>simp
    | some r=>exact ok.2.2.2 r (Md.find_some hf).1
 have z0:=b6.cell 0 rfl
 have z1:=b6.cell 1 rfl
 have bf:=b6
 obtain⟨m,hm⟩:∃m,Md.mp T c=m:=⟨_,rfl⟩
 rw[hm]at hmb hM cx
 obtain⟨f,hf⟩:∃f,Md.exp (Md.mp T) k l c=f:=⟨_,rfl⟩
 rw[hf]
 have HM:=Za hm
 have HF:=Za hf
 have dk:=Za hmb
 have b5:=Za IH
 have cj:=Za ar
 have cu:=Za b8
 have bw:=Za b4
 have c6:∀g,(Value.slice AO l.length co).ownBlock=some g→W0.heap.size≤g∧g<w.heap.size:=fun g hg=>ar.lt g hg
 have b3:=Za c6
 have ch:=Za bf
 unfold Md.RetOwn at hM
 clear h0 h2 hX hn hxn b8 b6 bf ok hm hf hmb IH ar cw b4 c6
 unfold Md.tv at *
 go_enter Tryz.func120,Tryz.ntmps120
 go_wp2_with fail
 refine hM.mono ?_
 rintro e w1 ⟨A1,c1,rfl,av,b1⟩
 have b2:=cu.out.trans (b1.mono cu.out.size)
 have dr:w.heap.size<w1.heap.size:=Zf (by simp) b1.size
 have bq:=ch.out.below b1
 have au:=own_below cj.out b2 (Zb _)
 have ct:=(Rw.grown_below b2).but (Value.slice AO l.length co).ownBlock
 have cp:=bw.out.trans (b2.mono bw.out.size)
 have cg:=cp.size
 have a7:=Za bq
 have ay:=Za au
 have bl:=Za ct
 have dv:=Za cp
 have cv:=Za av
 have dx:(l.map (Value.int .i32)).length=l.length:=Zg _
 clear b2 bq au ct cp av b1 hM z0 z1
 rcases m with _|⟨m0,mr⟩
 · have ai:f=Md.leaf l c:=by rw[←HF.out];exact Md.exp_leaf k HM.out
   have ax:f.isSome=decide ((l.length:Int)<32):=by
    rw[ai]
    unfold Md.leaf
    by_cases h:l.length<32
    · rw[Zp h,Zn (by omega)];rfl
    · rw[Zl h,Zo (by omega)];rfl
   have bt:=Za ai
   have bs:=Za ax
   have dy:(w1.alloc (.cells #[.int .i32 c] 21)).heap.size=w1.heap.size+1:=by simp
   clear ai ax b5
   go_wp2_with (at_builtin;refine wpList_append_lies _ rfl _ _ 49 rfl W0.heap.size 21 j0 _ 1 4 Tryz.underlying49 hj0 dm di dh rfl (by omega) _ l.length (l.map (Value.int .i32)) rfl (ay.out.alloc _) ⟨w1.heap.size,0,none⟩ 1 1 [.int .i32 c] rfl rfl (cell_one_new _ _ _) (by intro u hu;simp only[List.mem_singleton]at hu;subst hu;rfl) (by omega) (by unfold maxLen;omega) (by omega) (by omega) _ rfl ?_;intro g cap w2 az bp aa b7)
   have bb:=Za az
   have ae:=Za aa
   have df:=Za (bl.out.andThen ((Yk w1 (.cells #[.int .i32 c] 21) (Value.slice AO l.length co).ownBlock).trans bp) fun j hj=>.inr hj)
   clear az bp aa
   go_wp2_with fail
   go_ret2
   refine⟨some ⟨g,0,none⟩,l.length+1,cap,?_,fun l' af=>?_,df.out⟩
   · rw[bs.out];rfl
   have bu:l.length<32∧l'=l++[c]:=by
    rw[bt.out]at af
    unfold Md.leaf at af
    split at af
    · cases af;exact⟨‹_›,rfl⟩
    · cases af
   obtain⟨_,rfl⟩:=bu
   refine⟨?_,fun g' cr=>?_⟩
   · have:=bb.out
     rw[Ze,ZM]
     exact this
   · simp only[Value.ownBlock,Zi]at cr
     subst cr
     rcases ae.out with h|h
     · exact .inl h
     · exact .inr (by omega)
 · have hne:Md.mp T c≠[]:=by rw[HM.out];exact fun e=>by cases e
   have q1:((mr.length:Int)+1 == 0)=false:=by simp;omega
   have bc:(m0::mr).length=mr.length+1:=rfl
   rcases k with _|k
   · have aw:f=none:=by rw[←HF.out,Md.exp,Zl hne]
     have bg:=Za aw
     have bn:(n:Int)+2<deep:=by omega
     have bh:=a7.out
     have z2:=bh.cell 0 rfl
     clear aw b5 bh hne
     go_wp2_with fail
     go_ret2
     refine⟨AO,l.length,co,?_,fun l' af=>?_,bl.out⟩
     · rw[bg.out];rfl
     · rw[bg.out]at af;cases af
   · have aw:f=Md.expL (Md.exp (Md.mp T) k) l (m0::mr):=by rw[←HF.out,Md.exp,Zl hne,HM.out]
     have bg:=Za aw
     have bn:¬(n:Int)+2<deep:=by omega
     have c7:Md.Exps T W0 (.agg #[.slice A n cc,.slice XA xn xc]) k:=b5.out k rfl
     have HI:=Za c7
     have bh:=a7.out
     have z2:=bh.cell 0 rfl
     obtain⟨q,hq⟩:∃q,(m0::mr).length=q:=⟨_,rfl⟩
     have ak:=cv.out
     rw[hq]at ak ⊢
     have q2:((q:Int) == 0)=false:=by rw[←hq];simp;omega
     rw[hq]at cx
     have HQ:=Za hq
     have cn:=Za ak
     have br:(Value.slice AO l.length co).ownBlock≠some w.heap.size:=fun e=>by have:=(b3.out _ e).2;omega
     have bk:=Za br
     obtain⟨vb,cm⟩:∃vb,(Value.slice AO l.length co).ownBlock=vb:=⟨_,rfl⟩
     rw[cm]at bl bk b3
     have bx:=Za cm
     clear aw b5 bh hne c7 hq ak cv q1 bc br cm
     go_wp2_with fail
     go_loopw [1,11,13,36] (fun v1 v11 _ i wr=>∃(t:Nat) (A2:Option Addr) (c2:Nat) (ls:List Int),t≤q∧i=.int .i64 t∧v1=.slice A2 ls.length c2∧v11=.bool true∧Md.expL (Md.exp (Md.mp T) k) l ((m0::mr).take t)=some ls∧ls.length≤32∧wr.ownsRow W0.heap.size 21 1 (.slice A2 ls.length c2) ls.length (ls.map (Value.int .i32))∧(∀g,(Value.slice A2 ls.length c2).ownBlock=some g→vb=some g∨w1.heap.size≤g)∧w1.grownBy wr vb) (fun _ _ _ i _=>q-(intOf i).toNat)
     case atStart=>exact⟨0,AO,co,l,ZE _,rfl,rfl,rfl,rfl,hl,ay.out,fun g hg=>.inl (by rw[←bx.out];exact hg),(Rw.grown_below (Zd _ _)).but _⟩
     case round =>
      obtain⟨t,A2,c2,ls,ht,rfl,rfl,rfl,a6,cz,ah,aa,ba⟩:=hrel
      have aq:=a7.out.grown ba bk.out
      have ck:=Md.kept_of cn.out ba (fun g hg=>by have:=(b3.out g hg).2;simp;omega)
      have cf:=Sl.of_own ck
      have bz:=bl.out.andThen ba fun j hj=>.inr hj
      have b9:Below W0.heap.size W0 wr:=bw.out.trans (Rw.below_grown bz bw.out.size fun g hg=>(b3.out g hg).1)
      have y0:=aq.cell 0 rfl
      have y1:=aq.cell 1 rfl
      have dl:=ba.size
      have a1:=Za a6
      have bm:=Za ah
      have ae:=Za aa
      have dn:=Za ba
      have dc:=Za bz
      by_cases b7:t<q
      · obtain⟨x,hx⟩:∃x,(m0::mr)[t]?=some x:=⟨_,Zc (by rw[HQ.out];exact b7)⟩
        have hxb:=dk.out x (Zk hx)
        obtain⟨ab,ao,rfl,du,cy⟩:=cf (by rw[Zg,HQ.out];omega)
        have hc:=cy t (by rw[Zg,HQ.out];exact b7)
        rw[Zu,hx,Zt]at hc
        have ag:=HI.out ls _ x (deep+1) wr (by rw[dt.out];omega) hxb.1 hxb.2 cz b9 ah
        rw[show ((deep+1:Nat):Int)=(deep:Int)+1 by omega]at ag
        obtain⟨o,ho⟩:∃o,Md.exp (Md.mp T) k ls x=o:=⟨_,rfl⟩
        rw[ho]at ag
        have HX:=Za hx
        have HO:=Za ho
        have tI:(t:Int)<q:=by omega
        clear a6 ah aa ba bz b9 aq ck cf cy hx ho
        go_wp2_with fail
        refine ag.mono ?_
        rintro e w2 ⟨A3,n3,c3,rfl,bj,cq⟩
        have c8:=dn.out.andThen cq fun j hj=>by
         rcases ae.out j hj with h|h
         · exact .inr h
         · exact .inl h
        have cb:=Za c8
        have cd:=Za bj
        clear cq c8 bj ag
        rcases o with _|l3
        · have aw:f=none:=by rw[bg.out];exact Md.expL_stop HX.out a1.out HO.out
          have bo:=Za aw
          clear aw
          go_wp2_with fail
          go_ret2
          refine⟨A3,n3,c3,?_,fun l' af=>?_,?_⟩
          · rw[bo.out];rfl
          · rw[bo.out]at af;cases af
          · rw[bx.out];exact bl.out.andThen cb.out fun j hj=>.inr hj
        · obtain⟨aj,ap⟩:=cd.out l3 rfl
          obtain⟨A4,c4,h4⟩:=own_form aj
          injection h4 with h4a h4b h4c
          subst h4a h4b h4c
          have bi:=Za aj
          have a8:=Za ap
          have dp:=Md.exp_le cz HO.out
          have dw:=cb.out.size
          clear aj ap
          go_wp2_with fail
          refine⟨⟨t+1,A3,c3,l3,by omega,by go_num,rfl,rfl,?_,dp,bi.out,fun g hg=>?_,cb.out⟩,by simp[intOf];omega⟩
          · rw[Md.expL_step HX.out a1.out,HO.out]
          · rcases a8.out g hg with h|h
            · exact ae.out g h
            · exact .inr (Zh dl h)
      · obtain rfl:t=q:=by omega
        have tI:¬(t:Int)<t:=by omega
        clear a6 ah aa ba bz b9 aq ck cf
        go_wp2_with fail
        go_ret2
        have hf:f=some ls:=by
         have:=a1.out
         rw[Zj (by rw[HQ.out];exact Zb _)]at this
         rw[bg.out,this]
        refine⟨A2,ls.length,c2,?_,fun l' af=>?_,?_⟩
        · rw[hf];rfl
        · rw[hf]at af
          cases af
          refine⟨bm.out,fun g hg=>?_⟩
          rw[bx.out]
          rcases ae.out g hg with h|h
          · exact .inl h
          · exact .inr (by omega)
        · rw[bx.out];exact dc.out
theorem Md.exp_any (T:List Rw.Row) (S:List Int) (W0:World) (v:Value) (ok:Md.Ok T) (h0:Md.Is W0 v T S):∀k,Md.Exps T W0 v k
 | 0=>Md.exp_step T S W0 v ok h0 0 fun k' h=>absurd h (by omega)
 | k+1=>Md.exp_step T S W0 v ok h0 (k+1) fun k' h=>by
   obtain rfl:k=k':=by omega
   exact Md.exp_any T S W0 v ok h0 k
set_option maxRecDepth 100000 in
set_option maxHeartbeats 1000000 in
theorem Md.full_any (v:Value) (T:List Rw.Row) (S:List Int) (d:Int) (w:World) (ok:Md.Ok T) (h:Md.Is w v T S) (h3 : -2147483648≤d) (h4:d≤2147483647) :
 Calls Tryz.prog 90 #[v,.int .i32 d] w (Md.RetOwn ((Md.full T d).getD []) w):=by
 have hv:=h
 obtain⟨A,c,XA,xc,rfl,h2,hX⟩:=hv
 obtain⟨xn,hxn⟩:∃k,S.length=k:=⟨_,rfl⟩
 obtain⟨n,hn⟩:∃k,T.length=k:=⟨_,rfl⟩
 rw[hn,hxn]at h ⊢
 have ah:Below w.heap.size w (w.alloc (.cells #[.slice A n c,.slice XA xn xc] 105)):=(Zd _ _).alloc (Zb _) _
 have ai:Rw.At (w.alloc (.cells #[.slice A n c,.slice XA xn xc] 105)) w.heap.size 105 [.slice A n c,.slice XA xn xc]:=Rw.At.new w 105 [.slice A n c,.slice XA xn xc]
 have hE:=Md.exp_any T S _ _ ok (h.below ah) (T.length+3) [] (.slice none 0 0) d 0 _ (by omega) h3 h4 (by simp) (Zd _ _) (ZC _ _ _ _)
 have af:Md.exp (Md.mp T) (T.length+3) [] d=Md.full T d:=rfl
 rw[af]at hE
 obtain⟨o,ho⟩:∃o,Md.full T d=o:=⟨_,rfl⟩
 rw[ho]at hE ⊢
 have hole:∀l,o=some l→l.length≤32:=fun l hl=>Md.exp_le (by simp) (af.trans (ho.trans hl))
 have z0:=ai.cell 0 rfl
 have z1:=ai.cell 1 rfl
 have HB:=Za ah
 have ak:=Za hole
 clear h h2 hX hn hxn ah ai ok af ho hole
 unfold Md.tv at hE ⊢
 go_enter Tryz.func90,Tryz.ntmps90
 go_wp2_with fail
 refine hE.mono ?_
 rintro e w1 ⟨A1,n1,c1,rfl,ae,hg⟩
 have aj:=Za (HB.out.trans (Rw.below_grown hg HB.out.size fun k hk=>by cases hk))
 have ag:=Za ae
 clear ae hg hE z0 z1
 rcases o with _|l
 · go_wp2_with fail
   go_ret
   exact⟨none,0,rfl,ZC _ _ _ _,aj.out⟩
 · obtain⟨aa,_⟩:=ag.out l rfl
   obtain⟨A4,c4,ao⟩:=own_form aa
   injection ao with h4a h4b h4c
   subst h4a h4b h4c
   have HO:=Za (own_base aa (by simp:w.heap.size≤(w.alloc (.cells #[.slice A n c,.slice XA xn xc] 105)).heap.size))
   clear aa
   go_wp2_with fail
   go_ret
   exact⟨A1,c1,rfl,HO.out,aj.out⟩
section
set_option maxRecDepth 100000
set_option maxHeartbeats 2000000
theorem Md.comp_any (v:Value) (T:List Rw.Row) (S:List Int) (r:Rw.Row) (aA:Option Addr) (ac:Nat) (w:World) (ok:Md.Ok T) (h:Md.Is w v T S) (hS:C.srt S) (a7:S.length≤1000000) (hr : -2147483648≤r.1∧r.1≤2147483647) (hm:∀c∈r.2.2,-2147483648≤c∧c≤2147483647) (hl:r.2.2.length≤1000000) (hM:Sl w w.heap.size aA (r.2.2.map (Value.int .i32))) :
 Calls Tryz.prog 121 #[v,Md.rv r (aA,ac)] w fun e w'=>e=.returned (.bool (Md.comp T (C.mem S) r))∧Below w.heap.size w w':=by
 obtain⟨A,c,XA,xc,rfl,h2,hX⟩:=id h
 obtain⟨xn,hxn⟩:∃k,S.length=k:=⟨_,rfl⟩
 obtain⟨n,hn⟩:∃k,T.length=k:=⟨_,rfl⟩
 rw[hn,hxn]at h ⊢
 obtain⟨ml,au⟩:∃k,r.2.2.length=k:=⟨_,rfl⟩
 have a6:=Za au
 unfold Md.rv
 rw[au]at hl ⊢
 obtain⟨wa,ai⟩:∃wa,(w.alloc (.cells #[.slice A n c,.slice XA xn xc] 105)).alloc (.cells #[.int .i32 r.1,.int .i64 r.2.1,.slice aA ml ac] 113)=wa:=⟨_,rfl⟩
 have ap:Below w.heap.size w wa:=by rw[←ai];exact ((Zd _ _).alloc (Zb _) _).alloc (by simp) _
 have af:Rw.At wa w.heap.size 105 [.slice A n c,.slice XA xn xc]:=by rw[←ai];exact (Rw.At.new w 105 [.slice A n c,.slice XA xn xc]).alloc _
 have aa:Rw.At wa (w.heap.size+1) 113 [.int .i32 r.1,.int .i64 r.2.1,.slice aA ml ac]:=by
  have hh:=Rw.At.new (w.alloc (.cells #[.slice A n c,.slice XA xn xc] 105)) 113 [.int .i32 r.1,.int .i64 r.2.1,.slice aA ml ac]
  rw[ZH]at hh
  rw[←ai]
  exact hh
 have aj:w.heap.size+1<wa.heap.size:=aa.lt
 have z0:=af.cell 0 rfl
 have z1:=af.cell 1 rfl
 have y0:=aa.cell 0 rfl
 have y1:=aa.cell 1 rfl
 have y2:=aa.cell 2 rfl
 have ak:=Za ai
 have ae:=Za ap
 have bi:=Za (h.below ap)
 have HX:=Za hX
 have bh:=Za hxn
 have bn:=Za hS
 have bk:=Za hM
 have bp:=Za hm
 have bc:=Za ok
 have bj:=Za af
 have bo:=Za aa
 rw[hxn]at a7
 obtain⟨cm,ah⟩:∃b,Md.comp T (C.mem S) r=b:=⟨_,rfl⟩
 rw[ah]
 have ar:=Za ah
 clear ai ap h h2 hX hxn hS hM hm hn ok af aa ah au
 unfold Md.tv
 rcases hb1:(r.2.1 == 0) with _|_
 · go_enter Tryz.func121,Tryz.ntmps121
   go_upto_region 1 with (fail)
   rw[ak.out]
   go_quiet (fail)
   go_wp2_with fail
   go_ret
   have hc:cm=false:=by
    rw[←ar.out]
    unfold Md.comp
    rw[decide_eq_false (by simpa using hb1),Bool.false_and]
   exact⟨by rw[hc];rfl,below_drewN ae.out _⟩
 · rcases hb2:((ml:Int) == 2) with _|_
   · go_enter Tryz.func121,Tryz.ntmps121
     go_upto_region 1 with (fail)
     rw[ak.out]
     go_quiet (fail)
     go_wp2_with fail
     go_ret
     have hc:cm=false:=by
      rw[←ar.out]
      unfold Md.comp
      have h2:¬r.2.2.length=2:=fun e=>by rw[a6.out]at e;rw[e]at hb2;simp at hb2
      rw[Zo h2,Xh,Bool.and_false]
     exact⟨by rw[hc];rfl,below_drewN ae.out _⟩
   · obtain⟨x,y,aw⟩:∃x y,r.2.2=[x,y]:=by
      have h2:r.2.2.length=2:=by rw[a6.out];have:=beq_iff_eq.1 hb2;omega
      match hh:r.2.2,h2 with
      | [x,y],_=>exact⟨x,y,rfl⟩
     have ax:=bk.out.below ae.out ae.out.size
     rw[aw]at ax
     obtain⟨ab,ao,hA,bg,az⟩:=ax (by simp)
     have a1:wa.cell? ⟨ab,ao,none⟩=some (.int .i32 x):=by simpa using az 0 (by simp)
     subst hA
     have hxb:=bp.out x (by rw[aw];simp)
     have ay:Hid (∀W,Below wa.heap.size wa W→Calls Tryz.prog 153 #[.agg #[.slice A n c,.slice XA xn xc],.int .i32 x] W fun e w'=>e=.returned (.int .i64 (Md.cls T x))∧Below W.heap.size W w'):=Za fun W hW=>Md.class_any _ T S x W bc.out (bi.out.below hW) hxb.1 hxb.2
     have ba:Hid (∀W,Below wa.heap.size wa W→Calls Tryz.prog 154 #[.agg #[.slice XA xn xc],.int .i32 r.1] W fun e w'=>e=.returned (.bool (C.mem S r.1))∧Below W.heap.size W w'):=Za fun W hW=>C.has_any XA xc xn w.heap.size S r.1 W bh.out a7 bn.out (Zh ae.out.size hW.size) (HX.out.below (ae.out.trans (hW.mono ae.out.size)) (Zb _))
     have bb:Below wa.heap.size wa wa:=Zd _ _
     have ah:cm=(decide (Md.cls T x=0)&&!C.mem S r.1):=by
      rw[←ar.out]
      unfold Md.comp
      rw[Zn (beq_iff_eq.1 hb1),aw]
      rfl
     have ag:=Za ah
     have bl:0<ml:=by have:=beq_iff_eq.1 hb2;omega
     have bm:(0:Int)<ml:=by have:=beq_iff_eq.1 hb2;omega
     obtain⟨q,hq⟩:∃q,Md.cls T x=q:=⟨_,rfl⟩
     rw[hq]at ay ag
     have C1:=Za (Ext.call ay.out)
     have C2:=Za (Ext.call ba.out)
     have f0:=Ext.cells z0 (Nat.lt_trans (ZS _) aj)
     have f1:=Ext.cells z1 (Nat.lt_trans (ZS _) aj)
     have f2:=Ext.cells y0 aj
     have f3:=Ext.cells y1 aj
     have f4:=Ext.cells y2 aj
     have f5:=Ext.cells a1 bg
     clear ah az ax hq ay ba z0 z1 y0 y1 y2 a1 bb
     rcases hb3:(q == 0) with _|_
     · have a8:decide (q=0)=false:=by simpa using hb3
       have av:Hid (cm=false):=Za (by rw[ag.out,a8];rfl)
       clear a8
       go_enter Tryz.func121,Tryz.ntmps121
       go_upto_region 1 with (fail)
       rw[ak.out]
       refine wp_region_ext (by kernel_rfl) (by kernel_rfl) ?_
       repeat (go_big_quiet_step ((first|(go_at_call 153;with_reducible exact C1.out _)|(go_at_call 154;with_reducible exact C2.out _))))
       refine wpQuiet_nil ?_
       intro xw
       have aq:=Za (ae.out.trans (xw.below.mono ae.out.size))
       go_wp2_with fail
       go_ret
       exact⟨by rw[av.out];rfl,aq.out⟩
     · have bf:q=0:=beq_iff_eq.1 hb3
       subst bf
       have av:Hid (cm=!C.mem S r.1):=Za (by rw[ag.out];rfl)
       clear hb3
       go_enter Tryz.func121,Tryz.ntmps121
       go_upto_region 1 with (fail)
       rw[ak.out]
       refine wp_region_ext (by kernel_rfl) (by kernel_rfl) ?_
       repeat (go_big_quiet_step ((first|(go_at_call 153;with_reducible exact C1.out _)|(go_at_call 154;with_reducible exact C2.out _))))
       refine wpQuiet_nil ?_
       intro xw
       have aq:=Za (ae.out.trans (xw.below.mono ae.out.size))
       go_wp2_with fail
       go_ret
       exact⟨by rw[av.out];rfl,aq.out⟩
theorem Md.prim_any (v:Value) (T:List Rw.Row) (S:List Int) (d:Int) (w:World) (ok:Md.Ok T) (h:Md.Is w v T S) (hS:C.srt S) (a6:S.length≤1000000) (h3 : -2147483648≤d) (h4:d≤2147483647) :
 Calls Tryz.prog 91 #[v,.int .i32 d] w fun e w'=>e=.returned (.bool (Md.prim T (C.mem S) d))∧Below w.heap.size w w':=by
 obtain⟨A,c,XA,xc,rfl,h2,hX⟩:=id h
 obtain⟨xn,hxn⟩:∃k,S.length=k:=⟨_,rfl⟩
 obtain⟨n,hn⟩:∃k,T.length=k:=⟨_,rfl⟩
 rw[hn,hxn]at h ⊢
 have ar:Below w.heap.size w (w.alloc (.cells #[.slice A n c,.slice XA xn xc] 105)):=(Zd _ _).alloc (Zb _) _
 have ak:Rw.At (w.alloc (.cells #[.slice A n c,.slice XA xn xc] 105)) w.heap.size 105 [.slice A n c,.slice XA xn xc]:=Rw.At.new w 105 [.slice A n c,.slice XA xn xc]
 have HF:=Za (Md.find_is d ok (h.below ar) h3 h4)
 have HP:=Za (Hg.pair_any d (w.alloc (.cells #[.slice A n c,.slice XA xn xc] 105)) h3 h4)
 have ae:Hid (∀(r:Rw.Row) (a:Option Addr × Nat) (W:World),Md.find T d=some r→Below w.heap.size w W→Sl W W.heap.size a.1 (r.2.2.map (Value.int .i32)) →
  Calls Tryz.prog 121 #[.agg #[.slice A n c,.slice XA xn xc],Md.rv r a] W fun e w'=>e=.returned (.bool (Md.comp T (C.mem S) r))∧Below W.heap.size W w'):=Za fun r a W hr hW aj=>by
  have hm:=(Md.find_some hr).1
  have hb:=ok.2.2.1 r hm
  exact Md.comp_any _ T S r a.1 a.2 W ok (h.below hW) hS (by omega) hb.1 hb.2 (ok.2.2.2 r hm) aj
 have z0:=ak.cell 0 rfl
 have z1:=ak.cell 1 rfl
 have HB:=Za ar
 have ay:=Za ak
 rcases hpk:Hg.pairK d with ⟨x,y,is⟩
 have hp:=HP.out
 rw[hpk]at hp
 have ap:=Za hpk
 obtain⟨o,ho⟩:∃o,Md.prim T (C.mem S) d=o:=⟨_,rfl⟩
 rw[ho]
 have HO:=Za ho
 clear h h2 hX hxn hn ar ak hpk HP ho hS ok
 unfold Md.tv at HF ⊢
 cases is
 · go_enter Tryz.func91,Tryz.ntmps91
   go_wp2_with fail
   refine hp.mono ?_
   rintro e w0 ⟨rfl,rfl⟩
   go_wp2_with fail
   refine HF.out.mono ?_
   rintro e w1 ⟨a,rfl,aj,aq⟩
   have ah:=Za (HB.out.trans (aq.mono HB.out.size))
   have aa:=ay.out.below aq
   have az:=Za aa
   have k0:=aa.cell 0 rfl
   have k1:=aa.cell 1 rfl
   have a1:=aa.lt
   have ao:=Za aj
   clear aq aj z0 z1 hp aa HF
   rcases hfi:Md.find T d with _|r
   · have hro:Md.rowOf T d=(0,0,[]):=by unfold Md.rowOf;rw[hfi];rfl
     have af:o=false:=by
      rw[←HO.out]
      unfold Md.prim
      rw[ap.out,hfi]
      rfl
     have ag:=Za af
     rw[hro]
     clear hro hfi af
     unfold Md.rv
     go_wp2_with fail
     go_ret
     exact⟨by rw[ag.out];rfl,ah.out.alloc ah.out.size _⟩
   · have hro:Md.rowOf T d=r:=by unfold Md.rowOf;rw[hfi];rfl
     rw[hro]at ao
     have af:o=Md.comp T (C.mem S) r:=by
      rw[←HO.out]
      unfold Md.prim
      rw[ap.out,hfi]
      rfl
     have ag:=Za af
     have ai:Below w1.heap.size w1 (w1.alloc (.cells #[.int .i32 r.1,.int .i64 r.2.1,.slice a.1 r.2.2.length a.2] 113)):=(Zd _ _).alloc (Zb _) _
     have HC:=Za (ae.out r a _ hfi (ah.out.trans (ai.mono ah.out.size)) (ao.out.below ai ai.size))
     have au:=Za (ah.out.trans (ai.mono ah.out.size))
     rw[hro]
     obtain⟨cr,av⟩:∃b,Md.comp T (C.mem S) r=b:=⟨_,rfl⟩
     rw[av]at HC ag
     clear hro hfi af ai av ao ae
     unfold Md.rv at HC ⊢
     go_wp2_with fail
     refine HC.out.mono ?_
     rintro e wk ⟨rfl,aw⟩
     have ax:=Za (au.out.trans (aw.mono au.out.size))
     clear aw
     go_wp2_with fail
     go_ret
     exact⟨by rw[ag.out];rfl,ax.out⟩
 · have af:o=true:=by
    rw[←HO.out]
    unfold Md.prim
    rw[ap.out]
    rfl
   have ag:=Za af
   clear af HF ae
   go_enter Tryz.func91,Tryz.ntmps91
   go_wp2_with fail
   refine hp.mono ?_
   rintro e w0 ⟨rfl,rfl⟩
   go_wp2_with fail
   go_ret
   exact⟨by rw[ag.out];rfl,HB.out⟩
end
theorem C.utfis_any (c:Int) (w:World):Calls Tryz.prog 52 #[.int .i32 c] w fun e w'=>e=.returned (.bool (C.isC c))∧w=w':=by
 have e:C.isC c=(decide (0≤c)&&decide (c≤1114111)&&(decide (c<55296)||decide (57343<c))):=by
  unfold C.isC
  rw[Yb]
  simp
  omega
 rw[e]
 clear e
 by_cases h1:0≤c <;> by_cases h2:c≤1114111 <;> by_cases h3:c<55296 <;> by_cases h4:57343<c
 all_goals
  first
   | (exfalso;omega)
   | (go_enter Tryz.func52,Tryz.ntmps52
      go_wp2
      go_ret
      exact⟨by simp[h1,h2,h3,h4],rfl⟩)
def Md.note:Nat→ByteArray
 | 0=>⟨#[]⟩
 | 1=>⟨#[114,111,119]⟩
 | 2=>⟨#[104,97,110,103,117,108]⟩
 | 3=>⟨#[116,97,114,103,101,116]⟩
 | 4=>⟨#[102,117,108,108]⟩
 | _=>⟨#[112,97,105,114]⟩
def Md.tk (r:Rw.Row) (k:Nat):Bool:=(r.1::r.2.2.take k).any fun c=>decide (Hg.ofK c≠0)
def Md.st (r:Rw.Row) (k:Nat):Bool:=(r.2.2.take k).any fun c=>!C.isC c
theorem Md.tk_zero (r:Rw.Row):Md.tk r 0=decide (Hg.ofK r.1≠0):=by simp[Md.tk]
theorem Md.tk_succ {r:Rw.Row} {k:Nat} {x:Int} (h:r.2.2[k]?=some x):Md.tk r (k+1)=(Md.tk r k||decide (Hg.ofK x≠0)):=by
 unfold Md.tk
 rw[Zw,h,←ZQ,List.any_append]
 simp
theorem Md.st_succ {r:Rw.Row} {k:Nat} {x:Int} (h:r.2.2[k]?=some x):Md.st r (k+1)=(Md.st r k||!C.isC x):=by
 unfold Md.st
 rw[Zw,h,List.any_append]
 simp
theorem Md.bad_of (last:Int) (r:Rw.Row):Md.bad last r=if (!C.isC r.1||decide (r.1≤last)||decide (r.2.1<0)||decide (254<r.2.1)||decide (2<r.2.2.length))=true then 1
 else if Md.tk r r.2.2.length=true then 2 else if Md.st r r.2.2.length=true then 3 else 0:=by
 unfold Md.bad Md.tk Md.st
 rw[List.take_length]
set_option maxRecDepth 100000 in
set_option maxHeartbeats 2000000 in
theorem Md.row_any (r:Rw.Row) (aA:Option Addr) (ac:Nat) (last:Int) (w:World) (hr : -2147483648≤r.1∧r.1≤2147483647) (bl : -2147483648≤last∧last≤2147483647) (hm:∀c∈r.2.2,-2147483648≤c∧c≤2147483647) (hl:r.2.2.length≤1000000) (hM:Sl w w.heap.size aA (r.2.2.map (Value.int .i32))) :
 Calls Tryz.prog 118 #[Md.rv r (aA,ac),.int .i32 last] w fun e w'=>e=.returned (.string (Md.note (Md.bad last r)))∧Below w.heap.size w w':=by
 rw[Md.bad_of]
 obtain⟨ml,au⟩:∃k,r.2.2.length=k:=⟨_,rfl⟩
 have ah:=Md.tk_zero r
 obtain⟨bi,h0⟩:∃b,Md.tk r 0=b:=⟨_,rfl⟩
 unfold Md.rv
 rw[au]at hl ⊢
 have ar:=Za au
 obtain⟨res,ae⟩:∃n,(if (!C.isC r.1||decide (r.1≤last)||decide (r.2.1<0)||decide (254<r.2.1)||decide (2<ml))=true then 1 else if Md.tk r ml=true then 2 else if Md.st r ml=true then 3 else 0)=n:=⟨_,rfl⟩
 rw[ae]
 have aa:=Za ae
 clear ae
 have ak:Below w.heap.size w (w.alloc (.cells #[.int .i32 r.1,.int .i64 r.2.1,.slice aA ml ac] 113)):=(Zd _ _).alloc (Zb _) _
 have ai:Rw.At (w.alloc (.cells #[.int .i32 r.1,.int .i64 r.2.1,.slice aA ml ac] 113)) w.heap.size 113 [.int .i32 r.1,.int .i64 r.2.1,.slice aA ml ac]:=Rw.At.new w 113 [.int .i32 r.1,.int .i64 r.2.1,.slice aA ml ac]
 have bk:=Za ai
 have HB:=Za ak
 have a6:=hM.below ak ak.size
 have HS:=Za a6
 have bh:=Za hm
 have ba:=Za ah
 obtain⟨c0,c1,c2,_,_,_⟩:=ai.three
 obtain⟨wa,ap⟩:∃wa,w.alloc (.cells #[.int .i32 r.1,.int .i64 r.2.1,.slice aA ml ac] 113)=wa:=⟨_,rfl⟩
 have ax:=Hg.of_any r.1 wa hr.1 hr.2
 have hU:=C.utfis_any r.1 wa
 rw[ap]at c0 c1 c2 ai
 have bj:=ai.lt
 have aj:=Za ap
 have bg:=hr.1
 have bb:=hr.2
 obtain⟨bf,ag⟩:∃k,Hg.ofK r.1=k:=⟨_,rfl⟩
 rw[ag]at ax
 have a1:Md.tk r 0=!(bf == 0):=by
  rw[ah,ag,Yb]
  simp
 have bc:=Za a1
 clear au ah ai ak a6 hM hm h0 hr ap ag a1
 go_enter Tryz.func118,Tryz.ntmps118
 go_upto_region 1 with (fail)
 rw[aj.out]
 go_wp2_with fail
 refine ax.mono ?_
 rintro e w0 ⟨rfl,rfl⟩
 go_wp2_with fail
 go_loop [5,6,16] (fun v5 v6 i=>∃k:Nat,k≤ml∧i=.int .i64 k∧v5=.bool (Md.tk r k)∧v6=.bool (Md.st r k)) (fun _ _ i=>ml-(intOf i).toNat)
 case atStart=>exact⟨0,ZE _,rfl,by rw[bc.out];rfl,rfl⟩
 case round =>
  obtain⟨k,hk,rfl,rfl,rfl⟩:=hrel
  by_cases hlt':k<ml
  · obtain⟨x,hx⟩:∃x,r.2.2[k]?=some x:=⟨_,Zc (by rw[ar.out];exact hlt')⟩
    have hxb:=bh.out x (Zk hx)
    obtain⟨ab,ao,hA,a8,aw⟩:=HS.out (by rw[Zg,ar.out];omega)
    have hc:=aw k (by rw[Zg,ar.out];exact hlt')
    rw[Zu,hx,Zt,aj.out]at hc
    rw[aj.out]at a8
    have h1:=Md.tk_succ hx
    have h2:=Md.st_succ hx
    have hO:=Hg.of_any x wa hxb.1 hxb.2
    have hI:=C.utfis_any x wa
    obtain⟨ox,az⟩:∃k,Hg.ofK x=k:=⟨_,rfl⟩
    obtain⟨ix,ay⟩:∃k,C.isC x=k:=⟨_,rfl⟩
    obtain⟨t,ht⟩:∃b,Md.tk r k=b:=⟨_,rfl⟩
    obtain⟨s,hs⟩:∃b,Md.st r k=b:=⟨_,rfl⟩
    rw[az]at hO h1
    rw[ay]at hI h2
    rw[ht]at h1 ⊢
    rw[hs]at h2 ⊢
    have hd:decide (ox≠0)=!(ox == 0):=by rw[Yb];simp
    rw[hd]at h1
    have H1:=Za h1
    have H2:=Za h2
    subst hA
    clear hx aw az ay ht hs h1 h2 hd
    have a7:(k:Int)<ml:=by omega
    cases t <;> cases s
    all_goals
     go_wp2_with (first|(go_at_call 45;refine hO.mono ?_;rintro e w' ⟨rfl,rfl⟩)|(go_at_call 52;refine hI.mono ?_;rintro e w' ⟨rfl,rfl⟩)|fail)
     go_round
     case rel=>exact⟨k+1,by omega,by go_num,by rw[H1.out];rfl,by rw[H2.out];rfl⟩
     case measure=>simp[intOf];omega
  · obtain rfl:k=ml:=by omega
    have av:Below w.heap.size w wa:=by rw[←aj.out];exact HB.out
    have af:=Za av
    obtain⟨t,ht⟩:∃b,Md.tk r k=b:=⟨_,rfl⟩
    obtain⟨s,hs⟩:∃b,Md.st r k=b:=⟨_,rfl⟩
    obtain⟨ic,aq⟩:∃b,C.isC r.1=b:=⟨_,rfl⟩
    rw[ht,hs]
    rw[aq]at hU
    have ae:=aa.out
    rw[ht,hs,aq]at ae
    clear aa
    have aa:=Za ae
    clear av ht hs aq ae
    cases ic
    · have he:1=res:=aa.out
      subst he
      go_wp2_with (first|(go_at_call 52;refine hU.mono ?_;rintro e w' ⟨rfl,rfl⟩)|fail)
      go_ret
      exact⟨rfl,af.out⟩
    · rcases hb2:decide (r.1≤last) with _|_
      · rcases hb3:decide (r.2.1<0) with _|_
        · rcases hb4:decide (254<r.2.1) with _|_
          · rcases hb5:decide (2<(k:Int)) with _|_
            · have h5:decide (2<k)=false:=by simp at hb5 ⊢;omega
              cases t
              · cases s
                · have he:0=res:=by rw[←aa.out,hb2,hb3,hb4,h5];rfl
                  subst he
                  clear h5
                  go_wp2_with (first|(go_at_call 52;refine hU.mono ?_;rintro e w' ⟨rfl,rfl⟩)|fail)
                  go_ret
                  exact⟨rfl,af.out⟩
                · have he:3=res:=by rw[←aa.out,hb2,hb3,hb4,h5];rfl
                  subst he
                  clear h5
                  go_wp2_with (first|(go_at_call 52;refine hU.mono ?_;rintro e w' ⟨rfl,rfl⟩)|fail)
                  go_ret
                  exact⟨rfl,af.out⟩
              · have he:2=res:=by rw[←aa.out,hb2,hb3,hb4,h5];rfl
                subst he
                clear h5
                go_wp2_with (first|(go_at_call 52;refine hU.mono ?_;rintro e w' ⟨rfl,rfl⟩)|fail)
                go_ret
                exact⟨rfl,af.out⟩
            · have h5:decide (2<k)=true:=by simp at hb5 ⊢;omega
              have he:1=res:=by rw[←aa.out,hb2,hb3,hb4,h5];rfl
              subst he
              clear h5
              go_wp2_with (first|(go_at_call 52;refine hU.mono ?_;rintro e w' ⟨rfl,rfl⟩)|fail)
              go_ret
              exact⟨rfl,af.out⟩
          · have he:1=res:=by rw[←aa.out,hb2,hb3,hb4];rfl
            subst he
            go_wp2_with (first|(go_at_call 52;refine hU.mono ?_;rintro e w' ⟨rfl,rfl⟩)|fail)
            go_ret
            exact⟨rfl,af.out⟩
        · have he:1=res:=by rw[←aa.out,hb2,hb3];rfl
          subst he
          go_wp2_with (first|(go_at_call 52;refine hU.mono ?_;rintro e w' ⟨rfl,rfl⟩)|fail)
          go_ret
          exact⟨rfl,af.out⟩
      · have he:1=res:=by rw[←aa.out,hb2];rfl
        subst he
        go_wp2_with (first|(go_at_call 52;refine hU.mono ?_;rintro e w' ⟨rfl,rfl⟩)|fail)
        go_ret
        exact⟨rfl,af.out⟩
end Go.Proofs.YtikiplbhlohmdaaGreatDoor
namespace Go.Proofs.YtikiplbhlohmdaaGreatDoor
open Go.RowKit Go.Stop
def F.Ch (w:World) (B:Nat):List (Nat × Int × Int × ByteArray)→Value→Prop
 | [],v=>v=.nilIface
 | (b,c,n,s)::t,v=>v=.iface 157 (.pointer (some ⟨b,0,none⟩))∧b<B∧∃e,w.heap[b]?=some (.cells #[.int .i64 c,.int .i64 n,.string s,e] 159 (0,0))∧F.Ch w B t e
def F.lk (q:List (Nat × Int × Int × ByteArray)):List (Int × Int × ByteArray):=q.map (·.2)
def F.RetCh (l:List (Int × Int × ByteArray)) (w:World) (e:Ending) (w':World):Prop :=
 ∃q v,e=.returned v∧F.lk q=l∧F.Ch w' w'.heap.size q v∧Below w.heap.size w w'
set_option maxRecDepth 100000 in
set_option maxHeartbeats 1000000 in
theorem F.at_any (c n:Int) (s:ByteArray) (w:World) :
 Calls Tryz.prog 69 #[.int .i64 c,.int .i64 n,.string s] w (F.RetCh (if c=0 then [] else [(c,n,s)]) w):=by
 by_cases hc:c=0
 · rw[Zp hc]
   subst hc
   go_enter Tryz.func69,Tryz.ntmps69
   go_wp2
   go_ret
   exact⟨[],.nilIface,rfl,rfl,rfl,Zd _ _⟩
 · rw[Zl hc]
   go_enter Tryz.func69,Tryz.ntmps69
   go_wp2
   go_ret
   have hn:=ZP w (.cells #[.int .i64 c,.int .i64 n,.string s,.nilIface] 159)
   have hs:w.heap.size<(w.alloc (.cells #[.int .i64 c,.int .i64 n,.string s,.nilIface] 159)).heap.size:=by simp
   have aa:Below w.heap.size w (w.alloc (.cells #[.int .i64 c,.int .i64 n,.string s,.nilIface] 159)):=(Zd _ _).alloc (Zb _) _
   exact⟨[(w.heap.size,c,n,s)],_,rfl,rfl,⟨rfl,hs,.nilIface,hn,rfl⟩,aa⟩
theorem F.of_any (c:Int) (w:World) :
 Calls Tryz.prog 38 #[.int .i64 c] w (F.RetCh (if c=0 then [] else [(c,0,⟨#[]⟩)]) w):=by
 have HA:=Za (F.at_any c 0 ⟨#[]⟩ w)
 obtain⟨l,aa⟩:∃l,(if c=0 then [] else [(c,(0:Int),(⟨#[]⟩:ByteArray))])=l:=⟨_,rfl⟩
 rw[aa]at HA ⊢
 clear aa
 go_enter Tryz.func38,Tryz.ntmps38
 go_wp2_with fail
 refine HA.out.mono ?_
 rintro e w1 ⟨q,v,rfl,hl,hq,hb⟩
 go_wp2
 go_ret
 exact⟨q,v,rfl,hl,hq,hb⟩
end Go.Proofs.YtikiplbhlohmdaaGreatDoor
