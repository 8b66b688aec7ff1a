/- Pages: New, by walking its text. -/
import Derived.Test.YtddbccflcekdpaaGreatDoorPgReg
import Derived.Lib.SlicesS
import Derived.RangeFuncCalls
set_option maxRecDepth 1000000
set_option maxHeartbeats 4000000
set_option linter.unusedVariables false
set_option linter.unusedSimpArgs false
namespace Go.Proofs.YtddbccflcekdpaaGreatDoor
open Go.Proofs.Tryz
section
open Go.RowKit
theorem zMs (A:Option Addr) (n c:Nat) (L:List (Int × Int)) (w:World) (hn:L.length=n) (eo:zH1 L) (hs:Sl w w.heap.size A (Pg.fl L)) (fh:n≤maxLen) :
 Calls prog 127 #[.slice A n c] w fun e w'=>∃v,e=.returned v∧zSu w.heap.size w' v (Pg.last L)∧Below w.heap.size w w':=by
 have eb:=@JB prog;have ao:=Pg.St.made w w.heap.size (w.alloc (.map #[] 0)).heap.size;have du:Below w.heap.size w (w.alloc (.map #[] 0)):=(Zc _ _).alloc (Za _) _;obtain⟨w1,dh⟩:∃w1,w.alloc (.map #[] 0)=w1:=⟨_,rfl⟩;rw[dh]at ao du;have eu:w1.heap.size=w.heap.size+1:=by rw[←dh];simp
 have e8:=hy' dh;have eg:=hy' ao;have e6:=hy' du;have HS:=hy' hs;have HN:=hy' hn;have cy:=hy' eo;have gf:=hy' eu;simp only[maxLen]at fh;clear dh ao du hs hn eo eu;go_enter func127,ntmps127;go_upto_region 2 with (fail)
 rw[e8.o];clear eb;go_wp2_with fail;go_loopw [16] (fun i wr=>∃(k:Nat) (G:Nat→Option Nat),k≤n∧i=.int .i64 k∧Pg.St w.heap.size wr.heap.size wr w.heap.size (Pg.last (L.take k)) G∧Below w.heap.size w wr) (fun i _=>n-(intOf i).toNat)
 case atStart=>exact⟨0,_,ZG _,rfl,eg.o,e6.o⟩
 obtain⟨k,G,hk,rfl,ao,ah⟩:=hrel
 by_cases hlt:k<n
 · obtain⟨x,hx⟩:∃x,L[k]?=some x:=⟨_,Zb (by rw[HN.o];exact hlt)⟩;have e3:=cy.o x (Zn hx);obtain⟨b,o,rfl,hb,dz⟩:=(HS.o.below ah ah.size) (by rw[Pg.fl_len,HN.o];omega);have c0:=dz (k*2) (by rw[Pg.fl_len,HN.o];omega);have c1:=dz (k*2+1) (by rw[Pg.fl_len,HN.o];omega);rw[(Pg.fl_get L k x hx).1]at c0;rw[(Pg.fl_get L k x hx).2,←Yk]at c1;have en:L.take (k+1)=L.take k++[x]:=by rw[ZB,hx];rfl
   have dp:=hy' en;have fy:(k:Int)<n:=by omega
   have fz:(0:Int)≤k:=by omega
   have di:Below wr.heap.size wr (wr.alloc (.cells #[.int .i32 x.1,.int .u16 x.2] 200)):=(Zc _ _).alloc (Za _) _;have cv:=Rw.At.new wr 200 [.int .i32 x.1,.int .u16 x.2];have cn:=ao.below di ao.lt (Za _);have b1:=ah.trans (di.mono ah.size);have az:=hy' cn;have ae:=hy' b1;have a8:=hy' cv;have hmb:=ao.lt;have cp:(wr.alloc (.cells #[.int .i32 x.1,.int .u16 x.2] 200)).heap.size=wr.heap.size+1:=by simp
   have bb:=hy' cp;have hI:=Pg.in_any x.1 (wr.alloc (.cells #[.int .i32 x.1,.int .u16 x.2] 200));have fx:=hy' e3;clear hx dz en ao ah di cv cn b1 cp e3;obtain⟨x1,x2⟩:=x;dsimp only at *
   by_cases hc:0≤x1∧x1≤1114111
   rotate_left
   · rw[Zu hc]at hI;have HI:=hy' hI;have bz:∀m,m<4352→zAb (Pg.last (L.take (k+1))) m=zAb (Pg.last (L.take k)) m:=fun m hm=>by rw[dp.o];exact zNs _ _ (Zu hc) hm
     have ch:=hy' bz;clear hI bz;go_wp2_with fail;refine HI.o.mono ?_;rintro e w5 ⟨rfl,rfl⟩;go_wp2_with fail;exact⟨⟨k+1,G,by omega,by go_num,(az.o.more (by rw[bb.o];omega)).turn ch.o,ae.o⟩,by simp[intOf];omega⟩
   rw[Zr hc]at hI;have HI:=hy' hI;obtain⟨N,hN⟩:∃N:Nat,x1/256=N:=⟨(x1/256).toNat,by omega⟩;obtain⟨M,hM⟩:∃M:Nat,x1%256=M:=⟨(x1%256).toNat,by omega⟩;have bt:N<4352:=by omega
   have e5:M<256:=by omega
   have hand:=Pg.and_8 x1 hc.1 hc.2;rw[hM]at hand;have b4:Hy (zAb (Pg.last (L.take (k+1))) N=(zAb (Pg.last (L.take k)) N).set M x2):=hy' (by rw[dp.o];exact zPd _ _ hN hM);have bl:Hy (∀m,m≠N→zAb (Pg.last (L.take (k+1))) m=zAb (Pg.last (L.take k)) m):=hy' (fun m hm=>by rw[dp.o];exact zM2 _ _ hN hm);have gb:(M:Int)<256:=by omega
   have gg:(0:Int)≤M:=by omega
   have HM:=hy' hM;clear hI hM;obtain⟨wa,dx⟩:∃wa,wr.alloc (.cells #[.int .i32 x1,.int .u16 x2] 200)=wa:=⟨_,rfl⟩;rw[dx]at az ae a8 bb HI;have fg:=hy' dx;clear dx;go_upto_region 5 with (fail)
   rw[fg.o];clear c0 c1;have c0:=a8.o.cell 0 rfl;have c1:=a8.o.cell 1 rfl;have hq:=a8.o.lt;go_wp2_with fail;refine HI.o.mono ?_;rintro e w5 ⟨rfl,rfl⟩;have aw:=az.o.look bt;rcases hG:G N with _|g
   · rw[hG]at aw;replace aw:(Instr.lookup 248 (.map (some w.heap.size)) (.int .i32 N) false).run prog wa=.ok (.pointer none) wa:=aw;obtain⟨wb,G',bf,cf,ew,dw⟩:=az.o.put bt hG (by rw[bb.o];exact Zi (ae.o.size) (by rw[bb.o];exact Za _)) (by rw[bb.o];omega)
     have ep:=(a8.o.alloc (.cells (Pg.vs zAk).toArray 137)).grown dw (by
      intro e;have e:=X8 e;omega)
     have fu:=hy' dw;have ee:=hy' cf;have e7:=hy' ew;have fe:=hy' ep;clear cf dw ep ew hG;go_upto_region 9 with (first|(refine zBg rfl _ (zEm 137 rfl _ (zNL _)) ?_)|fail)
     have a1:=ee;have b8:=e7;have cb:=fe;have bg:Hy (Below w.heap.size w wb):=hy' ((ae.o.alloc (ae.o.size) (.cells (Pg.vs zAk).toArray 137)).trans (zAf fu.o (by simp;have:=ae.o.size;omega) fun q hq=>by cases hq;exact Za _));clear bf hmb
     have ak:(Instr.lookup 248 (.map (some w.heap.size)) (.int .i32 N) false).run prog wb.drew=.ok (.pointer (some ⟨wa.heap.size,0,none⟩)) wb.drew:=by
      have:=Pg.St.look (W:=wb.drew) a1.o bt;rw[b8.o]at this;exact this
     obtain⟨ed,e9,af⟩:=a1.o.at bt b8.o;have ey:=af.lt;obtain⟨y,hy⟩:∃y,(Pg.vs (zAb (Pg.last (L.take k)) N))[M]?=some y:=⟨_,List.getElem?_eq_getElem (by unfold Pg.vs;rw[List.length_map,zBk];exact e5)⟩;have e0:=af.cell M hy;have e1:=af.frozen M;have d0:=cb.o.cell 0 rfl;have d1:=cb.o.cell 1 rfl;have cm:=cb.o.lt;have cc:=hy' af;clear aw af hy c0 c1;go_region;go_wp2_with fail;exact⟨⟨k+1,_,by omega,by go_num,(a1.o.store (hi:=_) bt b8.o x2 b4.o bl.o).more (by simp[ZQ]),(bg.o.setCell (p:=⟨wa.heap.size,M,none⟩) ed _).drew⟩,by simp[intOf];omega⟩
   rw[hG]at aw;replace aw:(Instr.lookup 248 (.map (some w.heap.size)) (.int .i32 N) false).run prog wa=.ok (.pointer (some ⟨g,0,none⟩)) wa:=aw;have a1:=az;have b8:=hy' hG;have cb:=a8;have bg:=ae;clear hG;go_upto_region 9 with (fail)
   have ak:(Instr.lookup 248 (.map (some w.heap.size)) (.int .i32 N) false).run prog wa.drew=.ok (.pointer (some ⟨g,0,none⟩)) wa.drew:=by
    have:=Pg.St.look (W:=wa.drew) a1.o bt;rw[b8.o]at this;exact this
   obtain⟨ed,e9,af⟩:=a1.o.at bt b8.o;have ey:=af.lt;obtain⟨y,hy⟩:∃y,(Pg.vs (zAb (Pg.last (L.take k)) N))[M]?=some y:=⟨_,List.getElem?_eq_getElem (by unfold Pg.vs;rw[List.length_map,zBk];exact e5)⟩;have e0:=af.cell M hy;have e1:=af.frozen M;have d0:=cb.o.cell 0 rfl;have d1:=cb.o.cell 1 rfl;have cm:=cb.o.lt;have cc:=hy' af;clear aw af hy c0 c1 hq;go_region;go_wp2_with fail;exact⟨⟨k+1,_,by omega,by go_num,(a1.o.store (hi:=_) bt b8.o x2 b4.o bl.o).more (by have:=bb.o;simp[ZQ];omega),(bg.o.setCell (p:=⟨g,M,none⟩) ed _).drew⟩,by simp[intOf];omega⟩
 obtain rfl:n=k:=by omega
 rw[Zm (by rw[HN.o];exact Za _)]at ao;obtain⟨w2,rfl⟩:∃w2:World,w2=wr:=⟨_,rfl⟩;obtain⟨f,hf⟩:∃f,Pg.last L=f:=⟨_,rfl⟩;rw[hf]at ao;have cz:∀m,Pg.u16 (zAb f m):=fun m=>by rw[←hf];exact zPh (fun x hx=>(cy.o x hx).2.2) m
 have HF:=hy' hf;have HU:=hy' cz;have az:=hy' ao;have ae:=hy' ah;have hmb:=ao.lt;have dr:=zQE w2 zAk Qp;obtain⟨w3,cd⟩:∃w3,w2.alloc (.cells (Pg.vs zAk).toArray 137)=w3:=⟨_,rfl⟩
 have bx:w3.ownsRow w2.heap.size 137 256 (.slice (some ⟨w2.heap.size,0,none⟩) 1 1) 1 (Pg.vs zAk):=by
  rw[←cd];exact⟨by unfold Pg.vs zAk;simp,.inr ⟨_,1,(Pg.vs zAk).toArray,rfl,Nat.le_refl _,heap_alloc_new w2 _,Nat.le_refl _,by decide,by unfold Pg.vs zAk;simp,by unfold Pg.vs zAk;simp⟩⟩
 have dm:Below w2.heap.size w2 w3:=by rw[←cd];exact (Zc _ _).alloc (Za _) _
 have fp:w3.heap.size=w2.heap.size+1:=by rw[←cd];simp
 rw[cd]at dr;obtain⟨arr,b6⟩:∃arr,(Pg.vs (List.replicate 4352 0)++[Value.slice (some ⟨w2.heap.size,0,none⟩) 1 1]).toArray=arr:=⟨_,rfl⟩;have dn:=zS9 w3 ⟨w2.heap.size,0,none⟩;rw[b6]at dn;obtain⟨w4,cj⟩:∃w4,w3.alloc (.cells arr 141)=w4:=⟨_,rfl⟩
 have ck:Rw.At w4 w3.heap.size 141 (Pg.vs (zAQ f 0)++[.slice (some ⟨w2.heap.size,0,none⟩) 1 1]):=by
  rw[←cj,←b6];exact Rw.At.new w3 141 _
 have dl:Below w3.heap.size w3 w4:=by rw[←cj];exact (Zc _ _).alloc (Za _) _
 have fm:w4.heap.size=w3.heap.size+1:=by rw[←cj];simp
 obtain⟨w6,bf,c7,cx⟩:=Pg.Pl.made w4 0;have ea:Below w4.heap.size w4 w6:=((Zc _ _).alloc (Za _) _).trans (zAf cx (by simp) fun q hq=>by cases hq;exact Za _);have b7:Below w3.heap.size w3 w6:=dl.trans (ea.mono dl.size);have b9:Below w2.heap.size w2 w6:=dm.trans (b7.mono dm.size);have cr:=hy' (ao.below b9 hmb (Za _));have cw:=hy' (ck.below ea);have b2:=hy' (zA4 bx b7 (Za _));have cu:=hy' c7;have e2:=hy' (ae.o.trans (b9.mono ae.o.size));have fk:=hy' cd;have ej:=hy' cj;have ag:Hy (w2.heap.size<w3.heap.size∧w3.heap.size<w4.heap.size∧w.heap.size<w2.heap.size):=hy' ⟨by omega,by omega,hmb⟩;have eb:=@JB prog;clear ao ah hf cz bx dm b6 ck dl c7 cx ea b7 b9 cd cj hlt fp fm hmb;go_upto_region 11 with (fail)
 go_step;refine zBg rfl _ (zEm 137 rfl _ (zNL _)) ?_;refine zBg rfl _ (zCy 139 1 0 _ rfl (.agg (Pg.vs zAk).toArray) rfl _ dr) ?_;refine zBg rfl _ (zJG 141 1 _ rfl (.slice (some ⟨w2.heap.size,0,none⟩) 1 1) rfl _ dn) ?_;clear dr dn;go_upto_region 12 with (fail)
 rw[ej.o];go_upto_region 13 with (first|(refine zBg rfl _ (zEm 137 rfl _ (zNL _)) ?_)|fail)
 clear eb bf fk ej;have ft:Hy (zAo f 0=[zAk]):=hy' rfl;go_wp2_with fail;go_loopw [53] (fun i wr=>∃(m:Nat) (v:Value),m≤4352∧i=.int .i64 m∧Pg.St w.heap.size w2.heap.size wr w.heap.size f G∧Pg.Pl wr w4.heap.size (zAo f m)∧Rw.At wr w3.heap.size 141 (Pg.vs (zAQ f m)++[v])∧wr.ownsRow w2.heap.size 137 256 v (zAo f m).length (Pg.vs (zAo f m).flatten)∧Below w.heap.size w wr) (fun i _=>4352-(intOf i).toNat)
 case atStart=>exact⟨0,_,Nat.zero_le _,rfl,cr.o,cu.o,cw.o,by rw[ft.o];simpa using b2.o,e2.o⟩
 obtain⟨m,v,hm,rfl,ao,ec,cq,bk,ah⟩:=hrel;clear eg e6 HS az ae cr cu cw b2 e2
 by_cases hlt:m<4352
 rotate_left
 · obtain rfl:m=4352:=by omega
   obtain⟨A2,c2,rfl⟩:=zA2 bk;have bo:=hy' cq;have ai:=hy' bk;have ax:=hy' ah;clear ao ec cq bk ah hlt;go_wp2_with fail;go_ret;refine⟨_,rfl,?_,ax.o⟩;rw[HF.o];refine⟨w3.heap.size,A2,c2,rfl,by have:=ag.o;omega,?_,Sl.of_own ai.o,fun a ha=>?_⟩
   · have:=bo.o;rw[zNu]at this;exact this
   subst ha;have:=(ai.o.lt a.block rfl).1;have:=ag.o;omega
 have mI:(m:Int)<4352:=by omega
 have m0:(0:Int)≤m:=by omega
 have fo:IntKind.i32.wrap (m:Int)=m:=by rw[Qr];omega
 have aw:=ao.look hlt;have aq:=hy' ao;have ct:=hy' ec;have bo:=hy' cq;have ai:=hy' bk;have ax:=hy' ah;have fc:=cq.lt;have dy:=zGT f m;clear ao ec cq bk ah;rcases hG:G m with _|g
 · rw[hG]at aw;replace aw:(Instr.lookup 248 (.map (some w.heap.size)) (.int .i32 m) false).run prog wr=.ok (.pointer none) wr:=aw;obtain⟨s1,s2⟩:=zM5 f hlt (aq.o.none hlt hG);have S1:=hy' s1;have S2:=hy' s2;clear s1 s2 hG;go_wp2_with fail;exact⟨⟨m+1,v,by omega,by go_num,aq.o,by rw[S1.o];exact ct.o,by rw[S2.o];exact bo.o,by rw[S1.o];exact ai.o,ax.o⟩,by simp[intOf];omega⟩
 rw[hG]at aw;replace aw:(Instr.lookup 248 (.map (some w.heap.size)) (.int .i32 m) false).run prog wr=.ok (.pointer (some ⟨g,0,none⟩)) wr:=aw;have af:=(aq.o.at hlt hG).2.2;have ey:=af.lt;have fj:=(aq.o.at hlt hG).2.1;have et:=hy' (Pg.At.load af (zBk f m));have cc:=hy' af;have ak:=ct.o.look (HU.o m);have ar:Hy (zAo f (m+1)=Pg.add (zAo f m) (zAb f m)):=hy' rfl;have br:=hy' (zIO f hlt);obtain⟨ei,hold⟩:∃ei,(Pg.vs (zAQ f m))[m]?=some ei:=⟨_,List.getElem?_eq_getElem (by unfold Pg.vs;rw[List.length_map,zAR f (by omega)];exact hlt)⟩;have HOLD:=hy' hold;clear hG af hold
 by_cases hmem:zAb f m∈zAo f m
 · have av:=hy' (zHv hmem);have bj:zCM (zAo f m) (zAb f m)=some (Pg.at (zAo f m) (zAb f m)):=Zo hmem;have cm:=zOx hmem;have ay:Hy (Pg.at (zAo f (m+1)) (zAb f m)=Pg.at (zAo f m) (zAb f m)):=hy' (by rw[ar.o,av.o]);obtain⟨q,hq⟩:∃q,Pg.at (zAo f m) (zAb f m)=q:=⟨_,rfl⟩;rw[bj,hq]at ak;rw[hq]at cm ay;replace ak:(Instr.lookup 250 (.map (some w4.heap.size)) (.agg (Pg.vs (zAb f m)).toArray) true).run prog wr=.ok (.tuple #[.int .i64 q,.bool true]) wr:=ak;have fw:IntKind.u16.wrap (q:Int)=q:=by rw[Qv];omega
   have z0:=zDM bo.o HOLD.o;have z1:=bo.o.frozen m;have gi:=hy' cm;clear hmem bj hq cm;go_wp2_with (first|(refine zFE rfl 137 _ rfl _ _ rfl et.o ?_)|fail);have hb:Below w2.heap.size wr (wr.setCell ⟨w3.heap.size,m,none⟩ (.int .u16 q)):=(Zc _ _).setCell (p:=⟨w3.heap.size,m,none⟩) (Z8 ag.o.1) _;refine⟨⟨m+1,v,by omega,by go_num,aq.o.below hb ag.o.2.2 (Za _),?_,?_,?_,ax.o.trans (hb.mono (Z8 ag.o.2.2))⟩,by simp[intOf];omega⟩
   · rw[ar.o,av.o];exact ct.o.grown (Rw.grown_set w3.heap.size m _) (by have:=ag.o.2.1;simp;omega)
   · rw[br.o,ay.o];have:=bo.o.set m (.int .u16 q);rw[List.set_append_left _ _ (by unfold Pg.vs;rw[List.length_map,zAR f (by omega)];exact hlt)]at this;rw[show Pg.vs ((zAQ f m).set m (q:Int))=(Pg.vs (zAQ f m)).set m (.int .u16 q) by unfold Pg.vs;rw[List.map_set]];exact this
   rw[ar.o,av.o];refine ai.o.kept (Rw.grown_set w3.heap.size m _) (.inr fun e=>?_);exact zAC ai.o (by decide) _ e _ _ bo.o
 have av:=hy' (zPe hmem);have bj:zCM (zAo f m) (zAb f m)=none:=Zl hmem;have ay:Hy (Pg.at (zAo f (m+1)) (zAb f m)=(zAo f m).length):=hy' (by rw[ar.o,av.o];unfold Pg.at;rw[List.idxOf_append,if_neg hmem];simp);have eh:=hy' hmem;rw[bj]at ak;obtain⟨A2,c2,rfl⟩:=zA2 ai.o;obtain⟨ln,df⟩:∃ln,(zAo f m).length=ln:=⟨_,rfl⟩;rw[df]at ai ay dy bo;replace ak:(Instr.lookup 250 (.map (some w4.heap.size)) (.agg (Pg.vs (zAb f m)).toArray) true).run prog wr=.ok (.tuple #[.int .i64 0,.bool false]) wr:=ak;obtain⟨w5,bf,bs,bq⟩:=ct.o.put (HU.o m) hmem;rw[df]at bf;rw[←ar.o]at bs;have z1:=zCC bo.o (n:=4352) (by unfold Pg.vs;rw[List.length_map,zAR f (by omega)]);have dt:Below w2.heap.size wr w5:=zAf bq (by have:=ag.o.1;omega) fun q hq=>by cases hq;have:=ag.o;omega
 have bw:some w4.heap.size≠some w3.heap.size:=by have:=ag.o.2.1;simp;omega
 have a6:=bo.o.grown bq bw;have au:=ai.o.kept bq (.inr (zGv ai.o ct.o));have b3:=cc.o.below' dt fj;have bh:=Pg.At.load (w:=w5.drew) b3 (zBk f m);have a7:=zQE w5.drew (zAb f m) (zBk f m);have fq:=a6.lt;obtain⟨v8,w8,ba,bm,bp⟩:=zNM w2.heap.size w5.drew _ ln _ (zAb f m) (zBk f m) au (by have:=ag.o.1;show w2.heap.size≤w5.heap.size;omega) (by omega) 139;obtain⟨A8,c8,rfl⟩:=zA2 bm;have e4:(Value.slice A2 ln c2).ownBlock≠some w3.heap.size:=fun e=>zAC au (by decide) _ e _ _ a6
 have bi:=Rw.At.grown (w:=w5.drew) a6 bp e4;have ez:Below w2.heap.size wr w8:=dt.drew.trans (zAf (w:=w5.drew) bp (by have:=ag.o.1;show w2.heap.size≤w5.heap.size;omega) fun q hq=>(au.lt q hq).1);have d0:=zCC a6 (n:=4352) (by unfold Pg.vs;rw[List.length_map,zAR f (by omega)]);have ef:=a6.alloc (.cells (Pg.vs (zAb f m)).toArray 137);have cg:=zHO w5.drew w3.heap.size 4352 (.slice A2 ln c2) d0;have dc:=zHO (w5.drew.alloc (.cells (Pg.vs (zAb f m)).toArray 137)) w3.heap.size 4352 (.slice A2 ln c2) (zCC (Rw.At.alloc (w:=w5.drew) a6 _) (n:=4352) (by unfold Pg.vs;rw[List.length_map,zAR f (by omega)]));have f0:=zCC bi (n:=4352) (by unfold Pg.vs;rw[List.length_map,zAR f (by omega)]);have f1:=bi.frozen 4352;have c6:=Pg.Pl.grown (W:=w5.drew) bs bp (fun e=>zGv au bs e.symm);have bc:=hy' bi;have aj:=hy' bm;have b5:=hy' c6;have dv:=hy' ez;have dk:=hy' df;have fw:IntKind.u16.wrap (ln:Int)=ln:=by rw[Qv];omega
 have gh:=(bi.set 4352 (.slice A8 (ln+1) c8));clear hmem bj bs bq dt a6 au b3 ef bm bp ez bi c6 df e4 bw;go_upto_region 22 with (first|(refine zFE rfl 137 _ rfl _ _ rfl et.o ?_)|fail)
 clear aw ak bf z1;refine JQ (by kernel_rfl) ?_;change wpAny _ _ _ _ 13 _ _ (World.drew _)
 with_reducible refine Pg.take 0 (.move (.tmp 7)) (some 82) (92) (.pointer (some ⟨w3.heap.size,0,none⟩)) (by kernel_rfl) (by kernel_rfl) (by kernel_rfl) (by kernel_rfl) (by intro _ _ _ h;with_unfolding_all exact h) (fun o h w=>zEV _ h _ (by kernel_rfl)) ?_
 with_reducible refine Pg.take 1 (.move (.tmp 7)) (some 83) (92) (.pointer (some ⟨w3.heap.size,0,none⟩)) (by kernel_rfl) (by kernel_rfl) (by kernel_rfl) (by kernel_rfl) (by intro _ _ _ h;with_unfolding_all exact h) (fun o h w=>zEV _ h _ (by kernel_rfl)) ?_
 with_reducible refine Pg.take 2 (.nilCheck (.tmp 83)) (some 84) (0) (.pointer (some ⟨w3.heap.size,0,none⟩)) (by kernel_rfl) (by kernel_rfl) (by kernel_rfl) (by kernel_rfl) (by intro _ _ _ h;with_unfolding_all exact h) (fun o h w=>zDc _ h _ (by kernel_rfl)) ?_
 with_reducible refine Pg.take 3 (.fieldAddr 141 (.tmp 84) 1) (some 85) (0) (.pointer (some ⟨w3.heap.size,4352,none⟩)) (by kernel_rfl) (by kernel_rfl) (by kernel_rfl) (by kernel_rfl) (by intro _ _ _ h;with_unfolding_all exact h) (fun o h w=>zCP _ _ _ h (.pointer (some ⟨w3.heap.size,0,none⟩)) (by kernel_rfl) _ (zDz _ _)) ?_
 with_reducible refine Pg.take 5 (.move (.tmp 10)) (some 87) (249) (.pointer (some ⟨g,0,none⟩)) (by kernel_rfl) (by kernel_rfl) (by kernel_rfl) (by kernel_rfl) (by intro _ _ _ h;with_unfolding_all exact h) (fun o h w=>zEV _ h _ (by kernel_rfl)) ?_
 with_reducible refine Pg.take 6 (.nilCheck (.tmp 87)) (some 88) (0) (.pointer (some ⟨g,0,none⟩)) (by kernel_rfl) (by kernel_rfl) (by kernel_rfl) (by kernel_rfl) (by intro _ _ _ h;with_unfolding_all exact h) (fun o h w=>zDc _ h _ (by kernel_rfl)) ?_
 refine Xi (rs:=[4,7]) (by kernel_rfl) (by simp) ?_
 with_reducible refine zBI (.load 139 (.tmp 85)) (some 86) (139) (.slice A2 ln c2) w5.drew (by kernel_rfl) (fun o h ht=>zCE _ _ h (.pointer (some ⟨w3.heap.size,4352,none⟩)) (by kernel_rfl) _ cg) ?_ ?_
 · refine Xi (rs:=[7]) (by kernel_rfl) (by simp) ?_
   with_reducible refine zBI (.load 137 (.tmp 88)) (some 89) (137) (.agg (Pg.vs (zAb f m)).toArray) _ (by kernel_rfl) (fun o h ht=>zCE _ _ h (.pointer (some ⟨g,0,none⟩)) (by kernel_rfl) _ bh) ?_ ?_
   · refine Xi (rs:=[8]) (by kernel_rfl) (by simp) ?_
     with_reducible refine zBI (.buildSlice 139 1 #[(0,.tmp 89)]) (some 90) (139) (.slice (some ⟨w5.drew.heap.size,0,none⟩) 1 1) _ (by kernel_rfl) (fun o h ht=>zCy _ _ _ _ h (.agg (Pg.vs (zAb f m)).toArray) (by kernel_rfl) _ a7) ?_ ?_
     · refine Xi (rs:=[9]) (by kernel_rfl) (by simp) ?_
       with_reducible refine zBI (.call { callee:=.builtin .append,args := #[.tmp 86,.tmp 90],argTypes := #[139,139] }) (some 91) (139) _ _ (by kernel_rfl) (fun o h ht=>zDG _ _ _ h (.slice A2 ln c2) (.slice (some ⟨w5.drew.heap.size,0,none⟩) 1 1) (by kernel_rfl) (by kernel_rfl) _ (by rw[ht];exact ba)) ?_ ?_
       · with_reducible refine Pg.take 10 (.nilCheck (.tmp 82)) (some 92) (0) (.pointer (some ⟨w3.heap.size,0,none⟩)) (by kernel_rfl) (by kernel_rfl) (by kernel_rfl) (by kernel_rfl) (by intro _ _ _ h;with_unfolding_all exact h) (fun o h w=>zDc _ h _ (by kernel_rfl)) ?_
         with_reducible refine Pg.take 11 (.fieldAddr 141 (.tmp 92) 1) (some 93) (0) (.pointer (some ⟨w3.heap.size,4352,none⟩)) (by kernel_rfl) (by kernel_rfl) (by kernel_rfl) (by kernel_rfl) (by intro _ _ _ h;with_unfolding_all exact h) (fun o h w=>zCP _ _ _ h (.pointer (some ⟨w3.heap.size,0,none⟩)) (by kernel_rfl) _ (zDz _ _)) ?_
         refine Xi (rs:=[12]) (by kernel_rfl) (by simp) ?_
         with_reducible refine zHa (.store 139 (.tmp 93) (.tmp 91)) _ (by kernel_rfl) (fun o h=>zEn _ _ _ h (.pointer (some ⟨w3.heap.size,4352,none⟩)) (.slice A8 (ln+1) c8) (by kernel_rfl) (by kernel_rfl) (zEo _ _ _ _ _ _ _ f0 f1)) ?_ ?_
         · refine Kt (by kernel_rfl) ?_ _
           have aa:Rw.At (w8.setCell ⟨w3.heap.size,4352,none⟩ (.slice A8 (ln+1) c8)) w3.heap.size 141 (Pg.vs (zAQ f m)++[.slice A8 (ln+1) c8]):=by
            have hl:(Pg.vs (zAQ f m)).length=4352:=by unfold Pg.vs;rw[List.length_map,zAR f (by omega)]
            have:=bc.o.set 4352 (.slice A8 (ln+1) c8);rw[Yz _ _ (by rw[hl];exact Za _),hl,Yo]at this;exact this
           have z0:=zDM aa HOLD.o;have z1:=aa.frozen m;have ek:=aa.lt;have bn:=hy' aa;clear aa f0 f1 bh a7 cg dc ba;go_wp2_with fail;have bu:Below w2.heap.size wr ((w8.setCell ⟨w3.heap.size,4352,none⟩ (.slice A8 (ln+1) c8)).setCell ⟨w3.heap.size,m,none⟩ (.int .u16 ln)):=(dv.o.setCell (p:=⟨w3.heap.size,4352,none⟩) (Z8 ag.o.1) _).setCell (p:=⟨w3.heap.size,m,none⟩) (Z8 ag.o.1) _;have ap:(Value.slice A8 (ln+1) c8).ownBlock≠some w3.heap.size:=fun e=>zAC aj.o (by decide) _ e _ _ bc.o
           refine⟨⟨m+1,.slice A8 (ln+1) c8,by omega,by go_num,aq.o.below bu ag.o.2.2 (Za _),?_,?_,?_,ax.o.trans (bu.mono (Z8 ag.o.2.2))⟩,by simp[intOf];omega⟩
           · exact (b5.o.grown (Rw.grown_set w3.heap.size 4352 _) (by have:=ag.o.2.1;simp;omega)).grown (Rw.grown_set w3.heap.size m _) (by have:=ag.o.2.1;simp;omega)
           · rw[br.o,ay.o];have:=bn.o.set m (.int .u16 ln);rw[List.set_append_left _ _ (by unfold Pg.vs;rw[List.length_map,zAR f (by omega)];exact hlt)]at this;rw[show Pg.vs ((zAQ f m).set m (ln:Int))=(Pg.vs (zAQ f m)).set m (.int .u16 ln) by unfold Pg.vs;rw[List.map_set]];exact this
           rw[ar.o,av.o,List.length_append,dk.o,List.flatten_append,show Pg.vs ((zAo f m).flatten++[zAb f m].flatten)=Pg.vs (zAo f m).flatten++Pg.vs (zAb f m) by unfold Pg.vs;simp];exact (aj.o.kept (Rw.grown_set w3.heap.size 4352 _) (.inr ap)).kept (Rw.grown_set w3.heap.size m _) (.inr ap)
         exact Xa
       exact Xa
     exact Xa
   exact Xa
 with_reducible refine zBI (.load 137 (.tmp 88)) (some 89) (137) (.agg (Pg.vs (zAb f m)).toArray) _ (by kernel_rfl) (fun o h ht=>zCE _ _ h (.pointer (some ⟨g,0,none⟩)) (by kernel_rfl) _ bh) ?_ ?_
 · refine Xi (rs:=[4,8]) (by kernel_rfl) (by simp) ?_
   with_reducible refine zBI (.load 139 (.tmp 85)) (some 86) (139) (.slice A2 ln c2) w5.drew (by kernel_rfl) (fun o h ht=>zCE _ _ h (.pointer (some ⟨w3.heap.size,4352,none⟩)) (by kernel_rfl) _ cg) ?_ ?_
   · refine Xi (rs:=[8]) (by kernel_rfl) (by simp) ?_
     with_reducible refine zBI (.buildSlice 139 1 #[(0,.tmp 89)]) (some 90) (139) (.slice (some ⟨w5.drew.heap.size,0,none⟩) 1 1) _ (by kernel_rfl) (fun o h ht=>zCy _ _ _ _ h (.agg (Pg.vs (zAb f m)).toArray) (by kernel_rfl) _ a7) ?_ ?_
     · refine Xi (rs:=[9]) (by kernel_rfl) (by simp) ?_
       with_reducible refine zBI (.call { callee:=.builtin .append,args := #[.tmp 86,.tmp 90],argTypes := #[139,139] }) (some 91) (139) _ _ (by kernel_rfl) (fun o h ht=>zDG _ _ _ h (.slice A2 ln c2) (.slice (some ⟨w5.drew.heap.size,0,none⟩) 1 1) (by kernel_rfl) (by kernel_rfl) _ (by rw[ht];exact ba)) ?_ ?_
       · with_reducible refine Pg.take 10 (.nilCheck (.tmp 82)) (some 92) (0) (.pointer (some ⟨w3.heap.size,0,none⟩)) (by kernel_rfl) (by kernel_rfl) (by kernel_rfl) (by kernel_rfl) (by intro _ _ _ h;with_unfolding_all exact h) (fun o h w=>zDc _ h _ (by kernel_rfl)) ?_
         with_reducible refine Pg.take 11 (.fieldAddr 141 (.tmp 92) 1) (some 93) (0) (.pointer (some ⟨w3.heap.size,4352,none⟩)) (by kernel_rfl) (by kernel_rfl) (by kernel_rfl) (by kernel_rfl) (by intro _ _ _ h;with_unfolding_all exact h) (fun o h w=>zCP _ _ _ h (.pointer (some ⟨w3.heap.size,0,none⟩)) (by kernel_rfl) _ (zDz _ _)) ?_
         refine Xi (rs:=[12]) (by kernel_rfl) (by simp) ?_
         with_reducible refine zHa (.store 139 (.tmp 93) (.tmp 91)) _ (by kernel_rfl) (fun o h=>zEn _ _ _ h (.pointer (some ⟨w3.heap.size,4352,none⟩)) (.slice A8 (ln+1) c8) (by kernel_rfl) (by kernel_rfl) (zEo _ _ _ _ _ _ _ f0 f1)) ?_ ?_
         · refine Kt (by kernel_rfl) ?_ _
           have aa:Rw.At (w8.setCell ⟨w3.heap.size,4352,none⟩ (.slice A8 (ln+1) c8)) w3.heap.size 141 (Pg.vs (zAQ f m)++[.slice A8 (ln+1) c8]):=by
            have hl:(Pg.vs (zAQ f m)).length=4352:=by unfold Pg.vs;rw[List.length_map,zAR f (by omega)]
            have:=bc.o.set 4352 (.slice A8 (ln+1) c8);rw[Yz _ _ (by rw[hl];exact Za _),hl,Yo]at this;exact this
           have z0:=zDM aa HOLD.o;have z1:=aa.frozen m;have ek:=aa.lt;have bn:=hy' aa;clear aa f0 f1 bh a7 cg dc ba;go_wp2_with fail;have bu:Below w2.heap.size wr ((w8.setCell ⟨w3.heap.size,4352,none⟩ (.slice A8 (ln+1) c8)).setCell ⟨w3.heap.size,m,none⟩ (.int .u16 ln)):=(dv.o.setCell (p:=⟨w3.heap.size,4352,none⟩) (Z8 ag.o.1) _).setCell (p:=⟨w3.heap.size,m,none⟩) (Z8 ag.o.1) _;have ap:(Value.slice A8 (ln+1) c8).ownBlock≠some w3.heap.size:=fun e=>zAC aj.o (by decide) _ e _ _ bc.o
           refine⟨⟨m+1,.slice A8 (ln+1) c8,by omega,by go_num,aq.o.below bu ag.o.2.2 (Za _),?_,?_,?_,ax.o.trans (bu.mono (Z8 ag.o.2.2))⟩,by simp[intOf];omega⟩
           · exact (b5.o.grown (Rw.grown_set w3.heap.size 4352 _) (by have:=ag.o.2.1;simp;omega)).grown (Rw.grown_set w3.heap.size m _) (by have:=ag.o.2.1;simp;omega)
           · rw[br.o,ay.o];have:=bn.o.set m (.int .u16 ln);rw[List.set_append_left _ _ (by unfold Pg.vs;rw[List.length_map,zAR f (by omega)];exact hlt)]at this;rw[show Pg.vs ((zAQ f m).set m (ln:Int))=(Pg.vs (zAQ f m)).set m (.int .u16 ln) by unfold Pg.vs;rw[List.map_set]];exact this
           rw[ar.o,av.o,List.length_append,dk.o,List.flatten_append,show Pg.vs ((zAo f m).flatten++[zAb f m].flatten)=Pg.vs (zAo f m).flatten++Pg.vs (zAb f m) by unfold Pg.vs;simp];exact (aj.o.kept (Rw.grown_set w3.heap.size 4352 _) (.inr ap)).kept (Rw.grown_set w3.heap.size m _) (.inr ap)
         exact Xa
       exact Xa
     exact Xa
   with_reducible refine zBI (.buildSlice 139 1 #[(0,.tmp 89)]) (some 90) (139) (.slice (some ⟨w5.drew.heap.size,0,none⟩) 1 1) _ (by kernel_rfl) (fun o h ht=>zCy _ _ _ _ h (.agg (Pg.vs (zAb f m)).toArray) (by kernel_rfl) _ a7) ?_ ?_
   · refine Xi (rs:=[4]) (by kernel_rfl) (by simp) ?_
     with_reducible refine zBI (.load 139 (.tmp 85)) (some 86) (139) (.slice A2 ln c2) _ (by kernel_rfl) (fun o h ht=>zCE _ _ h (.pointer (some ⟨w3.heap.size,4352,none⟩)) (by kernel_rfl) _ dc) ?_ ?_
     · refine Xi (rs:=[9]) (by kernel_rfl) (by simp) ?_
       with_reducible refine zBI (.call { callee:=.builtin .append,args := #[.tmp 86,.tmp 90],argTypes := #[139,139] }) (some 91) (139) _ _ (by kernel_rfl) (fun o h ht=>zDG _ _ _ h (.slice A2 ln c2) (.slice (some ⟨w5.drew.heap.size,0,none⟩) 1 1) (by kernel_rfl) (by kernel_rfl) _ (by rw[ht];exact ba)) ?_ ?_
       · with_reducible refine Pg.take 10 (.nilCheck (.tmp 82)) (some 92) (0) (.pointer (some ⟨w3.heap.size,0,none⟩)) (by kernel_rfl) (by kernel_rfl) (by kernel_rfl) (by kernel_rfl) (by intro _ _ _ h;with_unfolding_all exact h) (fun o h w=>zDc _ h _ (by kernel_rfl)) ?_
         with_reducible refine Pg.take 11 (.fieldAddr 141 (.tmp 92) 1) (some 93) (0) (.pointer (some ⟨w3.heap.size,4352,none⟩)) (by kernel_rfl) (by kernel_rfl) (by kernel_rfl) (by kernel_rfl) (by intro _ _ _ h;with_unfolding_all exact h) (fun o h w=>zCP _ _ _ h (.pointer (some ⟨w3.heap.size,0,none⟩)) (by kernel_rfl) _ (zDz _ _)) ?_
         refine Xi (rs:=[12]) (by kernel_rfl) (by simp) ?_
         with_reducible refine zHa (.store 139 (.tmp 93) (.tmp 91)) _ (by kernel_rfl) (fun o h=>zEn _ _ _ h (.pointer (some ⟨w3.heap.size,4352,none⟩)) (.slice A8 (ln+1) c8) (by kernel_rfl) (by kernel_rfl) (zEo _ _ _ _ _ _ _ f0 f1)) ?_ ?_
         · refine Kt (by kernel_rfl) ?_ _
           have aa:Rw.At (w8.setCell ⟨w3.heap.size,4352,none⟩ (.slice A8 (ln+1) c8)) w3.heap.size 141 (Pg.vs (zAQ f m)++[.slice A8 (ln+1) c8]):=by
            have hl:(Pg.vs (zAQ f m)).length=4352:=by unfold Pg.vs;rw[List.length_map,zAR f (by omega)]
            have:=bc.o.set 4352 (.slice A8 (ln+1) c8);rw[Yz _ _ (by rw[hl];exact Za _),hl,Yo]at this;exact this
           have z0:=zDM aa HOLD.o;have z1:=aa.frozen m;have ek:=aa.lt;have bn:=hy' aa;clear aa f0 f1 bh a7 cg dc ba;go_wp2_with fail;have bu:Below w2.heap.size wr ((w8.setCell ⟨w3.heap.size,4352,none⟩ (.slice A8 (ln+1) c8)).setCell ⟨w3.heap.size,m,none⟩ (.int .u16 ln)):=(dv.o.setCell (p:=⟨w3.heap.size,4352,none⟩) (Z8 ag.o.1) _).setCell (p:=⟨w3.heap.size,m,none⟩) (Z8 ag.o.1) _;have ap:(Value.slice A8 (ln+1) c8).ownBlock≠some w3.heap.size:=fun e=>zAC aj.o (by decide) _ e _ _ bc.o
           refine⟨⟨m+1,.slice A8 (ln+1) c8,by omega,by go_num,aq.o.below bu ag.o.2.2 (Za _),?_,?_,?_,ax.o.trans (bu.mono (Z8 ag.o.2.2))⟩,by simp[intOf];omega⟩
           · exact (b5.o.grown (Rw.grown_set w3.heap.size 4352 _) (by have:=ag.o.2.1;simp;omega)).grown (Rw.grown_set w3.heap.size m _) (by have:=ag.o.2.1;simp;omega)
           · rw[br.o,ay.o];have:=bn.o.set m (.int .u16 ln);rw[List.set_append_left _ _ (by unfold Pg.vs;rw[List.length_map,zAR f (by omega)];exact hlt)]at this;rw[show Pg.vs ((zAQ f m).set m (ln:Int))=(Pg.vs (zAQ f m)).set m (.int .u16 ln) by unfold Pg.vs;rw[List.map_set]];exact this
           rw[ar.o,av.o,List.length_append,dk.o,List.flatten_append,show Pg.vs ((zAo f m).flatten++[zAb f m].flatten)=Pg.vs (zAo f m).flatten++Pg.vs (zAb f m) by unfold Pg.vs;simp];exact (aj.o.kept (Rw.grown_set w3.heap.size 4352 _) (.inr ap)).kept (Rw.grown_set w3.heap.size m _) (.inr ap)
         exact Xa
       exact Xa
     exact Xa
   exact Xa
 exact Xa
end
section
open Go.RowKit Go.Lib Go.Sort
theorem zJ8 {w wr:World} {n blk off:Nat} {dk:Array Int} {i:Nat} (hi:i<dk.size) (aa:wr=putRow zAX (Sort.ahead w n) blk off dk) (x:Int) :
 (wr.setCell ⟨blk,off+i,none⟩ (zAX x)).drew=putRow zAX (Sort.ahead w (n+1)) blk off (dk.setIfInBounds i x):=by
 subst aa;rw[putRow_set zAX _ blk off dk i x hi,←ahead_drew];rfl
theorem zDH (blk off cap:Nat) (d:Array Int) (w:World) (hH:Holds zAX w blk off d) (aj:d.size≤9223372036854775807) (ah:d.size≤cap) :
 Calls prog 136 #[.slice (some ⟨blk,off,none⟩) d.size cap] w fun e w'=>e=.returned (.slice (some ⟨blk,off,none⟩) (compactUpTo d d.size).length cap)∧∃q,w'=putRow zAX (Sort.ahead w q) blk off (compactUpTo d d.size++List.replicate (d.size-(compactUpTo d d.size).length) 0).toArray:=by
 have same:∀q,(∀j,j<d.size→keeps d j=true)→(compactUpTo d d.size).length=d.size∧w.drewN q=putRow zAX (Sort.ahead w q) blk off (compactUpTo d d.size++List.replicate (d.size-(compactUpTo d d.size).length) 0).toArray:=by
  intro q aa;have e:compactUpTo d d.size=d.toList:=by rw[compactUpTo_all d _ aa,range_map_get]
  rw[e];refine⟨by simp,?_⟩;simp only[XX,Yo,JL,Z4,Array.toArray_toList];exact (putRow_self zAX (Sort.ahead w q) blk off d (holds_ahead zAX w q blk off d hH)).symm
 have HS:Aside (∀q,(∀j,j<d.size→keeps d j=true)→(compactUpTo d d.size).length=d.size∧w.drewN q=putRow zAX (Sort.ahead w q) blk off (compactUpTo d d.size++List.replicate (d.size-(compactUpTo d d.size).length) 0).toArray):=same;clear same
 by_cases h2:d.size<2
 · have HH:Aside (Holds zAX w blk off d):=hH;clear hH;go_enter func136,ntmps136;go_wp2;go_ret;obtain⟨e1,e2⟩:=HS.out 0 (fun j hj=>keeps_lt_one d j (by omega));exact⟨by rw[e1];rfl,0,e2⟩
 go_enter func136,ntmps136;go_wp2;go_loopg [3] d.size (fun g s3 wr=>∃k q:Nat,1≤k∧k≤d.size∧d.size-k≤g∧s3=.int .i64 k∧wr=w.drewN q∧∀j,j<k→keeps d j=true)
 case atStart=>exact⟨1,0,Za _,by omega,by omega,rfl,rfl,keeps_lt_one d⟩
 obtain⟨k,q,ap,hk,hg,rfl,rfl,aa⟩:=hrel
 by_cases hlt:k<d.size
 rotate_left
 · have:k=d.size:=by omega
   subst this;have HH:Aside (Holds zAX w blk off d):=hH;clear hH;go_wp2;go_ret;obtain⟨e1,e2⟩:=HS.out q aa;exact⟨by rw[e1];rfl,q,e2⟩
 obtain⟨c1,f1⟩:=hH k hlt;obtain⟨c0,f0⟩:=hH (k-1) (by omega);have A:Aside (∀j,j<k→keeps d j=true):=aa;have HH:Aside (Holds zAX w blk off d):=hH;clear aa hH;generalize hx:d[k]! = x at c1;generalize hy:d[k-1]! = y at c0;have B:Aside (d[k]! = x∧d[k-1]! = y):=⟨hx,hy⟩;clear hx hy
 by_cases hdup:x=y
 rotate_left
 · go_wp2_with fail;go_region;go_wp2;go_roundg (d.size-(k+1))
   case measure=>omega
   refine⟨k+1,q+1,by omega,by omega,Za _,by go_num,rfl,fun j hj=>?_⟩
   by_cases e:j=k
   · subst e;exact keeps_pos (by rw[B.out.1,B.out.2];exact hdup)
   exact A.out j (by omega)
 subst hdup;go_wp2_with fail;go_region;go_wp2;clear c0 c1 f0 f1;go_loopg [3,5] d.size (fun g s3 s5 wr=>∃(kk k2 q2:Nat) (dk:Array Int),s3=.int .i64 kk∧s5=.int .i64 k2∧1≤k2∧k+k2≤d.size∧d.size-(k+k2)≤g∧wr=putRow zAX (Sort.ahead w q2) blk off dk∧CompInv d (k+k2) kk dk)
 case atStart=>exact⟨k,1,q+1,d,rfl,rfl,Za _,by omega,by omega,(putRow_self zAX (Sort.ahead w (q+1)) blk off d (holds_ahead zAX w (q+1) blk off d HH.out)).symm,CompInv.start A.out (keeps_neg (by omega) (by rw[B.out.1,B.out.2]))⟩
 obtain⟨kk,k2,q2,dk,rfl,rfl,h1,hle,aq,af,hI⟩:=hrel;have ak:=hI.lt;have ai:=hI.size;have ae:Holds zAX wr blk off dk:=by rw[af];exact holds_putRow zAX _ blk off d dk (holds_ahead zAX w q2 blk off d HH.out) ai
 have W2:Aside (wr=putRow zAX (Sort.ahead w q2) blk off dk):=af;have I2:Aside (CompInv d (k+k2) kk dk):=hI;clear af
 by_cases hlt2:k+k2<d.size
 · obtain⟨cm,_⟩:=ae (k+k2) (by omega);obtain⟨cp,_⟩:=ae (k+k2-1) (by omega);obtain⟨ck,fk⟩:=ae kk (by omega);rw[hI.high (k+k2) (by omega),show off+(k+k2)=off+k+k2 by omega]at cm;rw[hI.high (k+k2-1) (by omega),show off+(k+k2-1)=off+k+(k2-1) by omega]at cp;clear ae hI;generalize hu:d[k+k2]! = u at cm;generalize hv:d[k+k2-1]! = v at cp;generalize dk[kk]! = old at ck;have C:Aside (d[k+k2]! = u∧d[k+k2-1]! = v):=⟨hu,hv⟩;clear hu hv
   by_cases huv:u=v
   · subst huv;go_wp2_with fail;go_region;go_wp2;go_roundg (d.size-(k+(k2+1)))
     case rel=>exact⟨kk,k2+1,q2+1,dk,rfl,by go_num,by omega,by omega,Za _,by rw[W2.out];rfl,I2.out.skip (keeps_neg (by omega) (by rw[C.out.1,C.out.2]))⟩
     omega
   go_wp2_with fail;go_region;go_wp2;go_roundg (d.size-(k+(k2+1)))
   case rel=>exact⟨kk+1,k2+1,q2+1,dk.setIfInBounds kk u,by go_num,by go_num,by omega,by omega,Za _,zJ8 (by omega) W2.out u,by have:=I2.out.keep hlt2 (keeps_pos (by rw[C.out.1,C.out.2];exact huv));rwa [C.out.1]at this⟩
   omega
 have ag:k+k2=d.size:=by omega
 have ao:∀ty,(Builtin.clear_ #[70] ty #[.slice (some ⟨blk,off+kk,none⟩) (d.size-kk) (cap-kk)]).run prog wr=.ok (.tuple #[]) (wr.setCells blk (off+kk) (List.replicate (d.size-kk) (zAX 0))) :=
  fun ty=>Lib.run_clear_slice wr _ _ ty _ underlying70 (fun w=>(by kernel_rfl:(zeroValue 21).run prog w=.ok (Value.int .i32 0) w)) rfl rfl blk (off+kk) _ _ (by omega) (fun j hj=>by rw[show off+kk+j=off+(kk+j) by omega,(ae (kk+j) (by omega)).1];rfl) (fun j hj=>by rw[show off+kk+j=off+(kk+j) by omega];exact (ae (kk+j) (by omega)).2)
 clear ae hI;go_wp2;go_ret;have hI:=I2.out;rw[ag]at hI;refine⟨by rw[hI.len];rfl,q2,?_⟩;rw[hI.len,←hI.done 0,←putRow_setCells zAX _ blk off _ dk kk (by simp;omega),←W2.out,JX]
theorem zEW (blk off cap:Nat) (zs:List Int) (w:World) (hH:Holds (Value.int .i32) w blk off zs.toArray) (ae:zs.length≤9223372036854775807) (aa:zs.length≤cap) :
 Calls prog 136 #[.slice (some ⟨blk,off,none⟩) zs.length cap] w fun e w'=>e=.returned (.slice (some ⟨blk,off,none⟩) (Lib.compact zs).length cap)∧∃q,w'=putRow (Value.int .i32) (Sort.ahead w q) blk off (Lib.compact zs++List.replicate (zs.length-(Lib.compact zs).length) 0).toArray:=by
 have h:=zDH blk off cap zs.toArray w hH (by simpa using ae) (by simpa using aa);simpa [Lib.compact] using h
theorem zDd (a:Option Addr) (cap:Nat) (w:World) :
 Calls prog 136 #[.slice a 0 cap] w fun e w'=>e=.returned (.slice a 0 cap)∧w'=w:=by
 go_enter func136,ntmps136;go_wp2;go_ret;exact⟨rfl,rfl⟩
end
section
open Go.RowKit Go.Sort
theorem zSa {w:World} {g n:Nat} {aa:Array Value} {e:TypeId} {fr:Nat × Nat} (d:Array Int) (hb:w.heap[g]?=some (.cells aa e fr)) :
 (putRow (Value.int .i32) (Sort.ahead w n) g 0 d).heap[g]?=some (.cells (putCells (Value.int .i32) 0 d aa) e fr):=by
 simp[putRow,mapBlock,Sort.ahead,YX,hb,onCells]
theorem zRx {w:World} {g n base:Nat} (d:Array Int) (hg:base≤g):RowKit.Below base w (putRow (Value.int .i32) (Sort.ahead w n) g 0 d):=by
 refine⟨rfl,rfl,rfl,by simp,fun k hk=>?_⟩;have:g≠k:=by omega
 simp[putRow,mapBlock,Sort.ahead,YX,this]
theorem zGw (l:List Int):(Lib.compact l).length≤l.length:=by
 unfold Lib.compact Lib.compactUpTo;rw[Ze];exact Zi (XK _ _) (by simp)
theorem zL8 (A:Option Addr) (n c base e:Nat) (l:List Int) (w:World) (hn:l.length=n) (aj:n≤1000000) (aa:w.ownsRow base e 1 (.slice A n c) n (l.map (Value.int .i32))) (ae:base≤w.heap.size) :
 Calls prog 136 #[.slice A n c] w fun r w'=>∃A' c',r=.returned (.slice A' (Lib.compact l).length c')∧Sl w' w'.heap.size A' ((Lib.compact l).map (Value.int .i32))∧RowKit.Below base w w':=by
 subst hn;rcases aa.2 with ⟨hv,h0⟩|⟨g,cap,af,hv,hg,hb,h1,h2,h3,h4⟩
 · simp only[Z3]at hv;obtain⟨rfl,_,rfl⟩:=hv;have hl:l=[]:=Zz h0;subst hl;refine (zDd none 0 w).mono fun r w' hh=>?_
   obtain⟨hr,hw⟩:=hh;subst hw;exact⟨none,0,by rw[hr];rfl,Sl.nil _ _ _,Zc _ _⟩
 simp only[Z3]at hv;obtain⟨rfl,_,rfl⟩:=hv;rw[Xm]at h4;have ag:g<w.heap.size:=(Array.getElem?_eq_some_iff.1 hb).1;refine (zEW g 0 c l w (R.holds hb h4) (by omega) h1).mono fun r w' hh=>?_
 obtain⟨hr,q,hw⟩:=hh;subst hw;have ai:=zGw l;refine⟨_,_,hr,?_,zRx _ hg⟩;intro hx;rw[Ze]at hx;refine⟨g,0,rfl,by simpa using ag,fun i hi=>?_⟩;rw[Ze]at hi;have ak:af.size=c:=by rw[h3,Xm]
 have ah:i<af.size:=by omega
 have hd:i<(Lib.compact l++List.replicate (l.length-(Lib.compact l).length) 0).toArray.size:=by simp;omega
 simp only[World.cell?,zSa _ hb,ZU,JU,ZN,Yg];rw[Zs,Zb hi];simp only[putCells,Array.getElem?_mapIdx];rw[Xp ah];simp only[ZA,J8,ZG,QG,ZU];rw[Zo hd,Jg _ i hd];simp[List.getElem_append,hi]
end
section
open Go.RowKit
theorem zPu {cs:List Int} {i:Nat} {c:Int} (h:cs[i]?=some c):zEK (cs.take (i+1)) []=C.step C.isC (zEK (cs.take i) []) c (c+1):=by
 unfold zEK;rw[ZB,h,YL];rfl
theorem C.step_last {acc:List Int} {k:Nat} {c b:Int} (hp:C.isC c=true) (hl:acc.length=k+1) (h:acc[k]?=some c):C.step C.isC acc c b=acc.set k b:=by
 unfold C.step;rw[Zo hp,Zo (by rw[QW,hl];exact h)];rcases YY acc with rfl|⟨l2,e,rfl⟩
 · simp at hl
 rw[YZ]at *;have:l2.length=k:=by simpa using hl
 subst this;simp
theorem zDe (A:Option Addr) (n c B:Nat) (l:List Int) (w:World) (hn:l.length=n) (cn:n≤400000) (hB:B≤w.heap.size) (hA:Sl w B A (l.map (Value.int .i32))) :
 Calls prog 107 #[.slice A n c] w (zSt (C.chars l) w):=by
 have HN:=hy' hn;obtain⟨b6,cd⟩:=zIJ l;obtain⟨cs,hcs⟩:∃cs,zEL l=cs:=⟨_,rfl⟩;have bb:(l.mergeSort fun x y=>decide (x≤y)).length=n:=by simp[hn]
 have bg:Lib.compact (l.mergeSort fun x y=>decide (x≤y))=cs:=by
  rw[←hcs];unfold Lib.compact zEL;rw[bb,hn]
 have av:C.chars l=zEK cs []:=by unfold C.chars;rw[hcs]
 rw[av];obtain⟨m,hm⟩:∃m,cs.length=m:=⟨_,rfl⟩
 have hmn:m≤400000:=by
  have h:=zGw (l.mergeSort fun x y=>decide (x≤y));rw[bg,bb,hm]at h;omega
 have HM:=hy' hm;have b1:=hy' bb;have b2:=hy' bg;have bs:Below w.heap.size w (w.alloc (.cells #[.slice none 0 0] 89)):=(Zc _ _).alloc (Za _) _;have b9:=hy' (hA.belowN bs hB (Za _));have cg:w.heap.size+1≤(w.alloc (.cells #[.slice none 0 0] 89)).heap.size:=by simp
 obtain⟨j0,hj0,bu,bt,bm⟩:=Z7 zCw;clear hn hcs bb bg av hm b6 cd;go_enter func107,ntmps107;go_wp2_with fail;refine (zC0 A n c B l _ HN.o (by omega) (by omega) b9.out).mono ?_;rintro e w1 ⟨A1,c1,rfl,ah,bc⟩;have au:=hy' ah;clear ah;go_wp2_with fail;refine (R.sort_any _ _ _ n l _ HN.o (by omega) au.out bc.size).mono ?_;rintro e w2 ⟨rfl,aa,aq⟩;have ap:=hy' aa;clear aa;go_wp2_with fail;refine (zL8 A1 n c1 _ _ (l.mergeSort fun x y=>decide (x≤y)) _ b1.o (by omega) ap.out (Zi bc.size aq.size)).mono ?_;rw[b2.o];rintro e w3 ⟨A3,c3,rfl,bn,bo⟩;rw[HM.o];have b3:=hy' bn;have a6:=(bc.trans aq).trans bo;clear bn;go_wp2;go_loopw [4,15] (fun vo vi wr=>∃(i:Nat) (acc:List Int),i≤m∧vi=.int .i64 i∧acc=zEK (cs.take i) []∧acc.length≤2*i∧wr.ownsRow w3.heap.size 21 1 vo acc.length (acc.map (Value.int .i32))∧Below w3.heap.size w3 wr) (fun _ vi _=>m-(intOf vi).toNat)
 case atStart=>exact⟨0,[],by omega,rfl,rfl,ZG _,ZI _ _ _ _,Zc _ _⟩
 obtain⟨i,acc,hi,rfl,af,bf,ae,aj⟩:=hrel;obtain⟨uu,rfl⟩:∃uu:World,uu=wr:=⟨_,rfl⟩;obtain⟨q,hq⟩:∃q,acc.length=q:=⟨_,rfl⟩;rw[hq]at ae bf;have HQ:=hy' hq;have cc:=hy' af;have bp:w3.heap.size≤uu.heap.size:=aj.size;obtain⟨A4,c4,rfl⟩:=zA2 ae
 by_cases hlt:i<m
 rotate_left
 · obtain rfl:i=m:=by omega
   have ax:acc=zEK cs []:=by rw[af,Zm (by rw[HM.o];exact Za _)]
   have br:=a6.trans (aj.mono (Zi bc.size (Zi aq.size bo.size)));have ao:=(br.block w.heap.size (by omega)).trans (ZS w _);obtain⟨b7,cm⟩:=zIe ao 0;simp only[Qo,Xk]at b7;have bi:=hy' ao;have cf:w.heap.size<w3.heap.size:=by have:=a6.size;omega
   have a1:=hy' ax;clear ao af ax hq;go_wp2;have bh:=zRe (v:=.slice A4 q c4) bi.o;refine YH (results_cell_row rfl _ _ w.heap.size _ _ _ _ rfl bh underlying89 rfl (by kernel_rfl)) rfl ?_;refine⟨A4,c4,by rw[←a1.o,HQ.o],?_,(bs.trans (br.mono (by omega))).setCell (by simp) _⟩;rw[←a1.o,HQ.o];exact own_base (Yc ae (by omega) _) (by omega)
 obtain⟨ch,av⟩:∃ch,cs[i]?=some ch:=⟨_,Zb (by rw[HM.o];omega)⟩;have bk:=zPu av;rw[←af]at bk;have a8:=hy' bk;obtain⟨g,o,rfl,bz,bw,_⟩:=b3.o.ints av;rw[←(zAI aj).1 _ _ bz]at bw;have n0:(0:Int)≤(i:Int):=by omega
 have n1:(i:Int)<m:=by omega
 clear bk av af hq;rcases hic:C.isC ch with _|_
 · have cb:=hy' (zLU (acc:=acc) (b:=ch+1) hic);have az:=hy' hic;clear hic;go_wp2_with (go_at_call 61;refine (zBu _ _).mono ?_;rw[az.o];rintro e w' ⟨rfl,rfl⟩);refine⟨⟨i+1,acc,by omega,by go_num,by rw[a8.o,cb.o],by rw[HQ.o];omega,by rw[HQ.o];exact ae,aj⟩,by simp[intOf];omega⟩
 have b8:0≤ch∧ch≤1114111:=by simp[C.isC]at hic;omega
 obtain⟨cp,cq⟩:=b8;have az:=hy' hic;rcases Yy q with hz|hz
 · subst hz;have ak:=hy' (zK6 (p:=C.isC) (acc:=acc) (b:=ch+1) hic (by rw[Zz HQ.o];simp));clear hic;have hZ:=hy' (zCj (w:=uu.alloc (.cells #[.int .i32 ch,.int .i32 (ch+1)] 21)) (A:=some ⟨uu.heap.size,0,none⟩) (xs:=[.int .i32 ch,.int .i32 (ch+1)]) rfl 21 (0,0) (ZS uu _));have aa:=hy' (zA4 ae ((Zc _ _).alloc (Za _) (.cells #[.int .i32 ch,.int .i32 (ch+1)] 21)) (Za _));have bj:w3.heap.size≤(uu.alloc (.cells #[.int .i32 ch,.int .i32 (ch+1)] 21)).heap.size:=by simp;omega
   have ar:w3.heap.size≤uu.heap.size:=bp;go_wp2_with (first|(go_at_call 61;refine (zBu _ _).mono ?_;rw[az.o];rintro e w' ⟨rfl,rfl⟩)|(at_builtin;refine zAc _ rfl _ _ _ rfl w3.heap.size 21 j0 _ 1 4 underlying70 hj0 bu bt bm rfl (by omega) _ 0 _ rfl aa.out _ (some ⟨uu.heap.size,0,none⟩) 2 2 [.int .i32 ch,.int .i32 (ch+1)] rfl rfl hZ.out (by simp[Value.oneCell']) (by simp only[maxLen];omega) (by omega) bj ?_;intro v1 w5 ag aq aw));refine⟨⟨i+1,acc++[ch,ch+1],by omega,by go_num,by rw[a8.o,ak.o],by rw[Zd,HQ.o];simp;omega,?_,(aj.alloc ar _).trans aq⟩,by simp[intOf];omega⟩;rw[Zd,HQ.o,ZK];exact ag
 obtain⟨k,rfl⟩:∃k,q=k+1:=⟨q-1,by omega⟩;obtain⟨e0,ba⟩:∃e0,acc[k]?=some e0:=⟨_,Zb (by rw[HQ.o];omega)⟩;have ai:acc.getLast?=some e0:=by rw[QW,HQ.o];exact ba
 obtain⟨g7,o7,rfl,ck,b5,_⟩:=(Sl.of_own ae).ints ba;obtain⟨rfl,cr,cj,bq⟩:=zDw ae;simp only[ZU]at b5;have ct:=bq k;have q0:(0:Int)≤(k:Int):=by omega
 have qb:(k:Int)≤1000000:=by omega
 have bx:=hy' ba;have ay:=hy' ai;clear bq ba ai
 by_cases hea:e0=ch
 · subst hea;have b4:=hy' (C.step_last (b:=e0+1) hic HQ.o bx.o);have a7:=zQs ae (j:=k) (by rw[Ze,HQ.o];omega) (.int .i32 (e0+1));have bl:=hy' a7;clear hic a7;go_wp2_with (go_at_call 61;refine (zBu _ _).mono ?_;rw[az.o];rintro e w' ⟨rfl,rfl⟩);refine⟨⟨i+1,acc.set k (e0+1),by omega,by go_num,by rw[a8.o,b4.o],by rw[Xc,HQ.o];omega,?_,aj.setCell (by show w3.heap.size≤g7;omega) _⟩,by simp[intOf];omega⟩;rw[Xc,HQ.o,Jj];exact bl.o
 have hd:(e0 == ch)=false:=by simp;exact hea
 have ak:=hy' (zK6 (p:=C.isC) (acc:=acc) (b:=ch+1) hic (by rw[ay.o];intro h;exact hea (by simpa using h)));clear hic;have hZ:=hy' (zCj (w:=uu.alloc (.cells #[.int .i32 ch,.int .i32 (ch+1)] 21)) (A:=some ⟨uu.heap.size,0,none⟩) (xs:=[.int .i32 ch,.int .i32 (ch+1)]) rfl 21 (0,0) (ZS uu _));have aa:=hy' (zA4 ae ((Zc _ _).alloc (Za _) (.cells #[.int .i32 ch,.int .i32 (ch+1)] 21)) (Za _));have bj:w3.heap.size≤(uu.alloc (.cells #[.int .i32 ch,.int .i32 (ch+1)] 21)).heap.size:=by simp;omega
 have ar:w3.heap.size≤uu.heap.size:=bp;go_wp2_with (first|(go_at_call 61;refine (zBu _ _).mono ?_;rw[az.o];rintro e w' ⟨rfl,rfl⟩)|(at_builtin;refine zAc _ rfl _ _ _ rfl w3.heap.size 21 j0 _ 1 4 underlying70 hj0 bu bt bm rfl (by omega) _ (k+1) _ rfl aa.out _ (some ⟨uu.heap.size,0,none⟩) 2 2 [.int .i32 ch,.int .i32 (ch+1)] rfl rfl hZ.out (by simp[Value.oneCell']) (by simp only[maxLen];omega) (by omega) bj ?_;intro v1 w5 ag aq aw));refine⟨⟨i+1,acc++[ch,ch+1],by omega,by go_num,by rw[a8.o,ak.o],by rw[Zd,HQ.o];simp;omega,?_,(aj.alloc ar _).trans aq⟩,by simp[intOf];omega⟩;rw[Zd,HQ.o,ZK];exact ag
theorem zJ9 {P:Program} {fn:Func} {p:Tmp} {ty:TypeId} (h:fn.results = #[.cell p ty]) (tmps:Array Value) (w:World) (g:Nat) (t:TypeId) (cs:Array Value) (fr:Nat × Nat) (d:TypeDesc)
 (hp:tmps.getD p undef=.pointer (some ⟨g,0,none⟩)) (hg:w.heap[g]?=some (.cells cs t fr))
 (hu:P.underlying ty=some d) (hd:(match d with | .struct _ | .array _ _=>true|_=>false)=true) (hi:(P.info? ty).map (·.size)=some cs.size) :
 (results fn tmps).run P w=.ok (.agg cs) w:=by
 have aa:tmps[p]?.getD undef=.pointer (some ⟨g,0,none⟩):=by simpa using hp
 simp[results,h,aa,asAddr,X6 w g t ty cs fr d hg hu hd hi]
def Rw.RetOwn (c k:Int) (m:List Int) (w:World) (e:Ending) (w':World):Prop :=
 ∃A n cp,e=.returned (.agg #[.int .i32 c,.int .i64 k,.slice A n cp])∧m.length=n∧Slt w' 21 A (m.map (Value.int .i32))∧Below w.heap.size w w'
theorem zKt {P:Program} {ops:Array Oper} {o:Oper} {a:Act} {K:Act→World→Prop} {Q:Exit→Act→World→Prop} {E:Prop} (w:World) (ae:o.guard=none) (f:FuncId) (x:Operand) (ts:Array TypeId)
 (ho:o.op=.call { callee:=.value (.func f),args := #[x],argTypes:=ts }) (entry:∀args w,(callFunc f args).run P w=.ok (.enter f args) w) (u:Value) (hv:a.eval x=u)
 (v:Value) (hC:Calls P f #[u] w fun e w'=>e=.returned v∧w=w') (h:K (a.put o.dst v) w) :
 if Region.wanted o (yielded ops a.tmps)=true then Oper.wp P o a w K Q else E:=by
 have hw:Region.wanted o (yielded ops a.tmps)=true:=by simp[Region.wanted,ae]
 rw[Zo hw]
 have aa:(execOp a.eval o).run P w=.ok (.enter f #[u]) w:=by
  have hf:a.eval (.func f)=.func (.func f) #[] #[]:=rfl;unfold execOp;subst hv;simp[ho,resolve,invoke,go_sem,entry,hf]
 unfold Oper.wp;rw[aa,Oper.upon_enter];refine hC.mono ?_;rintro e w' ⟨rfl,rfl⟩;exact h
theorem infoRow:(prog.info? 163).map (fun i=>(i.zero,i.size,i.bytes))=some (some (.agg #[.int .i32 0,.int .i64 0,.slice none 0 0]),3,40):=by kernel_rfl
end
end Go.Proofs.YtddbccflcekdpaaGreatDoor
