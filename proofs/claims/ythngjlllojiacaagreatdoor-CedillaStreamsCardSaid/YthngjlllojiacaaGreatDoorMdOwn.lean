/- Pages: New, by walking its text. -/
import Derived.Test.YthngjlllojiacaaGreatDoorPgReg
import Derived.Lib.SlicesS
import Derived.RangeFuncCalls
set_option maxRecDepth 1000000
set_option maxHeartbeats 4000000
set_option linter.unusedVariables false
set_option linter.unusedSimpArgs false
namespace Go.Proofs.YthngjlllojiacaaGreatDoor
open Go.Proofs.Tryz
section
open Go.RowKit
theorem zLZ (A:Option Addr) (n c:Nat) (L:List (Int × Int)) (w:World) (hn:L.length=n) (eu:zGJ L) (hs:Sl w w.heap.size A (Pg.fl L)) (fe:n≤maxLen) :
 Calls prog 92 #[.slice A n c] w fun e w'=>∃v,e=.returned v∧zSa w.heap.size w' v (Pg.last L)∧Below w.heap.size w w':=by
 have ed:=@Jp prog;have ao:=Pg.St.made w w.heap.size (w.alloc (.map #[] 0)).heap.size;have dp:Below w.heap.size w (w.alloc (.map #[] 0)):=(Zc _ _).alloc (Za _) _;obtain⟨w1,df⟩:∃w1,w.alloc (.map #[] 0)=w1:=⟨_,rfl⟩;rw[df]at ao dp;have eh:w1.heap.size=w.heap.size+1:=by rw[←df];simp
 have fg:=hy' df;have e5:=hy' ao;have ey:=hy' dp;have HS:=hy' hs;have HN:=hy' hn;have c7:=hy' eu;have gf:=hy' eh;simp only[maxLen]at fe;clear df ao dp hs hn eu eh;go_enter func92,ntmps92;go_upto_region 2 with (fail)
 rw[fg.o];clear ed;go_wp2_with fail;go_loopw [16] (fun i wr=>∃(k:Nat) (G:Nat→Option Nat),k≤n∧i=.int .i64 k∧Pg.St w.heap.size wr.heap.size wr w.heap.size (Pg.last (L.take k)) G∧Below w.heap.size w wr) (fun i _=>n-(intOf i).toNat)
 case atStart=>exact⟨0,_,ZG _,rfl,e5.o,ey.o⟩
 obtain⟨k,G,hk,rfl,ao,ah⟩:=hrel
 by_cases hlt:k<n
 · obtain⟨x,hx⟩:∃x,L[k]?=some x:=⟨_,Zb (by rw[HN.o];exact hlt)⟩;have ej:=c7.o x (Zk hx);obtain⟨b,o,rfl,hb,dx⟩:=(HS.o.below ah ah.size) (by rw[Pg.fl_len,HN.o];omega);have c0:=dx (k*2) (by rw[Pg.fl_len,HN.o];omega);have c1:=dx (k*2+1) (by rw[Pg.fl_len,HN.o];omega);rw[(Pg.fl_get L k x hx).1]at c0;rw[(Pg.fl_get L k x hx).2,←Yi]at c1;have ez:L.take (k+1)=L.take k++[x]:=by rw[ZA,hx];rfl
   have ef:=hy' ez;have gb:(k:Int)<n:=by omega
   have gh:(0:Int)≤k:=by omega
   have dw:Below wr.heap.size wr (wr.alloc (.cells #[.int .i32 x.1,.int .u16 x.2] 171)):=(Zc _ _).alloc (Za _) _;have cm:=Rw.At.new wr 171 [.int .i32 x.1,.int .u16 x.2];have cg:=ao.below dw ao.lt (Za _);have b3:=ah.trans (dw.mono ah.size);have ax:=hy' cg;have ae:=hy' b3;have a7:=hy' cm;have hmb:=ao.lt;have cp:(wr.alloc (.cells #[.int .i32 x.1,.int .u16 x.2] 171)).heap.size=wr.heap.size+1:=by simp
   have bc:=hy' cp;have hI:=Pg.in_any x.1 (wr.alloc (.cells #[.int .i32 x.1,.int .u16 x.2] 171));have gg:=hy' ej;clear hx dx ez ao ah dw cm cg b3 cp ej;obtain⟨x1,x2⟩:=x;dsimp only at *
   by_cases hc:0≤x1∧x1≤1114111
   rotate_left
   · rw[Zt hc]at hI;have HI:=hy' hI;have bu:∀m,m<4352→zA9 (Pg.last (L.take (k+1))) m=zA9 (Pg.last (L.take k)) m:=fun m hm=>by rw[ef.o];exact zMX _ _ (Zt hc) hm
     have cr:=hy' bu;clear hI bu;go_wp2_with fail;refine HI.o.mono ?_;rintro e w5 ⟨rfl,rfl⟩;go_wp2_with fail;exact⟨⟨k+1,G,by omega,by go_num,(ax.o.more (by rw[bc.o];omega)).turn cr.o,ae.o⟩,by simp[intOf];omega⟩
   rw[Zu hc]at hI;have HI:=hy' hI;obtain⟨N,hN⟩:∃N:Nat,x1/256=N:=⟨(x1/256).toNat,by omega⟩;obtain⟨M,hM⟩:∃M:Nat,x1%256=M:=⟨(x1%256).toNat,by omega⟩;have bw:N<4352:=by omega
   have et:M<256:=by omega
   have hand:=Pg.and_8 x1 hc.1 hc.2;rw[hM]at hand;have bx:Hy (zA9 (Pg.last (L.take (k+1))) N=(zA9 (Pg.last (L.take k)) N).set M x2):=hy' (by rw[ef.o];exact zOO _ _ hN hM);have bn:Hy (∀m,m≠N→zA9 (Pg.last (L.take (k+1))) m=zA9 (Pg.last (L.take k)) m):=hy' (fun m hm=>by rw[ef.o];exact zLB _ _ hN hm);have fz:(M:Int)<256:=by omega
   have fy:(0:Int)≤M:=by omega
   have HM:=hy' hM;clear hI hM;obtain⟨wa,dr⟩:∃wa,wr.alloc (.cells #[.int .i32 x1,.int .u16 x2] 171)=wa:=⟨_,rfl⟩;rw[dr]at ax ae a7 bc HI;have fo:=hy' dr;clear dr;go_upto_region 5 with (fail)
   rw[fo.o];clear c0 c1;have c0:=a7.o.cell 0 rfl;have c1:=a7.o.cell 1 rfl;have hq:=a7.o.lt;go_wp2_with fail;refine HI.o.mono ?_;rintro e w5 ⟨rfl,rfl⟩;have aw:=ax.o.look bw;rcases hG:G N with _|g
   · rw[hG]at aw;replace aw:(Instr.lookup 231 (.map (some w.heap.size)) (.int .i32 N) false).run prog wa=.ok (.pointer none) wa:=aw;obtain⟨wb,G',a8,cq,eo,dl⟩:=ax.o.put bw hG (by rw[bc.o];exact Zh (ae.o.size) (by rw[bc.o];exact Za _)) (by rw[bc.o];omega)
     have e4:=(a7.o.alloc (.cells (Pg.vs zAj).toArray 202)).grown dl (by
      intro e;have e:=XD e;omega)
     have fc:=hy' dl;have di:=hy' cq;have ft:=hy' eo;have fm:=hy' e4;clear cq dl e4 eo hG;go_upto_region 9 with (first|(refine zBa rfl _ (zE7 202 rfl _ (zNc _)) ?_)|fail)
     have ay:=di;have cb:=ft;have b6:=fm;have bh:Hy (Below w.heap.size w wb):=hy' ((ae.o.alloc (ae.o.size) (.cells (Pg.vs zAj).toArray 202)).trans (zAe fc.o (by simp;have:=ae.o.size;omega) fun q hq=>by cases hq;exact Za _));clear a8 hmb
     have ak:(Instr.lookup 231 (.map (some w.heap.size)) (.int .i32 N) false).run prog wb.drew=.ok (.pointer (some ⟨wa.heap.size,0,none⟩)) wb.drew:=by
      have:=Pg.St.look (W:=wb.drew) ay.o bw;rw[cb.o]at this;exact this
     obtain⟨dt,e8,af⟩:=ay.o.at bw cb.o;have ep:=af.lt;obtain⟨y,hy⟩:∃y,(Pg.vs (zA9 (Pg.last (L.take k)) N))[M]?=some y:=⟨_,List.getElem?_eq_getElem (by unfold Pg.vs;rw[List.length_map,zBg];exact et)⟩;have e0:=af.cell M hy;have e1:=af.frozen M;have d0:=b6.o.cell 0 rfl;have d1:=b6.o.cell 1 rfl;have c6:=b6.o.lt;have cc:=hy' af;clear aw af hy c0 c1;go_region;go_wp2_with fail;exact⟨⟨k+1,_,by omega,by go_num,(ay.o.store (hi:=_) bw cb.o x2 bx.o bn.o).more (by simp[ZP]),(bh.o.setCell (p:=⟨wa.heap.size,M,none⟩) dt _).drew⟩,by simp[intOf];omega⟩
   rw[hG]at aw;replace aw:(Instr.lookup 231 (.map (some w.heap.size)) (.int .i32 N) false).run prog wa=.ok (.pointer (some ⟨g,0,none⟩)) wa:=aw;have ay:=ax;have cb:=hy' hG;have b6:=a7;have bh:=ae;clear hG;go_upto_region 9 with (fail)
   have ak:(Instr.lookup 231 (.map (some w.heap.size)) (.int .i32 N) false).run prog wa.drew=.ok (.pointer (some ⟨g,0,none⟩)) wa.drew:=by
    have:=Pg.St.look (W:=wa.drew) ay.o bw;rw[cb.o]at this;exact this
   obtain⟨dt,e8,af⟩:=ay.o.at bw cb.o;have ep:=af.lt;obtain⟨y,hy⟩:∃y,(Pg.vs (zA9 (Pg.last (L.take k)) N))[M]?=some y:=⟨_,List.getElem?_eq_getElem (by unfold Pg.vs;rw[List.length_map,zBg];exact et)⟩;have e0:=af.cell M hy;have e1:=af.frozen M;have d0:=b6.o.cell 0 rfl;have d1:=b6.o.cell 1 rfl;have c6:=b6.o.lt;have cc:=hy' af;clear aw af hy c0 c1 hq;go_region;go_wp2_with fail;exact⟨⟨k+1,_,by omega,by go_num,(ay.o.store (hi:=_) bw cb.o x2 bx.o bn.o).more (by have:=bc.o;simp[ZP];omega),(bh.o.setCell (p:=⟨g,M,none⟩) dt _).drew⟩,by simp[intOf];omega⟩
 obtain rfl:n=k:=by omega
 rw[Zi (by rw[HN.o];exact Za _)]at ao;obtain⟨w2,rfl⟩:∃w2:World,w2=wr:=⟨_,rfl⟩;obtain⟨f,hf⟩:∃f,Pg.last L=f:=⟨_,rfl⟩;rw[hf]at ao;have ck:∀m,Pg.u16 (zA9 f m):=fun m=>by rw[←hf];exact zOS (fun x hx=>(c7.o x hx).2.2) m
 have HF:=hy' hf;have HU:=hy' ck;have ax:=hy' ao;have ae:=hy' ah;have hmb:=ao.lt;have ea:=zQb w2 zAj Qh;obtain⟨w3,cd⟩:∃w3,w2.alloc (.cells (Pg.vs zAj).toArray 202)=w3:=⟨_,rfl⟩
 have b1:w3.ownsRow w2.heap.size 202 256 (.slice (some ⟨w2.heap.size,0,none⟩) 1 1) 1 (Pg.vs zAj):=by
  rw[←cd];exact⟨by unfold Pg.vs zAj;simp,.inr ⟨_,1,(Pg.vs zAj).toArray,rfl,Nat.le_refl _,heap_alloc_new w2 _,Nat.le_refl _,by decide,by unfold Pg.vs zAj;simp,by unfold Pg.vs zAj;simp⟩⟩
 have dy:Below w2.heap.size w2 w3:=by rw[←cd];exact (Zc _ _).alloc (Za _) _
 have e6:w3.heap.size=w2.heap.size+1:=by rw[←cd];simp
 rw[cd]at ea;obtain⟨arr,b5⟩:∃arr,(Pg.vs (List.replicate 4352 0)++[Value.slice (some ⟨w2.heap.size,0,none⟩) 1 1]).toArray=arr:=⟨_,rfl⟩;have ec:=zRD w3 ⟨w2.heap.size,0,none⟩;rw[b5]at ec;obtain⟨w4,cj⟩:∃w4,w3.alloc (.cells arr 206)=w4:=⟨_,rfl⟩
 have ct:Rw.At w4 w3.heap.size 206 (Pg.vs (zAK f 0)++[.slice (some ⟨w2.heap.size,0,none⟩) 1 1]):=by
  rw[←cj,←b5];exact Rw.At.new w3 206 _
 have dz:Below w3.heap.size w3 w4:=by rw[←cj];exact (Zc _ _).alloc (Za _) _
 have fp:w4.heap.size=w3.heap.size+1:=by rw[←cj];simp
 obtain⟨w6,a8,cf,cv⟩:=Pg.Pl.made w4 0;have du:Below w4.heap.size w4 w6:=((Zc _ _).alloc (Za _) _).trans (zAe cv (by simp) fun q hq=>by cases hq;exact Za _);have b9:Below w3.heap.size w3 w6:=dz.trans (du.mono dz.size);have b7:Below w2.heap.size w2 w6:=dy.trans (b9.mono dy.size);have cx:=hy' (ao.below b7 hmb (Za _));have cy:=hy' (ct.below du);have bt:=hy' (zA4 b1 b9 (Za _));have cw:=hy' cf;have ei:=hy' (ae.o.trans (b7.mono ae.o.size));have e7:=hy' cd;have ew:=hy' cj;have ag:Hy (w2.heap.size<w3.heap.size∧w3.heap.size<w4.heap.size∧w.heap.size<w2.heap.size):=hy' ⟨by omega,by omega,hmb⟩;have ed:=@Jp prog;clear ao ah hf ck b1 dy b5 ct dz cf cv du b9 b7 cd cj hlt e6 fp hmb;go_upto_region 11 with (fail)
 go_step;refine zBa rfl _ (zE7 202 rfl _ (zNc _)) ?_;refine zBa rfl _ (zCo 204 1 0 _ rfl (.agg (Pg.vs zAj).toArray) rfl _ ea) ?_;refine zBa rfl _ (zJa 206 1 _ rfl (.slice (some ⟨w2.heap.size,0,none⟩) 1 1) rfl _ ec) ?_;clear ea ec;go_upto_region 12 with (fail)
 rw[ew.o];go_upto_region 13 with (first|(refine zBa rfl _ (zE7 202 rfl _ (zNc _)) ?_)|fail)
 clear ed a8 e7 ew;have fj:Hy (zAn f 0=[zAj]):=hy' rfl;go_wp2_with fail;go_loopw [53] (fun i wr=>∃(m:Nat) (v:Value),m≤4352∧i=.int .i64 m∧Pg.St w.heap.size w2.heap.size wr w.heap.size f G∧Pg.Pl wr w4.heap.size (zAn f m)∧Rw.At wr w3.heap.size 206 (Pg.vs (zAK f m)++[v])∧wr.ownsRow w2.heap.size 202 256 v (zAn f m).length (Pg.vs (zAn f m).flatten)∧Below w.heap.size w wr) (fun i _=>4352-(intOf i).toNat)
 case atStart=>exact⟨0,_,Nat.zero_le _,rfl,cx.o,cw.o,cy.o,by rw[fj.o];simpa using bt.o,ei.o⟩
 obtain⟨m,v,hm,rfl,ao,dk,cu,bm,ah⟩:=hrel;clear e5 ey HS ax ae cx cw cy bt ei
 by_cases hlt:m<4352
 rotate_left
 · obtain rfl:m=4352:=by omega
   obtain⟨A2,c2,rfl⟩:=zA3 bm;have bo:=hy' cu;have ai:=hy' bm;have a6:=hy' ah;clear ao dk cu bm ah hlt;go_wp2_with fail;go_ret;refine⟨_,rfl,?_,a6.o⟩;rw[HF.o];refine⟨w3.heap.size,A2,c2,rfl,by have:=ag.o;omega,?_,Sl.of_own ai.o,fun a ha=>?_⟩
   · have:=bo.o;rw[zMZ]at this;exact this
   subst ha;have:=(ai.o.lt a.block rfl).1;have:=ag.o;omega
 have mI:(m:Int)<4352:=by omega
 have m0:(0:Int)≤m:=by omega
 have fq:IntKind.i32.wrap (m:Int)=m:=by rw[Qi];omega
 have aw:=ao.look hlt;have aq:=hy' ao;have cz:=hy' dk;have bo:=hy' cu;have ai:=hy' bm;have a6:=hy' ah;have fu:=cu.lt;have dv:=zGB f m;clear ao dk cu bm ah;rcases hG:G m with _|g
 · rw[hG]at aw;replace aw:(Instr.lookup 231 (.map (some w.heap.size)) (.int .i32 m) false).run prog wr=.ok (.pointer none) wr:=aw;obtain⟨s1,s2⟩:=zLE f hlt (aq.o.none hlt hG);have S1:=hy' s1;have S2:=hy' s2;clear s1 s2 hG;go_wp2_with fail;exact⟨⟨m+1,v,by omega,by go_num,aq.o,by rw[S1.o];exact cz.o,by rw[S2.o];exact bo.o,by rw[S1.o];exact ai.o,a6.o⟩,by simp[intOf];omega⟩
 rw[hG]at aw;replace aw:(Instr.lookup 231 (.map (some w.heap.size)) (.int .i32 m) false).run prog wr=.ok (.pointer (some ⟨g,0,none⟩)) wr:=aw;have af:=(aq.o.at hlt hG).2.2;have ep:=af.lt;have fh:=(aq.o.at hlt hG).2.1;have e2:=hy' (Pg.At.load af (zBg f m));have cc:=hy' af;have ak:=cz.o.look (HU.o m);have ap:Hy (zAn f (m+1)=Pg.add (zAn f m) (zA9 f m)):=hy' rfl;have br:=hy' (zIl f hlt);obtain⟨e3,hold⟩:∃e3,(Pg.vs (zAK f m))[m]?=some e3:=⟨_,List.getElem?_eq_getElem (by unfold Pg.vs;rw[List.length_map,zAL f (by omega)];exact hlt)⟩;have HOLD:=hy' hold;clear hG af hold
 by_cases hmem:zA9 f m∈zAn f m
 · have av:=hy' (zH9 hmem);have bl:zCC (zAn f m) (zA9 f m)=some (Pg.at (zAn f m) (zA9 f m)):=Zl hmem;have c6:=zO1 hmem;have a1:Hy (Pg.at (zAn f (m+1)) (zA9 f m)=Pg.at (zAn f m) (zA9 f m)):=hy' (by rw[ap.o,av.o]);obtain⟨q,hq⟩:∃q,Pg.at (zAn f m) (zA9 f m)=q:=⟨_,rfl⟩;rw[bl,hq]at ak;rw[hq]at c6 a1;replace ak:(Instr.lookup 233 (.map (some w4.heap.size)) (.agg (Pg.vs (zA9 f m)).toArray) true).run prog wr=.ok (.tuple #[.int .i64 q,.bool true]) wr:=ak;have fk:IntKind.u16.wrap (q:Int)=q:=by rw[Qk];omega
   have z0:=zDB bo.o HOLD.o;have z1:=bo.o.frozen m;have fw:=hy' c6;clear hmem bl hq c6;go_wp2_with (first|(refine zFp rfl 202 _ rfl _ _ rfl e2.o ?_)|fail);have hb:Below w2.heap.size wr (wr.setCell ⟨w3.heap.size,m,none⟩ (.int .u16 q)):=(Zc _ _).setCell (p:=⟨w3.heap.size,m,none⟩) (Z4 ag.o.1) _;refine⟨⟨m+1,v,by omega,by go_num,aq.o.below hb ag.o.2.2 (Za _),?_,?_,?_,a6.o.trans (hb.mono (Z4 ag.o.2.2))⟩,by simp[intOf];omega⟩
   · rw[ap.o,av.o];exact cz.o.grown (Rw.grown_set w3.heap.size m _) (by have:=ag.o.2.1;simp;omega)
   · rw[br.o,a1.o];have:=bo.o.set m (.int .u16 q);rw[List.set_append_left _ _ (by unfold Pg.vs;rw[List.length_map,zAL f (by omega)];exact hlt)]at this;rw[show Pg.vs ((zAK f m).set m (q:Int))=(Pg.vs (zAK f m)).set m (.int .u16 q) by unfold Pg.vs;rw[List.map_set]];exact this
   rw[ap.o,av.o];refine ai.o.kept (Rw.grown_set w3.heap.size m _) (.inr fun e=>?_);exact zAy ai.o (by decide) _ e _ _ bo.o
 have av:=hy' (zOP hmem);have bl:zCC (zAn f m) (zA9 f m)=none:=Zj hmem;have a1:Hy (Pg.at (zAn f (m+1)) (zA9 f m)=(zAn f m).length):=hy' (by rw[ap.o,av.o];unfold Pg.at;rw[List.idxOf_append,if_neg hmem];simp);have er:=hy' hmem;rw[bl]at ak;obtain⟨A2,c2,rfl⟩:=zA3 ai.o;obtain⟨ln,dh⟩:∃ln,(zAn f m).length=ln:=⟨_,rfl⟩;rw[dh]at ai a1 dv bo;replace ak:(Instr.lookup 233 (.map (some w4.heap.size)) (.agg (Pg.vs (zA9 f m)).toArray) true).run prog wr=.ok (.tuple #[.int .i64 0,.bool false]) wr:=ak;obtain⟨w5,a8,bq,bs⟩:=cz.o.put (HU.o m) hmem;rw[dh]at a8;rw[←ap.o]at bq;have z1:=zCt bo.o (n:=4352) (by unfold Pg.vs;rw[List.length_map,zAL f (by omega)]);have dn:Below w2.heap.size wr w5:=zAe bs (by have:=ag.o.1;omega) fun q hq=>by cases hq;have:=ag.o;omega
 have bz:some w4.heap.size≠some w3.heap.size:=by have:=ag.o.2.1;simp;omega
 have az:=bo.o.grown bs bz;have au:=ai.o.kept bs (.inr (zGh ai.o cz.o));have b4:=cc.o.below' dn fh;have bj:=Pg.At.load (w:=w5.drew) b4 (zBg f m);have bb:=zQb w5.drew (zA9 f m) (zBg f m);have e9:=az.lt;obtain⟨v8,w8,bf,bg,bp⟩:=zNd w2.heap.size w5.drew _ ln _ (zA9 f m) (zBg f m) au (by have:=ag.o.1;show w2.heap.size≤w5.heap.size;omega) (by omega) 204;obtain⟨A8,c8,rfl⟩:=zA3 bg;have eg:(Value.slice A2 ln c2).ownBlock≠some w3.heap.size:=fun e=>zAy au (by decide) _ e _ _ az
 have bi:=Rw.At.grown (w:=w5.drew) az bp eg;have ek:Below w2.heap.size wr w8:=dn.drew.trans (zAe (w:=w5.drew) bp (by have:=ag.o.1;show w2.heap.size≤w5.heap.size;omega) fun q hq=>(au.lt q hq).1);have d0:=zCt az (n:=4352) (by unfold Pg.vs;rw[List.length_map,zAL f (by omega)]);have ee:=az.alloc (.cells (Pg.vs (zA9 f m)).toArray 202);have ch:=zHl w5.drew w3.heap.size 4352 (.slice A2 ln c2) d0;have dc:=zHl (w5.drew.alloc (.cells (Pg.vs (zA9 f m)).toArray 202)) w3.heap.size 4352 (.slice A2 ln c2) (zCt (Rw.At.alloc (w:=w5.drew) az _) (n:=4352) (by unfold Pg.vs;rw[List.length_map,zAL f (by omega)]));have f0:=zCt bi (n:=4352) (by unfold Pg.vs;rw[List.length_map,zAL f (by omega)]);have f1:=bi.frozen 4352;have cn:=Pg.Pl.grown (W:=w5.drew) bq bp (fun e=>zGh au bq e.symm);have ba:=hy' bi;have aj:=hy' bg;have b8:=hy' cn;have dm:=hy' ek;have eb:=hy' dh;have fk:IntKind.u16.wrap (ln:Int)=ln:=by rw[Qk];omega
 have fx:=(bi.set 4352 (.slice A8 (ln+1) c8));clear hmem bl bq bs dn az au b4 ee bg bp ek bi cn dh eg bz;go_upto_region 22 with (first|(refine zFp rfl 202 _ rfl _ _ rfl e2.o ?_)|fail)
 clear aw ak a8 z1;refine JC (by kernel_rfl) ?_;change wpAny _ _ _ _ 13 _ _ (World.drew _)
 with_reducible refine Pg.take 0 (.move (.tmp 7)) (some 82) (139) (.pointer (some ⟨w3.heap.size,0,none⟩)) (by kernel_rfl) (by kernel_rfl) (by kernel_rfl) (by kernel_rfl) (by intro _ _ _ h;with_unfolding_all exact h) (fun o h w=>zEH _ h _ (by kernel_rfl)) ?_
 with_reducible refine Pg.take 1 (.move (.tmp 7)) (some 83) (139) (.pointer (some ⟨w3.heap.size,0,none⟩)) (by kernel_rfl) (by kernel_rfl) (by kernel_rfl) (by kernel_rfl) (by intro _ _ _ h;with_unfolding_all exact h) (fun o h w=>zEH _ h _ (by kernel_rfl)) ?_
 with_reducible refine Pg.take 2 (.nilCheck (.tmp 83)) (some 84) (0) (.pointer (some ⟨w3.heap.size,0,none⟩)) (by kernel_rfl) (by kernel_rfl) (by kernel_rfl) (by kernel_rfl) (by intro _ _ _ h;with_unfolding_all exact h) (fun o h w=>zD0 _ h _ (by kernel_rfl)) ?_
 with_reducible refine Pg.take 3 (.fieldAddr 206 (.tmp 84) 1) (some 85) (0) (.pointer (some ⟨w3.heap.size,4352,none⟩)) (by kernel_rfl) (by kernel_rfl) (by kernel_rfl) (by kernel_rfl) (by intro _ _ _ h;with_unfolding_all exact h) (fun o h w=>zCE _ _ _ h (.pointer (some ⟨w3.heap.size,0,none⟩)) (by kernel_rfl) _ (zDl _ _)) ?_
 with_reducible refine Pg.take 5 (.move (.tmp 10)) (some 87) (232) (.pointer (some ⟨g,0,none⟩)) (by kernel_rfl) (by kernel_rfl) (by kernel_rfl) (by kernel_rfl) (by intro _ _ _ h;with_unfolding_all exact h) (fun o h w=>zEH _ h _ (by kernel_rfl)) ?_
 with_reducible refine Pg.take 6 (.nilCheck (.tmp 87)) (some 88) (0) (.pointer (some ⟨g,0,none⟩)) (by kernel_rfl) (by kernel_rfl) (by kernel_rfl) (by kernel_rfl) (by intro _ _ _ h;with_unfolding_all exact h) (fun o h w=>zD0 _ h _ (by kernel_rfl)) ?_
 refine Xh (rs:=[4,7]) (by kernel_rfl) (by simp) ?_
 with_reducible refine zBF (.load 204 (.tmp 85)) (some 86) (204) (.slice A2 ln c2) w5.drew (by kernel_rfl) (fun o h ht=>zCv _ _ h (.pointer (some ⟨w3.heap.size,4352,none⟩)) (by kernel_rfl) _ ch) ?_ ?_
 · refine Xh (rs:=[7]) (by kernel_rfl) (by simp) ?_
   with_reducible refine zBF (.load 202 (.tmp 88)) (some 89) (202) (.agg (Pg.vs (zA9 f m)).toArray) _ (by kernel_rfl) (fun o h ht=>zCv _ _ h (.pointer (some ⟨g,0,none⟩)) (by kernel_rfl) _ bj) ?_ ?_
   · refine Xh (rs:=[8]) (by kernel_rfl) (by simp) ?_
     with_reducible refine zBF (.buildSlice 204 1 #[(0,.tmp 89)]) (some 90) (204) (.slice (some ⟨w5.drew.heap.size,0,none⟩) 1 1) _ (by kernel_rfl) (fun o h ht=>zCo _ _ _ _ h (.agg (Pg.vs (zA9 f m)).toArray) (by kernel_rfl) _ bb) ?_ ?_
     · refine Xh (rs:=[9]) (by kernel_rfl) (by simp) ?_
       with_reducible refine zBF (.call { callee:=.builtin .append,args := #[.tmp 86,.tmp 90],argTypes := #[204,204] }) (some 91) (204) _ _ (by kernel_rfl) (fun o h ht=>zDs _ _ _ h (.slice A2 ln c2) (.slice (some ⟨w5.drew.heap.size,0,none⟩) 1 1) (by kernel_rfl) (by kernel_rfl) _ (by rw[ht];exact bf)) ?_ ?_
       · with_reducible refine Pg.take 10 (.nilCheck (.tmp 82)) (some 92) (0) (.pointer (some ⟨w3.heap.size,0,none⟩)) (by kernel_rfl) (by kernel_rfl) (by kernel_rfl) (by kernel_rfl) (by intro _ _ _ h;with_unfolding_all exact h) (fun o h w=>zD0 _ h _ (by kernel_rfl)) ?_
         with_reducible refine Pg.take 11 (.fieldAddr 206 (.tmp 92) 1) (some 93) (0) (.pointer (some ⟨w3.heap.size,4352,none⟩)) (by kernel_rfl) (by kernel_rfl) (by kernel_rfl) (by kernel_rfl) (by intro _ _ _ h;with_unfolding_all exact h) (fun o h w=>zCE _ _ _ h (.pointer (some ⟨w3.heap.size,0,none⟩)) (by kernel_rfl) _ (zDl _ _)) ?_
         refine Xh (rs:=[12]) (by kernel_rfl) (by simp) ?_
         with_reducible refine zGP (.store 204 (.tmp 93) (.tmp 91)) _ (by kernel_rfl) (fun o h=>zE8 _ _ _ h (.pointer (some ⟨w3.heap.size,4352,none⟩)) (.slice A8 (ln+1) c8) (by kernel_rfl) (by kernel_rfl) (zE9 _ _ _ _ _ _ _ f0 f1)) ?_ ?_
         · refine Ke (by kernel_rfl) ?_ _
           have aa:Rw.At (w8.setCell ⟨w3.heap.size,4352,none⟩ (.slice A8 (ln+1) c8)) w3.heap.size 206 (Pg.vs (zAK f m)++[.slice A8 (ln+1) c8]):=by
            have hl:(Pg.vs (zAK f m)).length=4352:=by unfold Pg.vs;rw[List.length_map,zAL f (by omega)]
            have:=ba.o.set 4352 (.slice A8 (ln+1) c8);rw[Yw _ _ (by rw[hl];exact Za _),hl,Ye]at this;exact this
           have z0:=zDB aa HOLD.o;have z1:=aa.frozen m;have en:=aa.lt;have bk:=hy' aa;clear aa f0 f1 bj bb ch dc bf;go_wp2_with fail;have b2:Below w2.heap.size wr ((w8.setCell ⟨w3.heap.size,4352,none⟩ (.slice A8 (ln+1) c8)).setCell ⟨w3.heap.size,m,none⟩ (.int .u16 ln)):=(dm.o.setCell (p:=⟨w3.heap.size,4352,none⟩) (Z4 ag.o.1) _).setCell (p:=⟨w3.heap.size,m,none⟩) (Z4 ag.o.1) _;have ar:(Value.slice A8 (ln+1) c8).ownBlock≠some w3.heap.size:=fun e=>zAy aj.o (by decide) _ e _ _ ba.o
           refine⟨⟨m+1,.slice A8 (ln+1) c8,by omega,by go_num,aq.o.below b2 ag.o.2.2 (Za _),?_,?_,?_,a6.o.trans (b2.mono (Z4 ag.o.2.2))⟩,by simp[intOf];omega⟩
           · exact (b8.o.grown (Rw.grown_set w3.heap.size 4352 _) (by have:=ag.o.2.1;simp;omega)).grown (Rw.grown_set w3.heap.size m _) (by have:=ag.o.2.1;simp;omega)
           · rw[br.o,a1.o];have:=bk.o.set m (.int .u16 ln);rw[List.set_append_left _ _ (by unfold Pg.vs;rw[List.length_map,zAL f (by omega)];exact hlt)]at this;rw[show Pg.vs ((zAK f m).set m (ln:Int))=(Pg.vs (zAK f m)).set m (.int .u16 ln) by unfold Pg.vs;rw[List.map_set]];exact this
           rw[ap.o,av.o,List.length_append,eb.o,List.flatten_append,show Pg.vs ((zAn f m).flatten++[zA9 f m].flatten)=Pg.vs (zAn f m).flatten++Pg.vs (zA9 f m) by unfold Pg.vs;simp];exact (aj.o.kept (Rw.grown_set w3.heap.size 4352 _) (.inr ar)).kept (Rw.grown_set w3.heap.size m _) (.inr ar)
         exact Y9
       exact Y9
     exact Y9
   exact Y9
 with_reducible refine zBF (.load 202 (.tmp 88)) (some 89) (202) (.agg (Pg.vs (zA9 f m)).toArray) _ (by kernel_rfl) (fun o h ht=>zCv _ _ h (.pointer (some ⟨g,0,none⟩)) (by kernel_rfl) _ bj) ?_ ?_
 · refine Xh (rs:=[4,8]) (by kernel_rfl) (by simp) ?_
   with_reducible refine zBF (.load 204 (.tmp 85)) (some 86) (204) (.slice A2 ln c2) w5.drew (by kernel_rfl) (fun o h ht=>zCv _ _ h (.pointer (some ⟨w3.heap.size,4352,none⟩)) (by kernel_rfl) _ ch) ?_ ?_
   · refine Xh (rs:=[8]) (by kernel_rfl) (by simp) ?_
     with_reducible refine zBF (.buildSlice 204 1 #[(0,.tmp 89)]) (some 90) (204) (.slice (some ⟨w5.drew.heap.size,0,none⟩) 1 1) _ (by kernel_rfl) (fun o h ht=>zCo _ _ _ _ h (.agg (Pg.vs (zA9 f m)).toArray) (by kernel_rfl) _ bb) ?_ ?_
     · refine Xh (rs:=[9]) (by kernel_rfl) (by simp) ?_
       with_reducible refine zBF (.call { callee:=.builtin .append,args := #[.tmp 86,.tmp 90],argTypes := #[204,204] }) (some 91) (204) _ _ (by kernel_rfl) (fun o h ht=>zDs _ _ _ h (.slice A2 ln c2) (.slice (some ⟨w5.drew.heap.size,0,none⟩) 1 1) (by kernel_rfl) (by kernel_rfl) _ (by rw[ht];exact bf)) ?_ ?_
       · with_reducible refine Pg.take 10 (.nilCheck (.tmp 82)) (some 92) (0) (.pointer (some ⟨w3.heap.size,0,none⟩)) (by kernel_rfl) (by kernel_rfl) (by kernel_rfl) (by kernel_rfl) (by intro _ _ _ h;with_unfolding_all exact h) (fun o h w=>zD0 _ h _ (by kernel_rfl)) ?_
         with_reducible refine Pg.take 11 (.fieldAddr 206 (.tmp 92) 1) (some 93) (0) (.pointer (some ⟨w3.heap.size,4352,none⟩)) (by kernel_rfl) (by kernel_rfl) (by kernel_rfl) (by kernel_rfl) (by intro _ _ _ h;with_unfolding_all exact h) (fun o h w=>zCE _ _ _ h (.pointer (some ⟨w3.heap.size,0,none⟩)) (by kernel_rfl) _ (zDl _ _)) ?_
         refine Xh (rs:=[12]) (by kernel_rfl) (by simp) ?_
         with_reducible refine zGP (.store 204 (.tmp 93) (.tmp 91)) _ (by kernel_rfl) (fun o h=>zE8 _ _ _ h (.pointer (some ⟨w3.heap.size,4352,none⟩)) (.slice A8 (ln+1) c8) (by kernel_rfl) (by kernel_rfl) (zE9 _ _ _ _ _ _ _ f0 f1)) ?_ ?_
         · refine Ke (by kernel_rfl) ?_ _
           have aa:Rw.At (w8.setCell ⟨w3.heap.size,4352,none⟩ (.slice A8 (ln+1) c8)) w3.heap.size 206 (Pg.vs (zAK f m)++[.slice A8 (ln+1) c8]):=by
            have hl:(Pg.vs (zAK f m)).length=4352:=by unfold Pg.vs;rw[List.length_map,zAL f (by omega)]
            have:=ba.o.set 4352 (.slice A8 (ln+1) c8);rw[Yw _ _ (by rw[hl];exact Za _),hl,Ye]at this;exact this
           have z0:=zDB aa HOLD.o;have z1:=aa.frozen m;have en:=aa.lt;have bk:=hy' aa;clear aa f0 f1 bj bb ch dc bf;go_wp2_with fail;have b2:Below w2.heap.size wr ((w8.setCell ⟨w3.heap.size,4352,none⟩ (.slice A8 (ln+1) c8)).setCell ⟨w3.heap.size,m,none⟩ (.int .u16 ln)):=(dm.o.setCell (p:=⟨w3.heap.size,4352,none⟩) (Z4 ag.o.1) _).setCell (p:=⟨w3.heap.size,m,none⟩) (Z4 ag.o.1) _;have ar:(Value.slice A8 (ln+1) c8).ownBlock≠some w3.heap.size:=fun e=>zAy aj.o (by decide) _ e _ _ ba.o
           refine⟨⟨m+1,.slice A8 (ln+1) c8,by omega,by go_num,aq.o.below b2 ag.o.2.2 (Za _),?_,?_,?_,a6.o.trans (b2.mono (Z4 ag.o.2.2))⟩,by simp[intOf];omega⟩
           · exact (b8.o.grown (Rw.grown_set w3.heap.size 4352 _) (by have:=ag.o.2.1;simp;omega)).grown (Rw.grown_set w3.heap.size m _) (by have:=ag.o.2.1;simp;omega)
           · rw[br.o,a1.o];have:=bk.o.set m (.int .u16 ln);rw[List.set_append_left _ _ (by unfold Pg.vs;rw[List.length_map,zAL f (by omega)];exact hlt)]at this;rw[show Pg.vs ((zAK f m).set m (ln:Int))=(Pg.vs (zAK f m)).set m (.int .u16 ln) by unfold Pg.vs;rw[List.map_set]];exact this
           rw[ap.o,av.o,List.length_append,eb.o,List.flatten_append,show Pg.vs ((zAn f m).flatten++[zA9 f m].flatten)=Pg.vs (zAn f m).flatten++Pg.vs (zA9 f m) by unfold Pg.vs;simp];exact (aj.o.kept (Rw.grown_set w3.heap.size 4352 _) (.inr ar)).kept (Rw.grown_set w3.heap.size m _) (.inr ar)
         exact Y9
       exact Y9
     exact Y9
   with_reducible refine zBF (.buildSlice 204 1 #[(0,.tmp 89)]) (some 90) (204) (.slice (some ⟨w5.drew.heap.size,0,none⟩) 1 1) _ (by kernel_rfl) (fun o h ht=>zCo _ _ _ _ h (.agg (Pg.vs (zA9 f m)).toArray) (by kernel_rfl) _ bb) ?_ ?_
   · refine Xh (rs:=[4]) (by kernel_rfl) (by simp) ?_
     with_reducible refine zBF (.load 204 (.tmp 85)) (some 86) (204) (.slice A2 ln c2) _ (by kernel_rfl) (fun o h ht=>zCv _ _ h (.pointer (some ⟨w3.heap.size,4352,none⟩)) (by kernel_rfl) _ dc) ?_ ?_
     · refine Xh (rs:=[9]) (by kernel_rfl) (by simp) ?_
       with_reducible refine zBF (.call { callee:=.builtin .append,args := #[.tmp 86,.tmp 90],argTypes := #[204,204] }) (some 91) (204) _ _ (by kernel_rfl) (fun o h ht=>zDs _ _ _ h (.slice A2 ln c2) (.slice (some ⟨w5.drew.heap.size,0,none⟩) 1 1) (by kernel_rfl) (by kernel_rfl) _ (by rw[ht];exact bf)) ?_ ?_
       · with_reducible refine Pg.take 10 (.nilCheck (.tmp 82)) (some 92) (0) (.pointer (some ⟨w3.heap.size,0,none⟩)) (by kernel_rfl) (by kernel_rfl) (by kernel_rfl) (by kernel_rfl) (by intro _ _ _ h;with_unfolding_all exact h) (fun o h w=>zD0 _ h _ (by kernel_rfl)) ?_
         with_reducible refine Pg.take 11 (.fieldAddr 206 (.tmp 92) 1) (some 93) (0) (.pointer (some ⟨w3.heap.size,4352,none⟩)) (by kernel_rfl) (by kernel_rfl) (by kernel_rfl) (by kernel_rfl) (by intro _ _ _ h;with_unfolding_all exact h) (fun o h w=>zCE _ _ _ h (.pointer (some ⟨w3.heap.size,0,none⟩)) (by kernel_rfl) _ (zDl _ _)) ?_
         refine Xh (rs:=[12]) (by kernel_rfl) (by simp) ?_
         with_reducible refine zGP (.store 204 (.tmp 93) (.tmp 91)) _ (by kernel_rfl) (fun o h=>zE8 _ _ _ h (.pointer (some ⟨w3.heap.size,4352,none⟩)) (.slice A8 (ln+1) c8) (by kernel_rfl) (by kernel_rfl) (zE9 _ _ _ _ _ _ _ f0 f1)) ?_ ?_
         · refine Ke (by kernel_rfl) ?_ _
           have aa:Rw.At (w8.setCell ⟨w3.heap.size,4352,none⟩ (.slice A8 (ln+1) c8)) w3.heap.size 206 (Pg.vs (zAK f m)++[.slice A8 (ln+1) c8]):=by
            have hl:(Pg.vs (zAK f m)).length=4352:=by unfold Pg.vs;rw[List.length_map,zAL f (by omega)]
            have:=ba.o.set 4352 (.slice A8 (ln+1) c8);rw[Yw _ _ (by rw[hl];exact Za _),hl,Ye]at this;exact this
           have z0:=zDB aa HOLD.o;have z1:=aa.frozen m;have en:=aa.lt;have bk:=hy' aa;clear aa f0 f1 bj bb ch dc bf;go_wp2_with fail;have b2:Below w2.heap.size wr ((w8.setCell ⟨w3.heap.size,4352,none⟩ (.slice A8 (ln+1) c8)).setCell ⟨w3.heap.size,m,none⟩ (.int .u16 ln)):=(dm.o.setCell (p:=⟨w3.heap.size,4352,none⟩) (Z4 ag.o.1) _).setCell (p:=⟨w3.heap.size,m,none⟩) (Z4 ag.o.1) _;have ar:(Value.slice A8 (ln+1) c8).ownBlock≠some w3.heap.size:=fun e=>zAy aj.o (by decide) _ e _ _ ba.o
           refine⟨⟨m+1,.slice A8 (ln+1) c8,by omega,by go_num,aq.o.below b2 ag.o.2.2 (Za _),?_,?_,?_,a6.o.trans (b2.mono (Z4 ag.o.2.2))⟩,by simp[intOf];omega⟩
           · exact (b8.o.grown (Rw.grown_set w3.heap.size 4352 _) (by have:=ag.o.2.1;simp;omega)).grown (Rw.grown_set w3.heap.size m _) (by have:=ag.o.2.1;simp;omega)
           · rw[br.o,a1.o];have:=bk.o.set m (.int .u16 ln);rw[List.set_append_left _ _ (by unfold Pg.vs;rw[List.length_map,zAL f (by omega)];exact hlt)]at this;rw[show Pg.vs ((zAK f m).set m (ln:Int))=(Pg.vs (zAK f m)).set m (.int .u16 ln) by unfold Pg.vs;rw[List.map_set]];exact this
           rw[ap.o,av.o,List.length_append,eb.o,List.flatten_append,show Pg.vs ((zAn f m).flatten++[zA9 f m].flatten)=Pg.vs (zAn f m).flatten++Pg.vs (zA9 f m) by unfold Pg.vs;simp];exact (aj.o.kept (Rw.grown_set w3.heap.size 4352 _) (.inr ar)).kept (Rw.grown_set w3.heap.size m _) (.inr ar)
         exact Y9
       exact Y9
     exact Y9
   exact Y9
 exact Y9
end
section
open Go.RowKit Go.Lib Go.Sort
theorem zIF {w wr:World} {n blk off:Nat} {dk:Array Int} {i:Nat} (hi:i<dk.size) (aa:wr=putRow zAR (Sort.ahead w n) blk off dk) (x:Int) :
 (wr.setCell ⟨blk,off+i,none⟩ (zAR x)).drew=putRow zAR (Sort.ahead w (n+1)) blk off (dk.setIfInBounds i x):=by
 subst aa;rw[putRow_set zAR _ blk off dk i x hi,←ahead_drew];rfl
theorem zDt (blk off cap:Nat) (d:Array Int) (w:World) (hH:Holds zAR w blk off d) (ap:d.size≤9223372036854775807) (ai:d.size≤cap) :
 Calls prog 99 #[.slice (some ⟨blk,off,none⟩) d.size cap] w fun e w'=>e=.returned (.slice (some ⟨blk,off,none⟩) (compactUpTo d d.size).length cap)∧∃q,w'=putRow zAR (Sort.ahead w q) blk off (compactUpTo d d.size++List.replicate (d.size-(compactUpTo d d.size).length) 0).toArray:=by
 have same:∀q,(∀j,j<d.size→keeps d j=true)→(compactUpTo d d.size).length=d.size∧w.drewN q=putRow zAR (Sort.ahead w q) blk off (compactUpTo d d.size++List.replicate (d.size-(compactUpTo d d.size).length) 0).toArray:=by
  intro q aa;have e:compactUpTo d d.size=d.toList:=by rw[compactUpTo_all d _ aa,range_map_get]
  rw[e];refine⟨by simp,?_⟩;simp only[XW,Ye,Jz,Z3,Array.toArray_toList];exact (putRow_self zAR (Sort.ahead w q) blk off d (holds_ahead zAR w q blk off d hH)).symm
 have HS:Aside (∀q,(∀j,j<d.size→keeps d j=true)→(compactUpTo d d.size).length=d.size∧w.drewN q=putRow zAR (Sort.ahead w q) blk off (compactUpTo d d.size++List.replicate (d.size-(compactUpTo d d.size).length) 0).toArray):=same;clear same
 by_cases h2:d.size<2
 · have HH:Aside (Holds zAR w blk off d):=hH;clear hH;go_enter func99,ntmps99;go_wp2;go_ret;obtain⟨e1,e2⟩:=HS.out 0 (fun j hj=>keeps_lt_one d j (by omega));exact⟨by rw[e1];rfl,0,e2⟩
 go_enter func99,ntmps99;go_wp2;go_loopg [3] d.size (fun g s3 wr=>∃k q:Nat,1≤k∧k≤d.size∧d.size-k≤g∧s3=.int .i64 k∧wr=w.drewN q∧∀j,j<k→keeps d j=true)
 case atStart=>exact⟨1,0,Za _,by omega,by omega,rfl,rfl,keeps_lt_one d⟩
 obtain⟨k,q,ao,hk,hg,rfl,rfl,aa⟩:=hrel
 by_cases hlt:k<d.size
 rotate_left
 · have:k=d.size:=by omega
   subst this;have HH:Aside (Holds zAR w blk off d):=hH;clear hH;go_wp2;go_ret;obtain⟨e1,e2⟩:=HS.out q aa;exact⟨by rw[e1];rfl,q,e2⟩
 obtain⟨c1,f1⟩:=hH k hlt;obtain⟨c0,f0⟩:=hH (k-1) (by omega);have A:Aside (∀j,j<k→keeps d j=true):=aa;have HH:Aside (Holds zAR w blk off d):=hH;clear aa hH;generalize hx:d[k]! = x at c1;generalize hy:d[k-1]! = y at c0;have B:Aside (d[k]! = x∧d[k-1]! = y):=⟨hx,hy⟩;clear hx hy
 by_cases hdup:x=y
 rotate_left
 · go_wp2_with fail;go_region;go_wp2;go_roundg (d.size-(k+1))
   case measure=>omega
   refine⟨k+1,q+1,by omega,by omega,Za _,by go_num,rfl,fun j hj=>?_⟩
   by_cases e:j=k
   · subst e;exact keeps_pos (by rw[B.out.1,B.out.2];exact hdup)
   exact A.out j (by omega)
 subst hdup;go_wp2_with fail;go_region;go_wp2;clear c0 c1 f0 f1;go_loopg [3,5] d.size (fun g s3 s5 wr=>∃(kk k2 q2:Nat) (dk:Array Int),s3=.int .i64 kk∧s5=.int .i64 k2∧1≤k2∧k+k2≤d.size∧d.size-(k+k2)≤g∧wr=putRow zAR (Sort.ahead w q2) blk off dk∧CompInv d (k+k2) kk dk)
 case atStart=>exact⟨k,1,q+1,d,rfl,rfl,Za _,by omega,by omega,(putRow_self zAR (Sort.ahead w (q+1)) blk off d (holds_ahead zAR w (q+1) blk off d HH.out)).symm,CompInv.start A.out (keeps_neg (by omega) (by rw[B.out.1,B.out.2]))⟩
 obtain⟨kk,k2,q2,dk,rfl,rfl,h1,hle,ak,ag,hI⟩:=hrel;have aj:=hI.lt;have ah:=hI.size;have ae:Holds zAR wr blk off dk:=by rw[ag];exact holds_putRow zAR _ blk off d dk (holds_ahead zAR w q2 blk off d HH.out) ah
 have W2:Aside (wr=putRow zAR (Sort.ahead w q2) blk off dk):=ag;have I2:Aside (CompInv d (k+k2) kk dk):=hI;clear ag
 by_cases hlt2:k+k2<d.size
 · obtain⟨cm,_⟩:=ae (k+k2) (by omega);obtain⟨cp,_⟩:=ae (k+k2-1) (by omega);obtain⟨ck,fk⟩:=ae kk (by omega);rw[hI.high (k+k2) (by omega),show off+(k+k2)=off+k+k2 by omega]at cm;rw[hI.high (k+k2-1) (by omega),show off+(k+k2-1)=off+k+(k2-1) by omega]at cp;clear ae hI;generalize hu:d[k+k2]! = u at cm;generalize hv:d[k+k2-1]! = v at cp;generalize dk[kk]! = old at ck;have C:Aside (d[k+k2]! = u∧d[k+k2-1]! = v):=⟨hu,hv⟩;clear hu hv
   by_cases huv:u=v
   · subst huv;go_wp2_with fail;go_region;go_wp2;go_roundg (d.size-(k+(k2+1)))
     case rel=>exact⟨kk,k2+1,q2+1,dk,rfl,by go_num,by omega,by omega,Za _,by rw[W2.out];rfl,I2.out.skip (keeps_neg (by omega) (by rw[C.out.1,C.out.2]))⟩
     omega
   go_wp2_with fail;go_region;go_wp2;go_roundg (d.size-(k+(k2+1)))
   case rel=>exact⟨kk+1,k2+1,q2+1,dk.setIfInBounds kk u,by go_num,by go_num,by omega,by omega,Za _,zIF (by omega) W2.out u,by have:=I2.out.keep hlt2 (keeps_pos (by rw[C.out.1,C.out.2];exact huv));rwa [C.out.1]at this⟩
   omega
 have af:k+k2=d.size:=by omega
 have aq:∀ty,(Builtin.clear_ #[80] ty #[.slice (some ⟨blk,off+kk,none⟩) (d.size-kk) (cap-kk)]).run prog wr=.ok (.tuple #[]) (wr.setCells blk (off+kk) (List.replicate (d.size-kk) (zAR 0))) :=
  fun ty=>Lib.run_clear_slice wr _ _ ty _ underlying80 (fun w=>(by kernel_rfl:(zeroValue 21).run prog w=.ok (Value.int .i32 0) w)) rfl rfl blk (off+kk) _ _ (by omega) (fun j hj=>by rw[show off+kk+j=off+(kk+j) by omega,(ae (kk+j) (by omega)).1];rfl) (fun j hj=>by rw[show off+kk+j=off+(kk+j) by omega];exact (ae (kk+j) (by omega)).2)
 clear ae hI;go_wp2;go_ret;have hI:=I2.out;rw[af]at hI;refine⟨by rw[hI.len];rfl,q2,?_⟩;rw[hI.len,←hI.done 0,←putRow_setCells zAR _ blk off _ dk kk (by simp;omega),←W2.out,JK]
theorem zEI (blk off cap:Nat) (zs:List Int) (w:World) (hH:Holds (Value.int .i32) w blk off zs.toArray) (ae:zs.length≤9223372036854775807) (aa:zs.length≤cap) :
 Calls prog 99 #[.slice (some ⟨blk,off,none⟩) zs.length cap] w fun e w'=>e=.returned (.slice (some ⟨blk,off,none⟩) (Lib.compact zs).length cap)∧∃q,w'=putRow (Value.int .i32) (Sort.ahead w q) blk off (Lib.compact zs++List.replicate (zs.length-(Lib.compact zs).length) 0).toArray:=by
 have h:=zDt blk off cap zs.toArray w hH (by simpa using ae) (by simpa using aa);simpa [Lib.compact] using h
theorem zD1 (a:Option Addr) (cap:Nat) (w:World) :
 Calls prog 99 #[.slice a 0 cap] w fun e w'=>e=.returned (.slice a 0 cap)∧w'=w:=by
 go_enter func99,ntmps99;go_wp2;go_ret;exact⟨rfl,rfl⟩
end
section
open Go.RowKit Go.Sort
theorem zRE {w:World} {g n:Nat} {aa:Array Value} {e:TypeId} {fr:Nat × Nat} (d:Array Int) (hb:w.heap[g]?=some (.cells aa e fr)) :
 (putRow (Value.int .i32) (Sort.ahead w n) g 0 d).heap[g]?=some (.cells (putCells (Value.int .i32) 0 d aa) e fr):=by
 simp[putRow,mapBlock,Sort.ahead,YY,hb,onCells]
theorem zQX {w:World} {g n base:Nat} (d:Array Int) (hg:base≤g):RowKit.Below base w (putRow (Value.int .i32) (Sort.ahead w n) g 0 d):=by
 refine⟨rfl,rfl,rfl,by simp,fun k hk=>?_⟩;have:g≠k:=by omega
 simp[putRow,mapBlock,Sort.ahead,YY,this]
theorem zGi (l:List Int):(Lib.compact l).length≤l.length:=by
 unfold Lib.compact Lib.compactUpTo;rw[Ze];exact Zh (XH _ _) (by simp)
theorem zKB (A:Option Addr) (n c base e:Nat) (l:List Int) (w:World) (hn:l.length=n) (aj:n≤1000000) (aa:w.ownsRow base e 1 (.slice A n c) n (l.map (Value.int .i32))) (ae:base≤w.heap.size) :
 Calls prog 99 #[.slice A n c] w fun r w'=>∃A' c',r=.returned (.slice A' (Lib.compact l).length c')∧Sl w' w'.heap.size A' ((Lib.compact l).map (Value.int .i32))∧RowKit.Below base w w':=by
 subst hn;rcases aa.2 with ⟨hv,h0⟩|⟨g,cap,af,hv,hg,hb,h1,h2,h3,h4⟩
 · simp only[Z2]at hv;obtain⟨rfl,_,rfl⟩:=hv;have hl:l=[]:=ZD h0;subst hl;refine (zD1 none 0 w).mono fun r w' hh=>?_
   obtain⟨hr,hw⟩:=hh;subst hw;exact⟨none,0,by rw[hr];rfl,Sl.nil _ _ _,Zc _ _⟩
 simp only[Z2]at hv;obtain⟨rfl,_,rfl⟩:=hv;rw[Xi]at h4;have ag:g<w.heap.size:=(Array.getElem?_eq_some_iff.1 hb).1;refine (zEI g 0 c l w (R.holds hb h4) (by omega) h1).mono fun r w' hh=>?_
 obtain⟨hr,q,hw⟩:=hh;subst hw;have ak:=zGi l;refine⟨_,_,hr,?_,zQX _ hg⟩;intro hx;rw[Ze]at hx;refine⟨g,0,rfl,by simpa using ag,fun i hi=>?_⟩;rw[Ze]at hi;have ai:af.size=c:=by rw[h3,Xi]
 have ah:i<af.size:=by omega
 have hd:i<(Lib.compact l++List.replicate (l.length-(Lib.compact l).length) 0).toArray.size:=by simp;omega
 simp only[World.cell?,zRE _ hb,Z1,JI,ZL,Yc];rw[Zw,Zb hi];simp only[putCells,Array.getElem?_mapIdx];rw[Xm ah];simp only[Zx,JW,ZG,Qr,Z1];rw[Zl hd,JV _ i hd];simp[List.getElem_append,hi]
end
section
open Go.RowKit
theorem zP3 {cs:List Int} {i:Nat} {c:Int} (h:cs[i]?=some c):zEx (cs.take (i+1)) []=C.step C.isC (zEx (cs.take i) []) c (c+1):=by
 unfold zEx;rw[ZA,h,YJ];rfl
theorem C.step_last {acc:List Int} {k:Nat} {c b:Int} (hp:C.isC c=true) (hl:acc.length=k+1) (h:acc[k]?=some c):C.step C.isC acc c b=acc.set k b:=by
 unfold C.step;rw[Zl hp,Zl (by rw[QH,hl];exact h)];rcases YZ acc with rfl|⟨l2,e,rfl⟩
 · simp at hl
 rw[Y0]at *;have:l2.length=k:=by simpa using hl
 subst this;simp
theorem zD2 (A:Option Addr) (n c B:Nat) (l:List Int) (w:World) (hn:l.length=n) (cr:n≤400000) (hB:B≤w.heap.size) (hA:Sl w B A (l.map (Value.int .i32))) :
 Calls prog 60 #[.slice A n c] w (zS9 (C.chars l) w):=by
 have HN:=hy' hn;obtain⟨b5,cb⟩:=zIg l;obtain⟨cs,hcs⟩:∃cs,zEy l=cs:=⟨_,rfl⟩;have bb:(l.mergeSort fun x y=>decide (x≤y)).length=n:=by simp[hn]
 have bg:Lib.compact (l.mergeSort fun x y=>decide (x≤y))=cs:=by
  rw[←hcs];unfold Lib.compact zEy;rw[bb,hn]
 have av:C.chars l=zEx cs []:=by unfold C.chars;rw[hcs]
 rw[av];obtain⟨m,hm⟩:∃m,cs.length=m:=⟨_,rfl⟩
 have hmn:m≤400000:=by
  have h:=zGi (l.mergeSort fun x y=>decide (x≤y));rw[bg,bb,hm]at h;omega
 have HM:=hy' hm;have bw:=hy' bb;have cf:=hy' bg;have br:Below w.heap.size w (w.alloc (.cells #[.slice none 0 0] 96)):=(Zc _ _).alloc (Za _) _;have b6:=hy' (hA.belowN br hB (Za _));have ct:w.heap.size+1≤(w.alloc (.cells #[.slice none 0 0] 96)).heap.size:=by simp
 obtain⟨j0,hj0,bo,bq,bp⟩:=Z7 zCl;clear hn hcs bb bg av hm b5 cb;go_enter func60,ntmps60;go_wp2_with fail;refine (zBU A n c B l _ HN.o (by omega) (by omega) b6.out).mono ?_;rintro e w1 ⟨A1,c1,rfl,ai,ba⟩;have au:=hy' ai;clear ai;go_wp2_with fail;refine (R.sort_any _ _ _ n l _ HN.o (by omega) au.out ba.size).mono ?_;rintro e w2 ⟨rfl,aa,ak⟩;have aj:=hy' aa;clear aa;go_wp2_with fail;refine (zKB A1 n c1 _ _ (l.mergeSort fun x y=>decide (x≤y)) _ bw.o (by omega) aj.out (Zh ba.size ak.size)).mono ?_;rw[cf.o];rintro e w3 ⟨A3,c3,rfl,bn,bm⟩;rw[HM.o];have b7:=hy' bn;have ax:=(ba.trans ak).trans bm;clear bn;go_wp2;go_loopw [4,15] (fun vo vi wr=>∃(i:Nat) (acc:List Int),i≤m∧vi=.int .i64 i∧acc=zEx (cs.take i) []∧acc.length≤2*i∧wr.ownsRow w3.heap.size 21 1 vo acc.length (acc.map (Value.int .i32))∧Below w3.heap.size w3 wr) (fun _ vi _=>m-(intOf vi).toNat)
 case atStart=>exact⟨0,[],by omega,rfl,rfl,ZG _,ZI _ _ _ _,Zc _ _⟩
 obtain⟨i,acc,hi,rfl,ag,bf,ae,ao⟩:=hrel;obtain⟨uu,rfl⟩:∃uu:World,uu=wr:=⟨_,rfl⟩;obtain⟨q,hq⟩:∃q,acc.length=q:=⟨_,rfl⟩;rw[hq]at ae bf;have HQ:=hy' hq;have bx:=hy' ag;have bt:w3.heap.size≤uu.heap.size:=ao.size;obtain⟨A4,c4,rfl⟩:=zA3 ae
 by_cases hlt:i<m
 rotate_left
 · obtain rfl:i=m:=by omega
   have aw:acc=zEx cs []:=by rw[ag,Zi (by rw[HM.o];exact Za _)]
   have bs:=ax.trans (ao.mono (Zh ba.size (Zh ak.size bm.size)));have aq:=(bs.block w.heap.size (by omega)).trans (ZV w _);obtain⟨b8,cm⟩:=zHP aq 0;simp only[Qg,Y4]at b8;have bl:=hy' aq;have bz:w.heap.size<w3.heap.size:=by have:=ax.size;omega
   have az:=hy' aw;clear aq ag aw hq;go_wp2;have bi:=zQL (v:=.slice A4 q c4) bl.o;refine YF (results_cell_row rfl _ _ w.heap.size _ _ _ _ rfl bi underlying96 rfl (by kernel_rfl)) rfl ?_;refine⟨A4,c4,by rw[←az.o,HQ.o],?_,(br.trans (bs.mono (by omega))).setCell (by simp) _⟩;rw[←az.o,HQ.o];exact own_base (Z8 ae (by omega) _) (by omega)
 obtain⟨ch,av⟩:∃ch,cs[i]?=some ch:=⟨_,Zb (by rw[HM.o];omega)⟩;have bj:=zP3 av;rw[←ag]at bj;have bc:=hy' bj;obtain⟨g,o,rfl,cc,b2,_⟩:=b7.o.ints av;rw[←(zAP ao).1 _ _ cc]at b2;have n0:(0:Int)≤(i:Int):=by omega
 have n1:(i:Int)<m:=by omega
 clear bj av ag hq;rcases hic:C.isC ch with _|_
 · have b3:=hy' (zLt (acc:=acc) (b:=ch+1) hic);have a6:=hy' hic;clear hic;go_wp2_with (go_at_call 39;refine (zBq _ _).mono ?_;rw[a6.o];rintro e w' ⟨rfl,rfl⟩);refine⟨⟨i+1,acc,by omega,by go_num,by rw[bc.o,b3.o],by rw[HQ.o];omega,by rw[HQ.o];exact ae,ao⟩,by simp[intOf];omega⟩
 have cd:0≤ch∧ch≤1114111:=by simp[C.isC]at hic;omega
 obtain⟨ck,cj⟩:=cd;have a6:=hy' hic;rcases YP q with hz|hz
 · subst hz;have ap:=hy' (zJz (p:=C.isC) (acc:=acc) (b:=ch+1) hic (by rw[ZD HQ.o];simp));clear hic;have hZ:=hy' (zCa (w:=uu.alloc (.cells #[.int .i32 ch,.int .i32 (ch+1)] 21)) (A:=some ⟨uu.heap.size,0,none⟩) (xs:=[.int .i32 ch,.int .i32 (ch+1)]) rfl 21 (0,0) (ZV uu _));have aa:=hy' (zA4 ae ((Zc _ _).alloc (Za _) (.cells #[.int .i32 ch,.int .i32 (ch+1)] 21)) (Za _));have bk:w3.heap.size≤(uu.alloc (.cells #[.int .i32 ch,.int .i32 (ch+1)] 21)).heap.size:=by simp;omega
   have ar:w3.heap.size≤uu.heap.size:=bt;go_wp2_with (first|(go_at_call 39;refine (zBq _ _).mono ?_;rw[a6.o];rintro e w' ⟨rfl,rfl⟩)|(at_builtin;refine zAd _ rfl _ _ _ rfl w3.heap.size 21 j0 _ 1 4 underlying80 hj0 bo bq bp rfl (by omega) _ 0 _ rfl aa.out _ (some ⟨uu.heap.size,0,none⟩) 2 2 [.int .i32 ch,.int .i32 (ch+1)] rfl rfl hZ.out (by simp[Value.oneCell']) (by simp only[maxLen];omega) (by omega) bk ?_;intro v1 w5 af ak a1));refine⟨⟨i+1,acc++[ch,ch+1],by omega,by go_num,by rw[bc.o,ap.o],by rw[Zd,HQ.o];simp;omega,?_,(ao.alloc ar _).trans ak⟩,by simp[intOf];omega⟩;rw[Zd,HQ.o,ZO];exact af
 obtain⟨k,rfl⟩:∃k,q=k+1:=⟨q-1,by omega⟩;obtain⟨e0,a8⟩:∃e0,acc[k]?=some e0:=⟨_,Zb (by rw[HQ.o];omega)⟩;have ah:acc.getLast?=some e0:=by rw[QH,HQ.o];exact a8
 obtain⟨g7,o7,rfl,cn,b4,_⟩:=(Sl.of_own ae).ints a8;obtain⟨rfl,cp,cg,bu⟩:=zF9 ae;simp only[Z1]at b4;have cq:=bu k;have q0:(0:Int)≤(k:Int):=by omega
 have qb:(k:Int)≤1000000:=by omega
 have b1:=hy' a8;have a7:=hy' ah;clear bu a8 ah
 by_cases hea:e0=ch
 · subst hea;have b9:=hy' (C.step_last (b:=e0+1) hic HQ.o b1.o);have ay:=zN4 ae (j:=k) (by rw[Ze,HQ.o];omega) (.int .i32 (e0+1));have bh:=hy' ay;clear hic ay;go_wp2_with (go_at_call 39;refine (zBq _ _).mono ?_;rw[a6.o];rintro e w' ⟨rfl,rfl⟩);refine⟨⟨i+1,acc.set k (e0+1),by omega,by go_num,by rw[bc.o,b9.o],by rw[Y3,HQ.o];omega,?_,ao.setCell (by show w3.heap.size≤g7;omega) _⟩,by simp[intOf];omega⟩;rw[Y3,HQ.o,Qz];exact bh.o
 have hd:(e0 == ch)=false:=by simp;exact hea
 have ap:=hy' (zJz (p:=C.isC) (acc:=acc) (b:=ch+1) hic (by rw[a7.o];intro h;exact hea (by simpa using h)));clear hic;have hZ:=hy' (zCa (w:=uu.alloc (.cells #[.int .i32 ch,.int .i32 (ch+1)] 21)) (A:=some ⟨uu.heap.size,0,none⟩) (xs:=[.int .i32 ch,.int .i32 (ch+1)]) rfl 21 (0,0) (ZV uu _));have aa:=hy' (zA4 ae ((Zc _ _).alloc (Za _) (.cells #[.int .i32 ch,.int .i32 (ch+1)] 21)) (Za _));have bk:w3.heap.size≤(uu.alloc (.cells #[.int .i32 ch,.int .i32 (ch+1)] 21)).heap.size:=by simp;omega
 have ar:w3.heap.size≤uu.heap.size:=bt;go_wp2_with (first|(go_at_call 39;refine (zBq _ _).mono ?_;rw[a6.o];rintro e w' ⟨rfl,rfl⟩)|(at_builtin;refine zAd _ rfl _ _ _ rfl w3.heap.size 21 j0 _ 1 4 underlying80 hj0 bo bq bp rfl (by omega) _ (k+1) _ rfl aa.out _ (some ⟨uu.heap.size,0,none⟩) 2 2 [.int .i32 ch,.int .i32 (ch+1)] rfl rfl hZ.out (by simp[Value.oneCell']) (by simp only[maxLen];omega) (by omega) bk ?_;intro v1 w5 af ak a1));refine⟨⟨i+1,acc++[ch,ch+1],by omega,by go_num,by rw[bc.o,ap.o],by rw[Zd,HQ.o];simp;omega,?_,(ao.alloc ar _).trans ak⟩,by simp[intOf];omega⟩;rw[Zd,HQ.o,ZO];exact af
theorem zIG {P:Program} {fn:Func} {p:Tmp} {ty:TypeId} (h:fn.results = #[.cell p ty]) (tmps:Array Value) (w:World) (g:Nat) (t:TypeId) (cs:Array Value) (fr:Nat × Nat) (d:TypeDesc)
 (hp:tmps.getD p undef=.pointer (some ⟨g,0,none⟩)) (hg:w.heap[g]?=some (.cells cs t fr))
 (hu:P.underlying ty=some d) (hd:(match d with | .struct _ | .array _ _=>true|_=>false)=true) (hi:(P.info? ty).map (·.size)=some cs.size) :
 (results fn tmps).run P w=.ok (.agg cs) w:=by
 have aa:tmps[p]?.getD undef=.pointer (some ⟨g,0,none⟩):=by simpa using hp
 simp[results,h,aa,asAddr,X3 w g t ty cs fr d hg hu hd hi]
def Rw.RetOwn (c k:Int) (m:List Int) (w:World) (e:Ending) (w':World):Prop :=
 ∃A n cp,e=.returned (.agg #[.int .i32 c,.int .i64 k,.slice A n cp])∧m.length=n∧Slt w' 21 A (m.map (Value.int .i32))∧Below w.heap.size w w'
theorem zJU {P:Program} {ops:Array Oper} {o:Oper} {a:Act} {K:Act→World→Prop} {Q:Exit→Act→World→Prop} {E:Prop} (w:World) (ae:o.guard=none) (f:FuncId) (x:Operand) (ts:Array TypeId)
 (ho:o.op=.call { callee:=.value (.func f),args := #[x],argTypes:=ts }) (entry:∀args w,(callFunc f args).run P w=.ok (.enter f args) w) (u:Value) (hv:a.eval x=u)
 (v:Value) (hC:Calls P f #[u] w fun e w'=>e=.returned v∧w=w') (h:K (a.put o.dst v) w) :
 if Region.wanted o (yielded ops a.tmps)=true then Oper.wp P o a w K Q else E:=by
 have hw:Region.wanted o (yielded ops a.tmps)=true:=by simp[Region.wanted,ae]
 rw[Zl hw]
 have aa:(execOp a.eval o).run P w=.ok (.enter f #[u]) w:=by
  have hf:a.eval (.func f)=.func (.func f) #[] #[]:=rfl;unfold execOp;subst hv;simp[ho,resolve,invoke,go_sem,entry,hf]
 unfold Oper.wp;rw[aa,Oper.upon_enter];refine hC.mono ?_;rintro e w' ⟨rfl,rfl⟩;exact h
theorem infoRow:(prog.info? 109).map (fun i=>(i.zero,i.size,i.bytes))=some (some (.agg #[.int .i32 0,.int .i64 0,.slice none 0 0]),3,40):=by kernel_rfl
end
end Go.Proofs.YthngjlllojiacaaGreatDoor
