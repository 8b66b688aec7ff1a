/- Pages: New, by walking its text. -/
import Derived.Test.YtjakbblocbicjaaGreatDoorPgReg
import Derived.Lib.SlicesS
import Derived.RangeFuncCalls
import Derived.Test.YtjakbblocbicjaaGreatDoorMdRef4
set_option maxRecDepth 1000000
set_option maxHeartbeats 4000000
set_option linter.unusedVariables false
set_option linter.unusedSimpArgs false
namespace Go.Proofs.YtjakbblocbicjaaGreatDoor
open Go.Proofs.Tryz
section
open Go.RowKit
theorem zMm (A:Option Addr) (n c:Nat) (L:List (Int × Int)) (w:World) (hn:L.length=n) (ez:zGW L) (hs:Sl w w.heap.size A (Pg.fl L)) (ft:n≤maxLen) :
 Calls prog 131 #[.slice A n c] w fun e w'=>∃v,e=.returned v∧zSA w.heap.size w' v (Pg.last L)∧Below w.heap.size w w':=by
 have ee:=@Jr prog;have ak:=Pg.St.made w w.heap.size (w.alloc (.map #[] 0)).heap.size;have dk:Below w.heap.size w (w.alloc (.map #[] 0)):=(Zc _ _).alloc (Za _) _;obtain⟨w1,dh⟩:∃w1,w.alloc (.map #[] 0)=w1:=⟨_,rfl⟩;rw[dh]at ak dk;have ey:w1.heap.size=w.heap.size+1:=by rw[←dh];simp
 have fo:=hy' dh;have eu:=hy' ak;have e6:=hy' dk;have HS:=hy' hs;have HN:=hy' hn;have ct:=hy' ez;have gh:=hy' ey;simp only[maxLen]at ft;clear dh ak dk hs hn ez ey;go_enter func131,ntmps131;go_upto_region 2 with (fail)
 rw[fo.o];clear ee;go_wp2_with fail;go_loopw [16] (fun i wr=>∃(k:Nat) (G:Nat→Option Nat),k≤n∧i=.int .i64 k∧Pg.St w.heap.size wr.heap.size wr w.heap.size (Pg.last (L.take k)) G∧Below w.heap.size w wr) (fun i _=>n-(intOf i).toNat)
 case atStart=>exact⟨0,_,ZF _,rfl,eu.o,e6.o⟩
 obtain⟨k,G,hk,rfl,ak,ah⟩:=hrel
 by_cases hlt:k<n
 · obtain⟨x,hx⟩:∃x,L[k]?=some x:=⟨_,Zb (by rw[HN.o];exact hlt)⟩;have ei:=ct.o x (Zj hx);obtain⟨b,o,rfl,hb,dw⟩:=(HS.o.below ah ah.size) (by rw[Pg.fl_len,HN.o];omega);have c0:=dw (k*2) (by rw[Pg.fl_len,HN.o];omega);have c1:=dw (k*2+1) (by rw[Pg.fl_len,HN.o];omega);rw[(Pg.fl_get L k x hx).1]at c0;rw[(Pg.fl_get L k x hx).2,←Yn]at c1;have ek:L.take (k+1)=L.take k++[x]:=by rw[ZA,hx];rfl
   have dr:=hy' ek;have gi:(k:Int)<n:=by omega
   have fy:(0:Int)≤k:=by omega
   have dt:Below wr.heap.size wr (wr.alloc (.cells #[.int .i32 x.1,.int .u16 x.2] 206)):=(Zc _ _).alloc (Za _) _;have cx:=Rw.At.new wr 206 [.int .i32 x.1,.int .u16 x.2];have c7:=ak.below dt ak.lt (Za _);have bx:=ah.trans (dt.mono ah.size);have a6:=hy' c7;have ae:=hy' bx;have bb:=hy' cx;have hmb:=ak.lt;have cj:(wr.alloc (.cells #[.int .i32 x.1,.int .u16 x.2] 206)).heap.size=wr.heap.size+1:=by simp
   have a8:=hy' cj;have hI:=Pg.in_any x.1 (wr.alloc (.cells #[.int .i32 x.1,.int .u16 x.2] 206));have gb:=hy' ei;clear hx dw ek ak ah dt cx c7 bx cj ei;obtain⟨x1,x2⟩:=x;dsimp only at *
   by_cases hc:0≤x1∧x1≤1114111
   rotate_left
   · rw[Zq hc]at hI;have HI:=hy' hI;have b2:∀m,m<4352→zA9 (Pg.last (L.take (k+1))) m=zA9 (Pg.last (L.take k)) m:=fun m hm=>by rw[dr.o];exact zNl _ _ (Zq hc) hm
     have cu:=hy' b2;clear hI b2;go_wp2_with fail;refine HI.o.mono ?_;rintro e w5 ⟨rfl,rfl⟩;go_wp2_with fail;exact⟨⟨k+1,G,by omega,by go_num,(a6.o.more (by rw[a8.o];omega)).turn cu.o,ae.o⟩,by simp[intOf];omega⟩
   rw[Zp hc]at hI;have HI:=hy' hI;obtain⟨N,hN⟩:∃N:Nat,x1/256=N:=⟨(x1/256).toNat,by omega⟩;obtain⟨M,hM⟩:∃M:Nat,x1%256=M:=⟨(x1%256).toNat,by omega⟩;have b1:N<4352:=by omega
   have ej:M<256:=by omega
   have hand:=Pg.and_8 x1 hc.1 hc.2;rw[hM]at hand;have bt:Hy (zA9 (Pg.last (L.take (k+1))) N=(zA9 (Pg.last (L.take k)) N).set M x2):=hy' (by rw[dr.o];exact zPe _ _ hN hM);have bm:Hy (∀m,m≠N→zA9 (Pg.last (L.take (k+1))) m=zA9 (Pg.last (L.take k)) m):=hy' (fun m hm=>by rw[dr.o];exact zLU _ _ hN hm);have gf:(M:Int)<256:=by omega
   have fz:(0:Int)≤M:=by omega
   have HM:=hy' hM;clear hI hM;obtain⟨wa,ed⟩:∃wa,wr.alloc (.cells #[.int .i32 x1,.int .u16 x2] 206)=wa:=⟨_,rfl⟩;rw[ed]at a6 ae bb a8 HI;have e8:=hy' ed;clear ed;go_upto_region 5 with (fail)
   rw[e8.o];clear c0 c1;have c0:=bb.o.cell 0 rfl;have c1:=bb.o.cell 1 rfl;have hq:=bb.o.lt;go_wp2_with fail;refine HI.o.mono ?_;rintro e w5 ⟨rfl,rfl⟩;have aw:=a6.o.look b1;rcases hG:G N with _|g
   · rw[hG]at aw;replace aw:(Instr.lookup 248 (.map (some w.heap.size)) (.int .i32 N) false).run prog wa=.ok (.pointer none) wa:=aw;obtain⟨wb,G',ba,cr,e4,di⟩:=a6.o.put b1 hG (by rw[a8.o];exact Zh (ae.o.size) (by rw[a8.o];exact Za _)) (by rw[a8.o];omega)
     have e3:=(bb.o.alloc (.cells (Pg.vs zAj).toArray 174)).grown di (by
      intro e;have e:=Yg e;omega)
     have fe:=hy' di;have dz:=hy' cr;have fc:=hy' e4;have fu:=hy' e3;clear cr di e3 e4 hG;go_upto_region 9 with (first|(refine zBf rfl _ (zEb 174 rfl _ (zNE _)) ?_)|fail)
     have az:=dz;have b9:=fc;have b7:=fu;have bk:Hy (Below w.heap.size w wb):=hy' ((ae.o.alloc (ae.o.size) (.cells (Pg.vs zAj).toArray 174)).trans (zAf fe.o (by simp;have:=ae.o.size;omega) fun q hq=>by cases hq;exact Za _));clear ba hmb
     have ao:(Instr.lookup 248 (.map (some w.heap.size)) (.int .i32 N) false).run prog wb.drew=.ok (.pointer (some ⟨wa.heap.size,0,none⟩)) wb.drew:=by
      have:=Pg.St.look (W:=wb.drew) az.o b1;rw[b9.o]at this;exact this
     obtain⟨dp,fh,af⟩:=az.o.at b1 b9.o;have ew:=af.lt;obtain⟨y,hy⟩:∃y,(Pg.vs (zA9 (Pg.last (L.take k)) N))[M]?=some y:=⟨_,List.getElem?_eq_getElem (by unfold Pg.vs;rw[List.length_map,zBj];exact ej)⟩;have e0:=af.cell M hy;have e1:=af.frozen M;have d0:=b7.o.cell 0 rfl;have d1:=b7.o.cell 1 rfl;have cg:=b7.o.lt;have b6:=hy' af;clear aw af hy c0 c1;go_region;go_wp2_with fail;exact⟨⟨k+1,_,by omega,by go_num,(az.o.store (hi:=_) b1 b9.o x2 bt.o bm.o).more (by simp[ZP]),(bk.o.setCell (p:=⟨wa.heap.size,M,none⟩) dp _).drew⟩,by simp[intOf];omega⟩
   rw[hG]at aw;replace aw:(Instr.lookup 248 (.map (some w.heap.size)) (.int .i32 N) false).run prog wa=.ok (.pointer (some ⟨g,0,none⟩)) wa:=aw;have az:=a6;have b9:=hy' hG;have b7:=bb;have bk:=ae;clear hG;go_upto_region 9 with (fail)
   have ao:(Instr.lookup 248 (.map (some w.heap.size)) (.int .i32 N) false).run prog wa.drew=.ok (.pointer (some ⟨g,0,none⟩)) wa.drew:=by
    have:=Pg.St.look (W:=wa.drew) az.o b1;rw[b9.o]at this;exact this
   obtain⟨dp,fh,af⟩:=az.o.at b1 b9.o;have ew:=af.lt;obtain⟨y,hy⟩:∃y,(Pg.vs (zA9 (Pg.last (L.take k)) N))[M]?=some y:=⟨_,List.getElem?_eq_getElem (by unfold Pg.vs;rw[List.length_map,zBj];exact ej)⟩;have e0:=af.cell M hy;have e1:=af.frozen M;have d0:=b7.o.cell 0 rfl;have d1:=b7.o.cell 1 rfl;have cg:=b7.o.lt;have b6:=hy' af;clear aw af hy c0 c1 hq;go_region;go_wp2_with fail;exact⟨⟨k+1,_,by omega,by go_num,(az.o.store (hi:=_) b1 b9.o x2 bt.o bm.o).more (by have:=a8.o;simp[ZP];omega),(bk.o.setCell (p:=⟨g,M,none⟩) dp _).drew⟩,by simp[intOf];omega⟩
 obtain rfl:n=k:=by omega
 rw[Zi (by rw[HN.o];exact Za _)]at ak;obtain⟨w2,rfl⟩:∃w2:World,w2=wr:=⟨_,rfl⟩;obtain⟨f,hf⟩:∃f,Pg.last L=f:=⟨_,rfl⟩;rw[hf]at ak;have cm:∀m,Pg.u16 (zA9 f m):=fun m=>by rw[←hf];exact zPi (fun x hx=>(ct.o x hx).2.2) m
 have HF:=hy' hf;have HU:=hy' cm;have a6:=hy' ak;have ae:=hy' ah;have hmb:=ak.lt;have ec:=zQE w2 zAj Ql;obtain⟨w3,cd⟩:∃w3,w2.alloc (.cells (Pg.vs zAj).toArray 174)=w3:=⟨_,rfl⟩
 have bz:w3.ownsRow w2.heap.size 174 256 (.slice (some ⟨w2.heap.size,0,none⟩) 1 1) 1 (Pg.vs zAj):=by
  rw[←cd];exact⟨by unfold Pg.vs zAj;simp,.inr ⟨_,1,(Pg.vs zAj).toArray,rfl,Nat.le_refl _,heap_alloc_new w2 _,Nat.le_refl _,by decide,by unfold Pg.vs zAj;simp,by unfold Pg.vs zAj;simp⟩⟩
 have eb:Below w2.heap.size w2 w3:=by rw[←cd];exact (Zc _ _).alloc (Za _) _
 have fq:w3.heap.size=w2.heap.size+1:=by rw[←cd];simp
 rw[cd]at ec;obtain⟨arr,cb⟩:∃arr,(Pg.vs (List.replicate 4352 0)++[Value.slice (some ⟨w2.heap.size,0,none⟩) 1 1]).toArray=arr:=⟨_,rfl⟩;have ef:=zS9 w3 ⟨w2.heap.size,0,none⟩;rw[cb]at ef;obtain⟨w4,cv⟩:∃w4,w3.alloc (.cells arr 178)=w4:=⟨_,rfl⟩
 have ck:Rw.At w4 w3.heap.size 178 (Pg.vs (zAL f 0)++[.slice (some ⟨w2.heap.size,0,none⟩) 1 1]):=by
  rw[←cv,←cb];exact Rw.At.new w3 178 _
 have du:Below w3.heap.size w3 w4:=by rw[←cv];exact (Zc _ _).alloc (Za _) _
 have fw:w4.heap.size=w3.heap.size+1:=by rw[←cv];simp
 obtain⟨w6,ba,cy,cf⟩:=Pg.Pl.made w4 0;have dy:Below w4.heap.size w4 w6:=((Zc _ _).alloc (Za _) _).trans (zAf cf (by simp) fun q hq=>by cases hq;exact Za _);have b8:Below w3.heap.size w3 w6:=du.trans (dy.mono du.size);have cc:Below w2.heap.size w2 w6:=eb.trans (b8.mono eb.size);have cq:=hy' (ak.below cc hmb (Za _));have cp:=hy' (ck.below dy);have b3:=hy' (zA4 bz b8 (Za _));have cw:=hy' cy;have eh:=hy' (ae.o.trans (cc.mono ae.o.size));have fm:=hy' cd;have et:=hy' cv;have ag:Hy (w2.heap.size<w3.heap.size∧w3.heap.size<w4.heap.size∧w.heap.size<w2.heap.size):=hy' ⟨by omega,by omega,hmb⟩;have ee:=@Jr prog;clear ak ah hf cm bz eb cb ck du cy cf dy b8 cc cd cv hlt fq fw hmb;go_upto_region 11 with (fail)
 go_step;refine zBf rfl _ (zEb 174 rfl _ (zNE _)) ?_;refine zBf rfl _ (zCo 176 1 0 _ rfl (.agg (Pg.vs zAj).toArray) rfl _ ec) ?_;refine zBf rfl _ (zJu 178 1 _ rfl (.slice (some ⟨w2.heap.size,0,none⟩) 1 1) rfl _ ef) ?_;clear ec ef;go_upto_region 12 with (fail)
 rw[et.o];go_upto_region 13 with (first|(refine zBf rfl _ (zEb 174 rfl _ (zNE _)) ?_)|fail)
 clear ee ba fm et;have fp:Hy (zAm f 0=[zAj]):=hy' rfl;go_wp2_with fail;go_loopw [53] (fun i wr=>∃(m:Nat) (v:Value),m≤4352∧i=.int .i64 m∧Pg.St w.heap.size w2.heap.size wr w.heap.size f G∧Pg.Pl wr w4.heap.size (zAm f m)∧Rw.At wr w3.heap.size 178 (Pg.vs (zAL f m)++[v])∧wr.ownsRow w2.heap.size 174 256 v (zAm f m).length (Pg.vs (zAm f m).flatten)∧Below w.heap.size w wr) (fun i _=>4352-(intOf i).toNat)
 case atStart=>exact⟨0,_,Nat.zero_le _,rfl,cq.o,cw.o,cp.o,by rw[fp.o];simpa using b3.o,eh.o⟩
 obtain⟨m,v,hm,rfl,ak,ea,cn,bl,ah⟩:=hrel;clear eu e6 HS a6 ae cq cw cp b3 eh
 by_cases hlt:m<4352
 rotate_left
 · obtain rfl:m=4352:=by omega
   obtain⟨A2,c2,rfl⟩:=zA3 bl;have bo:=hy' cn;have ai:=hy' bl;have ay:=hy' ah;clear ak ea cn bl ah hlt;go_wp2_with fail;go_ret;refine⟨_,rfl,?_,ay.o⟩;rw[HF.o];refine⟨w3.heap.size,A2,c2,rfl,by have:=ag.o;omega,?_,Sl.of_own ai.o,fun a ha=>?_⟩
   · have:=bo.o;rw[zNn]at this;exact this
   subst ha;have:=(ai.o.lt a.block rfl).1;have:=ag.o;omega
 have mI:(m:Int)<4352:=by omega
 have m0:(0:Int)≤m:=by omega
 have e9:IntKind.i32.wrap (m:Int)=m:=by rw[XR];omega
 have aw:=ak.look hlt;have av:=hy' ak;have ch:=hy' ea;have bo:=hy' cn;have ai:=hy' bl;have ay:=hy' ah;have fj:=cn.lt;have dl:=zGO f m;clear ak ea cn bl ah;rcases hG:G m with _|g
 · rw[hG]at aw;replace aw:(Instr.lookup 248 (.map (some w.heap.size)) (.int .i32 m) false).run prog wr=.ok (.pointer none) wr:=aw;obtain⟨s1,s2⟩:=zLX f hlt (av.o.none hlt hG);have S1:=hy' s1;have S2:=hy' s2;clear s1 s2 hG;go_wp2_with fail;exact⟨⟨m+1,v,by omega,by go_num,av.o,by rw[S1.o];exact ch.o,by rw[S2.o];exact bo.o,by rw[S1.o];exact ai.o,ay.o⟩,by simp[intOf];omega⟩
 rw[hG]at aw;replace aw:(Instr.lookup 248 (.map (some w.heap.size)) (.int .i32 m) false).run prog wr=.ok (.pointer (some ⟨g,0,none⟩)) wr:=aw;have af:=(av.o.at hlt hG).2.2;have ew:=af.lt;have fk:=(av.o.at hlt hG).2.1;have e5:=hy' (Pg.At.load af (zBj f m));have b6:=hy' af;have ao:=ch.o.look (HU.o m);have aq:Hy (zAm f (m+1)=Pg.add (zAm f m) (zA9 f m)):=hy' rfl;have bp:=hy' (zIB f hlt);obtain⟨eg,hold⟩:∃eg,(Pg.vs (zAL f m))[m]?=some eg:=⟨_,List.getElem?_eq_getElem (by unfold Pg.vs;rw[List.length_map,zAM f (by omega)];exact hlt)⟩;have HOLD:=hy' hold;clear hG af hold
 by_cases hmem:zA9 f m∈zAm f m
 · have au:=hy' (zHm hmem);have bi:zCB (zAm f m) (zA9 f m)=some (Pg.at (zAm f m) (zA9 f m)):=Zm hmem;have cg:=zOu hmem;have a1:Hy (Pg.at (zAm f (m+1)) (zA9 f m)=Pg.at (zAm f m) (zA9 f m)):=hy' (by rw[aq.o,au.o]);obtain⟨q,hq⟩:∃q,Pg.at (zAm f m) (zA9 f m)=q:=⟨_,rfl⟩;rw[bi,hq]at ao;rw[hq]at cg a1;replace ao:(Instr.lookup 250 (.map (some w4.heap.size)) (.agg (Pg.vs (zA9 f m)).toArray) true).run prog wr=.ok (.tuple #[.int .i64 q,.bool true]) wr:=ao;have fg:IntKind.u16.wrap (q:Int)=q:=by rw[Qo];omega
   have z0:=zDC bo.o HOLD.o;have z1:=bo.o.frozen m;have fx:=hy' cg;clear hmem bi hq cg;go_wp2_with (first|(refine zFz rfl 174 _ rfl _ _ rfl e5.o ?_)|fail);have hb:Below w2.heap.size wr (wr.setCell ⟨w3.heap.size,m,none⟩ (.int .u16 q)):=(Zc _ _).setCell (p:=⟨w3.heap.size,m,none⟩) (Z5 ag.o.1) _;refine⟨⟨m+1,v,by omega,by go_num,av.o.below hb ag.o.2.2 (Za _),?_,?_,?_,ay.o.trans (hb.mono (Z5 ag.o.2.2))⟩,by simp[intOf];omega⟩
   · rw[aq.o,au.o];exact ch.o.grown (Rw.grown_set w3.heap.size m _) (by have:=ag.o.2.1;simp;omega)
   · rw[bp.o,a1.o];have:=bo.o.set m (.int .u16 q);rw[List.set_append_left _ _ (by unfold Pg.vs;rw[List.length_map,zAM f (by omega)];exact hlt)]at this;rw[show Pg.vs ((zAL f m).set m (q:Int))=(Pg.vs (zAL f m)).set m (.int .u16 q) by unfold Pg.vs;rw[List.map_set]];exact this
   rw[aq.o,au.o];refine ai.o.kept (Rw.grown_set w3.heap.size m _) (.inr fun e=>?_);exact zAB ai.o (by decide) _ e _ _ bo.o
 have au:=hy' (zPf hmem);have bi:zCB (zAm f m) (zA9 f m)=none:=Zk hmem;have a1:Hy (Pg.at (zAm f (m+1)) (zA9 f m)=(zAm f m).length):=hy' (by rw[aq.o,au.o];unfold Pg.at;rw[List.idxOf_append,if_neg hmem];simp);have eo:=hy' hmem;rw[bi]at ao;obtain⟨A2,c2,rfl⟩:=zA3 ai.o;obtain⟨ln,dc⟩:∃ln,(zAm f m).length=ln:=⟨_,rfl⟩;rw[dc]at ai a1 dl bo;replace ao:(Instr.lookup 250 (.map (some w4.heap.size)) (.agg (Pg.vs (zA9 f m)).toArray) true).run prog wr=.ok (.tuple #[.int .i64 0,.bool false]) wr:=ao;obtain⟨w5,ba,bs,bq⟩:=ch.o.put (HU.o m) hmem;rw[dc]at ba;rw[←aq.o]at bs;have z1:=zCs bo.o (n:=4352) (by unfold Pg.vs;rw[List.length_map,zAM f (by omega)]);have dv:Below w2.heap.size wr w5:=zAf bq (by have:=ag.o.1;omega) fun q hq=>by cases hq;have:=ag.o;omega
 have bw:some w4.heap.size≠some w3.heap.size:=by have:=ag.o.2.1;simp;omega
 have ax:=bo.o.grown bq bw;have ap:=ai.o.kept bq (.inr (zGt ai.o ch.o));have bu:=b6.o.below' dv fk;have bg:=Pg.At.load (w:=w5.drew) bu (zBj f m);have bf:=zQE w5.drew (zA9 f m) (zBj f m);have e7:=ax.lt;obtain⟨v8,w8,a7,bh,br⟩:=zNF w2.heap.size w5.drew _ ln _ (zA9 f m) (zBj f m) ap (by have:=ag.o.1;show w2.heap.size≤w5.heap.size;omega) (by omega) 176;obtain⟨A8,c8,rfl⟩:=zA3 bh;have en:(Value.slice A2 ln c2).ownBlock≠some w3.heap.size:=fun e=>zAB ap (by decide) _ e _ _ ax
 have bj:=Rw.At.grown (w:=w5.drew) ax br en;have ep:Below w2.heap.size wr w8:=dv.drew.trans (zAf (w:=w5.drew) br (by have:=ag.o.1;show w2.heap.size≤w5.heap.size;omega) fun q hq=>(ap.lt q hq).1);have d0:=zCs ax (n:=4352) (by unfold Pg.vs;rw[List.length_map,zAM f (by omega)]);have dm:=ax.alloc (.cells (Pg.vs (zA9 f m)).toArray 174);have cz:=zHD w5.drew w3.heap.size 4352 (.slice A2 ln c2) d0;have df:=zHD (w5.drew.alloc (.cells (Pg.vs (zA9 f m)).toArray 174)) w3.heap.size 4352 (.slice A2 ln c2) (zCs (Rw.At.alloc (w:=w5.drew) ax _) (n:=4352) (by unfold Pg.vs;rw[List.length_map,zAM f (by omega)]));have f0:=zCs bj (n:=4352) (by unfold Pg.vs;rw[List.length_map,zAM f (by omega)]);have f1:=bj.frozen 4352;have c6:=Pg.Pl.grown (W:=w5.drew) bs br (fun e=>zGt ap bs e.symm);have bc:=hy' bj;have aj:=hy' bh;have b5:=hy' c6;have dx:=hy' ep;have dn:=hy' dc;have fg:IntKind.u16.wrap (ln:Int)=ln:=by rw[Qo];omega
 have gg:=(bj.set 4352 (.slice A8 (ln+1) c8));clear hmem bi bs bq dv ax ap bu dm bh br ep bj c6 dc en bw;go_upto_region 22 with (first|(refine zFz rfl 174 _ rfl _ _ rfl e5.o ?_)|fail)
 clear aw ao ba z1;refine JH (by kernel_rfl) ?_;change wpAny _ _ _ _ 13 _ _ (World.drew _)
 with_reducible refine Pg.take 0 (.move (.tmp 7)) (some 82) (88) (.pointer (some ⟨w3.heap.size,0,none⟩)) (by kernel_rfl) (by kernel_rfl) (by kernel_rfl) (by kernel_rfl) (by intro _ _ _ h;with_unfolding_all exact h) (fun o h w=>zEO _ h _ (by kernel_rfl)) ?_
 with_reducible refine Pg.take 1 (.move (.tmp 7)) (some 83) (88) (.pointer (some ⟨w3.heap.size,0,none⟩)) (by kernel_rfl) (by kernel_rfl) (by kernel_rfl) (by kernel_rfl) (by intro _ _ _ h;with_unfolding_all exact h) (fun o h w=>zEO _ h _ (by kernel_rfl)) ?_
 with_reducible refine Pg.take 2 (.nilCheck (.tmp 83)) (some 84) (0) (.pointer (some ⟨w3.heap.size,0,none⟩)) (by kernel_rfl) (by kernel_rfl) (by kernel_rfl) (by kernel_rfl) (by intro _ _ _ h;with_unfolding_all exact h) (fun o h w=>zD1 _ h _ (by kernel_rfl)) ?_
 with_reducible refine Pg.take 3 (.fieldAddr 178 (.tmp 84) 1) (some 85) (0) (.pointer (some ⟨w3.heap.size,4352,none⟩)) (by kernel_rfl) (by kernel_rfl) (by kernel_rfl) (by kernel_rfl) (by intro _ _ _ h;with_unfolding_all exact h) (fun o h w=>zCE _ _ _ h (.pointer (some ⟨w3.heap.size,0,none⟩)) (by kernel_rfl) _ (zDn _ _)) ?_
 with_reducible refine Pg.take 5 (.move (.tmp 10)) (some 87) (249) (.pointer (some ⟨g,0,none⟩)) (by kernel_rfl) (by kernel_rfl) (by kernel_rfl) (by kernel_rfl) (by intro _ _ _ h;with_unfolding_all exact h) (fun o h w=>zEO _ h _ (by kernel_rfl)) ?_
 with_reducible refine Pg.take 6 (.nilCheck (.tmp 87)) (some 88) (0) (.pointer (some ⟨g,0,none⟩)) (by kernel_rfl) (by kernel_rfl) (by kernel_rfl) (by kernel_rfl) (by intro _ _ _ h;with_unfolding_all exact h) (fun o h w=>zD1 _ h _ (by kernel_rfl)) ?_
 refine Xh (rs:=[4,7]) (by kernel_rfl) (by simp) ?_
 with_reducible refine zBI (.load 176 (.tmp 85)) (some 86) (176) (.slice A2 ln c2) w5.drew (by kernel_rfl) (fun o h ht=>zCu _ _ h (.pointer (some ⟨w3.heap.size,4352,none⟩)) (by kernel_rfl) _ cz) ?_ ?_
 · refine Xh (rs:=[7]) (by kernel_rfl) (by simp) ?_
   with_reducible refine zBI (.load 174 (.tmp 88)) (some 89) (174) (.agg (Pg.vs (zA9 f m)).toArray) _ (by kernel_rfl) (fun o h ht=>zCu _ _ h (.pointer (some ⟨g,0,none⟩)) (by kernel_rfl) _ bg) ?_ ?_
   · refine Xh (rs:=[8]) (by kernel_rfl) (by simp) ?_
     with_reducible refine zBI (.buildSlice 176 1 #[(0,.tmp 89)]) (some 90) (176) (.slice (some ⟨w5.drew.heap.size,0,none⟩) 1 1) _ (by kernel_rfl) (fun o h ht=>zCo _ _ _ _ h (.agg (Pg.vs (zA9 f m)).toArray) (by kernel_rfl) _ bf) ?_ ?_
     · refine Xh (rs:=[9]) (by kernel_rfl) (by simp) ?_
       with_reducible refine zBI (.call { callee:=.builtin .append,args := #[.tmp 86,.tmp 90],argTypes := #[176,176] }) (some 91) (176) _ _ (by kernel_rfl) (fun o h ht=>zDv _ _ _ h (.slice A2 ln c2) (.slice (some ⟨w5.drew.heap.size,0,none⟩) 1 1) (by kernel_rfl) (by kernel_rfl) _ (by rw[ht];exact a7)) ?_ ?_
       · with_reducible refine Pg.take 10 (.nilCheck (.tmp 82)) (some 92) (0) (.pointer (some ⟨w3.heap.size,0,none⟩)) (by kernel_rfl) (by kernel_rfl) (by kernel_rfl) (by kernel_rfl) (by intro _ _ _ h;with_unfolding_all exact h) (fun o h w=>zD1 _ h _ (by kernel_rfl)) ?_
         with_reducible refine Pg.take 11 (.fieldAddr 178 (.tmp 92) 1) (some 93) (0) (.pointer (some ⟨w3.heap.size,4352,none⟩)) (by kernel_rfl) (by kernel_rfl) (by kernel_rfl) (by kernel_rfl) (by intro _ _ _ h;with_unfolding_all exact h) (fun o h w=>zCE _ _ _ h (.pointer (some ⟨w3.heap.size,0,none⟩)) (by kernel_rfl) _ (zDn _ _)) ?_
         refine Xh (rs:=[12]) (by kernel_rfl) (by simp) ?_
         with_reducible refine zH4 (.store 176 (.tmp 93) (.tmp 91)) _ (by kernel_rfl) (fun o h=>zEc _ _ _ h (.pointer (some ⟨w3.heap.size,4352,none⟩)) (.slice A8 (ln+1) c8) (by kernel_rfl) (by kernel_rfl) (zEd _ _ _ _ _ _ _ f0 f1)) ?_ ?_
         · refine Ki (by kernel_rfl) ?_ _
           have aa:Rw.At (w8.setCell ⟨w3.heap.size,4352,none⟩ (.slice A8 (ln+1) c8)) w3.heap.size 178 (Pg.vs (zAL f m)++[.slice A8 (ln+1) c8]):=by
            have hl:(Pg.vs (zAL f m)).length=4352:=by unfold Pg.vs;rw[List.length_map,zAM f (by omega)]
            have:=bc.o.set 4352 (.slice A8 (ln+1) c8);rw[Yz _ _ (by rw[hl];exact Za _),hl,Ym]at this;exact this
           have z0:=zDC aa HOLD.o;have z1:=aa.frozen m;have e2:=aa.lt;have bn:=hy' aa;clear aa f0 f1 bg bf cz df a7;go_wp2_with fail;have b4:Below w2.heap.size wr ((w8.setCell ⟨w3.heap.size,4352,none⟩ (.slice A8 (ln+1) c8)).setCell ⟨w3.heap.size,m,none⟩ (.int .u16 ln)):=(dx.o.setCell (p:=⟨w3.heap.size,4352,none⟩) (Z5 ag.o.1) _).setCell (p:=⟨w3.heap.size,m,none⟩) (Z5 ag.o.1) _;have ar:(Value.slice A8 (ln+1) c8).ownBlock≠some w3.heap.size:=fun e=>zAB aj.o (by decide) _ e _ _ bc.o
           refine⟨⟨m+1,.slice A8 (ln+1) c8,by omega,by go_num,av.o.below b4 ag.o.2.2 (Za _),?_,?_,?_,ay.o.trans (b4.mono (Z5 ag.o.2.2))⟩,by simp[intOf];omega⟩
           · exact (b5.o.grown (Rw.grown_set w3.heap.size 4352 _) (by have:=ag.o.2.1;simp;omega)).grown (Rw.grown_set w3.heap.size m _) (by have:=ag.o.2.1;simp;omega)
           · rw[bp.o,a1.o];have:=bn.o.set m (.int .u16 ln);rw[List.set_append_left _ _ (by unfold Pg.vs;rw[List.length_map,zAM f (by omega)];exact hlt)]at this;rw[show Pg.vs ((zAL f m).set m (ln:Int))=(Pg.vs (zAL f m)).set m (.int .u16 ln) by unfold Pg.vs;rw[List.map_set]];exact this
           rw[aq.o,au.o,List.length_append,dn.o,List.flatten_append,show Pg.vs ((zAm f m).flatten++[zA9 f m].flatten)=Pg.vs (zAm f m).flatten++Pg.vs (zA9 f m) by unfold Pg.vs;simp];exact (aj.o.kept (Rw.grown_set w3.heap.size 4352 _) (.inr ar)).kept (Rw.grown_set w3.heap.size m _) (.inr ar)
         exact Xa
       exact Xa
     exact Xa
   exact Xa
 with_reducible refine zBI (.load 174 (.tmp 88)) (some 89) (174) (.agg (Pg.vs (zA9 f m)).toArray) _ (by kernel_rfl) (fun o h ht=>zCu _ _ h (.pointer (some ⟨g,0,none⟩)) (by kernel_rfl) _ bg) ?_ ?_
 · refine Xh (rs:=[4,8]) (by kernel_rfl) (by simp) ?_
   with_reducible refine zBI (.load 176 (.tmp 85)) (some 86) (176) (.slice A2 ln c2) w5.drew (by kernel_rfl) (fun o h ht=>zCu _ _ h (.pointer (some ⟨w3.heap.size,4352,none⟩)) (by kernel_rfl) _ cz) ?_ ?_
   · refine Xh (rs:=[8]) (by kernel_rfl) (by simp) ?_
     with_reducible refine zBI (.buildSlice 176 1 #[(0,.tmp 89)]) (some 90) (176) (.slice (some ⟨w5.drew.heap.size,0,none⟩) 1 1) _ (by kernel_rfl) (fun o h ht=>zCo _ _ _ _ h (.agg (Pg.vs (zA9 f m)).toArray) (by kernel_rfl) _ bf) ?_ ?_
     · refine Xh (rs:=[9]) (by kernel_rfl) (by simp) ?_
       with_reducible refine zBI (.call { callee:=.builtin .append,args := #[.tmp 86,.tmp 90],argTypes := #[176,176] }) (some 91) (176) _ _ (by kernel_rfl) (fun o h ht=>zDv _ _ _ h (.slice A2 ln c2) (.slice (some ⟨w5.drew.heap.size,0,none⟩) 1 1) (by kernel_rfl) (by kernel_rfl) _ (by rw[ht];exact a7)) ?_ ?_
       · with_reducible refine Pg.take 10 (.nilCheck (.tmp 82)) (some 92) (0) (.pointer (some ⟨w3.heap.size,0,none⟩)) (by kernel_rfl) (by kernel_rfl) (by kernel_rfl) (by kernel_rfl) (by intro _ _ _ h;with_unfolding_all exact h) (fun o h w=>zD1 _ h _ (by kernel_rfl)) ?_
         with_reducible refine Pg.take 11 (.fieldAddr 178 (.tmp 92) 1) (some 93) (0) (.pointer (some ⟨w3.heap.size,4352,none⟩)) (by kernel_rfl) (by kernel_rfl) (by kernel_rfl) (by kernel_rfl) (by intro _ _ _ h;with_unfolding_all exact h) (fun o h w=>zCE _ _ _ h (.pointer (some ⟨w3.heap.size,0,none⟩)) (by kernel_rfl) _ (zDn _ _)) ?_
         refine Xh (rs:=[12]) (by kernel_rfl) (by simp) ?_
         with_reducible refine zH4 (.store 176 (.tmp 93) (.tmp 91)) _ (by kernel_rfl) (fun o h=>zEc _ _ _ h (.pointer (some ⟨w3.heap.size,4352,none⟩)) (.slice A8 (ln+1) c8) (by kernel_rfl) (by kernel_rfl) (zEd _ _ _ _ _ _ _ f0 f1)) ?_ ?_
         · refine Ki (by kernel_rfl) ?_ _
           have aa:Rw.At (w8.setCell ⟨w3.heap.size,4352,none⟩ (.slice A8 (ln+1) c8)) w3.heap.size 178 (Pg.vs (zAL f m)++[.slice A8 (ln+1) c8]):=by
            have hl:(Pg.vs (zAL f m)).length=4352:=by unfold Pg.vs;rw[List.length_map,zAM f (by omega)]
            have:=bc.o.set 4352 (.slice A8 (ln+1) c8);rw[Yz _ _ (by rw[hl];exact Za _),hl,Ym]at this;exact this
           have z0:=zDC aa HOLD.o;have z1:=aa.frozen m;have e2:=aa.lt;have bn:=hy' aa;clear aa f0 f1 bg bf cz df a7;go_wp2_with fail;have b4:Below w2.heap.size wr ((w8.setCell ⟨w3.heap.size,4352,none⟩ (.slice A8 (ln+1) c8)).setCell ⟨w3.heap.size,m,none⟩ (.int .u16 ln)):=(dx.o.setCell (p:=⟨w3.heap.size,4352,none⟩) (Z5 ag.o.1) _).setCell (p:=⟨w3.heap.size,m,none⟩) (Z5 ag.o.1) _;have ar:(Value.slice A8 (ln+1) c8).ownBlock≠some w3.heap.size:=fun e=>zAB aj.o (by decide) _ e _ _ bc.o
           refine⟨⟨m+1,.slice A8 (ln+1) c8,by omega,by go_num,av.o.below b4 ag.o.2.2 (Za _),?_,?_,?_,ay.o.trans (b4.mono (Z5 ag.o.2.2))⟩,by simp[intOf];omega⟩
           · exact (b5.o.grown (Rw.grown_set w3.heap.size 4352 _) (by have:=ag.o.2.1;simp;omega)).grown (Rw.grown_set w3.heap.size m _) (by have:=ag.o.2.1;simp;omega)
           · rw[bp.o,a1.o];have:=bn.o.set m (.int .u16 ln);rw[List.set_append_left _ _ (by unfold Pg.vs;rw[List.length_map,zAM f (by omega)];exact hlt)]at this;rw[show Pg.vs ((zAL f m).set m (ln:Int))=(Pg.vs (zAL f m)).set m (.int .u16 ln) by unfold Pg.vs;rw[List.map_set]];exact this
           rw[aq.o,au.o,List.length_append,dn.o,List.flatten_append,show Pg.vs ((zAm f m).flatten++[zA9 f m].flatten)=Pg.vs (zAm f m).flatten++Pg.vs (zA9 f m) by unfold Pg.vs;simp];exact (aj.o.kept (Rw.grown_set w3.heap.size 4352 _) (.inr ar)).kept (Rw.grown_set w3.heap.size m _) (.inr ar)
         exact Xa
       exact Xa
     exact Xa
   with_reducible refine zBI (.buildSlice 176 1 #[(0,.tmp 89)]) (some 90) (176) (.slice (some ⟨w5.drew.heap.size,0,none⟩) 1 1) _ (by kernel_rfl) (fun o h ht=>zCo _ _ _ _ h (.agg (Pg.vs (zA9 f m)).toArray) (by kernel_rfl) _ bf) ?_ ?_
   · refine Xh (rs:=[4]) (by kernel_rfl) (by simp) ?_
     with_reducible refine zBI (.load 176 (.tmp 85)) (some 86) (176) (.slice A2 ln c2) _ (by kernel_rfl) (fun o h ht=>zCu _ _ h (.pointer (some ⟨w3.heap.size,4352,none⟩)) (by kernel_rfl) _ df) ?_ ?_
     · refine Xh (rs:=[9]) (by kernel_rfl) (by simp) ?_
       with_reducible refine zBI (.call { callee:=.builtin .append,args := #[.tmp 86,.tmp 90],argTypes := #[176,176] }) (some 91) (176) _ _ (by kernel_rfl) (fun o h ht=>zDv _ _ _ h (.slice A2 ln c2) (.slice (some ⟨w5.drew.heap.size,0,none⟩) 1 1) (by kernel_rfl) (by kernel_rfl) _ (by rw[ht];exact a7)) ?_ ?_
       · with_reducible refine Pg.take 10 (.nilCheck (.tmp 82)) (some 92) (0) (.pointer (some ⟨w3.heap.size,0,none⟩)) (by kernel_rfl) (by kernel_rfl) (by kernel_rfl) (by kernel_rfl) (by intro _ _ _ h;with_unfolding_all exact h) (fun o h w=>zD1 _ h _ (by kernel_rfl)) ?_
         with_reducible refine Pg.take 11 (.fieldAddr 178 (.tmp 92) 1) (some 93) (0) (.pointer (some ⟨w3.heap.size,4352,none⟩)) (by kernel_rfl) (by kernel_rfl) (by kernel_rfl) (by kernel_rfl) (by intro _ _ _ h;with_unfolding_all exact h) (fun o h w=>zCE _ _ _ h (.pointer (some ⟨w3.heap.size,0,none⟩)) (by kernel_rfl) _ (zDn _ _)) ?_
         refine Xh (rs:=[12]) (by kernel_rfl) (by simp) ?_
         with_reducible refine zH4 (.store 176 (.tmp 93) (.tmp 91)) _ (by kernel_rfl) (fun o h=>zEc _ _ _ h (.pointer (some ⟨w3.heap.size,4352,none⟩)) (.slice A8 (ln+1) c8) (by kernel_rfl) (by kernel_rfl) (zEd _ _ _ _ _ _ _ f0 f1)) ?_ ?_
         · refine Ki (by kernel_rfl) ?_ _
           have aa:Rw.At (w8.setCell ⟨w3.heap.size,4352,none⟩ (.slice A8 (ln+1) c8)) w3.heap.size 178 (Pg.vs (zAL f m)++[.slice A8 (ln+1) c8]):=by
            have hl:(Pg.vs (zAL f m)).length=4352:=by unfold Pg.vs;rw[List.length_map,zAM f (by omega)]
            have:=bc.o.set 4352 (.slice A8 (ln+1) c8);rw[Yz _ _ (by rw[hl];exact Za _),hl,Ym]at this;exact this
           have z0:=zDC aa HOLD.o;have z1:=aa.frozen m;have e2:=aa.lt;have bn:=hy' aa;clear aa f0 f1 bg bf cz df a7;go_wp2_with fail;have b4:Below w2.heap.size wr ((w8.setCell ⟨w3.heap.size,4352,none⟩ (.slice A8 (ln+1) c8)).setCell ⟨w3.heap.size,m,none⟩ (.int .u16 ln)):=(dx.o.setCell (p:=⟨w3.heap.size,4352,none⟩) (Z5 ag.o.1) _).setCell (p:=⟨w3.heap.size,m,none⟩) (Z5 ag.o.1) _;have ar:(Value.slice A8 (ln+1) c8).ownBlock≠some w3.heap.size:=fun e=>zAB aj.o (by decide) _ e _ _ bc.o
           refine⟨⟨m+1,.slice A8 (ln+1) c8,by omega,by go_num,av.o.below b4 ag.o.2.2 (Za _),?_,?_,?_,ay.o.trans (b4.mono (Z5 ag.o.2.2))⟩,by simp[intOf];omega⟩
           · exact (b5.o.grown (Rw.grown_set w3.heap.size 4352 _) (by have:=ag.o.2.1;simp;omega)).grown (Rw.grown_set w3.heap.size m _) (by have:=ag.o.2.1;simp;omega)
           · rw[bp.o,a1.o];have:=bn.o.set m (.int .u16 ln);rw[List.set_append_left _ _ (by unfold Pg.vs;rw[List.length_map,zAM f (by omega)];exact hlt)]at this;rw[show Pg.vs ((zAL f m).set m (ln:Int))=(Pg.vs (zAL f m)).set m (.int .u16 ln) by unfold Pg.vs;rw[List.map_set]];exact this
           rw[aq.o,au.o,List.length_append,dn.o,List.flatten_append,show Pg.vs ((zAm f m).flatten++[zA9 f m].flatten)=Pg.vs (zAm f m).flatten++Pg.vs (zA9 f m) by unfold Pg.vs;simp];exact (aj.o.kept (Rw.grown_set w3.heap.size 4352 _) (.inr ar)).kept (Rw.grown_set w3.heap.size m _) (.inr ar)
         exact Xa
       exact Xa
     exact Xa
   exact Xa
 exact Xa
end
section
open Go.RowKit Go.Lib Go.Sort
theorem zIX {w wr:World} {n blk off:Nat} {dk:Array Int} {i:Nat} (hi:i<dk.size) (aa:wr=putRow zAU (Sort.ahead w n) blk off dk) (x:Int) :
 (wr.setCell ⟨blk,off+i,none⟩ (zAU x)).drew=putRow zAU (Sort.ahead w (n+1)) blk off (dk.setIfInBounds i x):=by
 subst aa;rw[putRow_set zAU _ blk off dk i x hi,←ahead_drew];rfl
theorem zDw (blk off cap:Nat) (d:Array Int) (w:World) (hH:Holds zAU w blk off d) (ap:d.size≤9223372036854775807) (ah:d.size≤cap) :
 Calls prog 138 #[.slice (some ⟨blk,off,none⟩) d.size cap] w fun e w'=>e=.returned (.slice (some ⟨blk,off,none⟩) (compactUpTo d d.size).length cap)∧∃q,w'=putRow zAU (Sort.ahead w q) blk off (compactUpTo d d.size++List.replicate (d.size-(compactUpTo d d.size).length) 0).toArray:=by
 have same:∀q,(∀j,j<d.size→keeps d j=true)→(compactUpTo d d.size).length=d.size∧w.drewN q=putRow zAU (Sort.ahead w q) blk off (compactUpTo d d.size++List.replicate (d.size-(compactUpTo d d.size).length) 0).toArray:=by
  intro q aa;have e:compactUpTo d d.size=d.toList:=by rw[compactUpTo_all d _ aa,range_map_get]
  rw[e];refine⟨by simp,?_⟩;simp only[XV,Ym,JD,Z3,Array.toArray_toList];exact (putRow_self zAU (Sort.ahead w q) blk off d (holds_ahead zAU w q blk off d hH)).symm
 have HS:Aside (∀q,(∀j,j<d.size→keeps d j=true)→(compactUpTo d d.size).length=d.size∧w.drewN q=putRow zAU (Sort.ahead w q) blk off (compactUpTo d d.size++List.replicate (d.size-(compactUpTo d d.size).length) 0).toArray):=same;clear same
 by_cases h2:d.size<2
 · have HH:Aside (Holds zAU w blk off d):=hH;clear hH;go_enter func138,ntmps138;go_wp2;go_ret;obtain⟨e1,e2⟩:=HS.out 0 (fun j hj=>keeps_lt_one d j (by omega));exact⟨by rw[e1];rfl,0,e2⟩
 go_enter func138,ntmps138;go_wp2;go_loopg [3] d.size (fun g s3 wr=>∃k q:Nat,1≤k∧k≤d.size∧d.size-k≤g∧s3=.int .i64 k∧wr=w.drewN q∧∀j,j<k→keeps d j=true)
 case atStart=>exact⟨1,0,Za _,by omega,by omega,rfl,rfl,keeps_lt_one d⟩
 obtain⟨k,q,aj,hk,hg,rfl,rfl,aa⟩:=hrel
 by_cases hlt:k<d.size
 rotate_left
 · have:k=d.size:=by omega
   subst this;have HH:Aside (Holds zAU w blk off d):=hH;clear hH;go_wp2;go_ret;obtain⟨e1,e2⟩:=HS.out q aa;exact⟨by rw[e1];rfl,q,e2⟩
 obtain⟨c1,f1⟩:=hH k hlt;obtain⟨c0,f0⟩:=hH (k-1) (by omega);have A:Aside (∀j,j<k→keeps d j=true):=aa;have HH:Aside (Holds zAU w blk off d):=hH;clear aa hH;generalize hx:d[k]! = x at c1;generalize hy:d[k-1]! = y at c0;have B:Aside (d[k]! = x∧d[k-1]! = y):=⟨hx,hy⟩;clear hx hy
 by_cases hdup:x=y
 rotate_left
 · go_wp2_with fail;go_region;go_wp2;go_roundg (d.size-(k+1))
   case measure=>omega
   refine⟨k+1,q+1,by omega,by omega,Za _,by go_num,rfl,fun j hj=>?_⟩
   by_cases e:j=k
   · subst e;exact keeps_pos (by rw[B.out.1,B.out.2];exact hdup)
   exact A.out j (by omega)
 subst hdup;go_wp2_with fail;go_region;go_wp2;clear c0 c1 f0 f1;go_loopg [3,5] d.size (fun g s3 s5 wr=>∃(kk k2 q2:Nat) (dk:Array Int),s3=.int .i64 kk∧s5=.int .i64 k2∧1≤k2∧k+k2≤d.size∧d.size-(k+k2)≤g∧wr=putRow zAU (Sort.ahead w q2) blk off dk∧CompInv d (k+k2) kk dk)
 case atStart=>exact⟨k,1,q+1,d,rfl,rfl,Za _,by omega,by omega,(putRow_self zAU (Sort.ahead w (q+1)) blk off d (holds_ahead zAU w (q+1) blk off d HH.out)).symm,CompInv.start A.out (keeps_neg (by omega) (by rw[B.out.1,B.out.2]))⟩
 obtain⟨kk,k2,q2,dk,rfl,rfl,h1,hle,aq,af,hI⟩:=hrel;have ao:=hI.lt;have ai:=hI.size;have ae:Holds zAU wr blk off dk:=by rw[af];exact holds_putRow zAU _ blk off d dk (holds_ahead zAU w q2 blk off d HH.out) ai
 have W2:Aside (wr=putRow zAU (Sort.ahead w q2) blk off dk):=af;have I2:Aside (CompInv d (k+k2) kk dk):=hI;clear af
 by_cases hlt2:k+k2<d.size
 · obtain⟨cm,_⟩:=ae (k+k2) (by omega);obtain⟨cp,_⟩:=ae (k+k2-1) (by omega);obtain⟨ck,fk⟩:=ae kk (by omega);rw[hI.high (k+k2) (by omega),show off+(k+k2)=off+k+k2 by omega]at cm;rw[hI.high (k+k2-1) (by omega),show off+(k+k2-1)=off+k+(k2-1) by omega]at cp;clear ae hI;generalize hu:d[k+k2]! = u at cm;generalize hv:d[k+k2-1]! = v at cp;generalize dk[kk]! = old at ck;have C:Aside (d[k+k2]! = u∧d[k+k2-1]! = v):=⟨hu,hv⟩;clear hu hv
   by_cases huv:u=v
   · subst huv;go_wp2_with fail;go_region;go_wp2;go_roundg (d.size-(k+(k2+1)))
     case rel=>exact⟨kk,k2+1,q2+1,dk,rfl,by go_num,by omega,by omega,Za _,by rw[W2.out];rfl,I2.out.skip (keeps_neg (by omega) (by rw[C.out.1,C.out.2]))⟩
     omega
   go_wp2_with fail;go_region;go_wp2;go_roundg (d.size-(k+(k2+1)))
   case rel=>exact⟨kk+1,k2+1,q2+1,dk.setIfInBounds kk u,by go_num,by go_num,by omega,by omega,Za _,zIX (by omega) W2.out u,by have:=I2.out.keep hlt2 (keeps_pos (by rw[C.out.1,C.out.2];exact huv));rwa [C.out.1]at this⟩
   omega
 have ag:k+k2=d.size:=by omega
 have ak:∀ty,(Builtin.clear_ #[35] ty #[.slice (some ⟨blk,off+kk,none⟩) (d.size-kk) (cap-kk)]).run prog wr=.ok (.tuple #[]) (wr.setCells blk (off+kk) (List.replicate (d.size-kk) (zAU 0))) :=
  fun ty=>Lib.run_clear_slice wr _ _ ty _ underlying35 (fun w=>(by kernel_rfl:(zeroValue 21).run prog w=.ok (Value.int .i32 0) w)) rfl rfl blk (off+kk) _ _ (by omega) (fun j hj=>by rw[show off+kk+j=off+(kk+j) by omega,(ae (kk+j) (by omega)).1];rfl) (fun j hj=>by rw[show off+kk+j=off+(kk+j) by omega];exact (ae (kk+j) (by omega)).2)
 clear ae hI;go_wp2;go_ret;have hI:=I2.out;rw[ag]at hI;refine⟨by rw[hI.len];rfl,q2,?_⟩;rw[hI.len,←hI.done 0,←putRow_setCells zAU _ blk off _ dk kk (by simp;omega),←W2.out,JP]
theorem zEP (blk off cap:Nat) (zs:List Int) (w:World) (hH:Holds (Value.int .i32) w blk off zs.toArray) (ae:zs.length≤9223372036854775807) (aa:zs.length≤cap) :
 Calls prog 138 #[.slice (some ⟨blk,off,none⟩) zs.length cap] w fun e w'=>e=.returned (.slice (some ⟨blk,off,none⟩) (Lib.compact zs).length cap)∧∃q,w'=putRow (Value.int .i32) (Sort.ahead w q) blk off (Lib.compact zs++List.replicate (zs.length-(Lib.compact zs).length) 0).toArray:=by
 have h:=zDw blk off cap zs.toArray w hH (by simpa using ae) (by simpa using aa);simpa [Lib.compact] using h
theorem zD2 (a:Option Addr) (cap:Nat) (w:World) :
 Calls prog 138 #[.slice a 0 cap] w fun e w'=>e=.returned (.slice a 0 cap)∧w'=w:=by
 go_enter func138,ntmps138;go_wp2;go_ret;exact⟨rfl,rfl⟩
end
section
open Go.RowKit Go.Sort
theorem zSa {w:World} {g n:Nat} {aa:Array Value} {e:TypeId} {fr:Nat × Nat} (d:Array Int) (hb:w.heap[g]?=some (.cells aa e fr)) :
 (putRow (Value.int .i32) (Sort.ahead w n) g 0 d).heap[g]?=some (.cells (putCells (Value.int .i32) 0 d aa) e fr):=by
 simp[putRow,mapBlock,Sort.ahead,YV,hb,onCells]
theorem zRw {w:World} {g n base:Nat} (d:Array Int) (hg:base≤g):RowKit.Below base w (putRow (Value.int .i32) (Sort.ahead w n) g 0 d):=by
 refine⟨rfl,rfl,rfl,by simp,fun k hk=>?_⟩;have:g≠k:=by omega
 simp[putRow,mapBlock,Sort.ahead,YV,this]
theorem zGu (l:List Int):(Lib.compact l).length≤l.length:=by
 unfold Lib.compact Lib.compactUpTo;rw[Ze];exact Zh (XG _ _) (by simp)
theorem zL2 (A:Option Addr) (n c base e:Nat) (l:List Int) (w:World) (hn:l.length=n) (ai:n≤1000000) (aa:w.ownsRow base e 1 (.slice A n c) n (l.map (Value.int .i32))) (af:base≤w.heap.size) :
 Calls prog 138 #[.slice A n c] w fun r w'=>∃A' c',r=.returned (.slice A' (Lib.compact l).length c')∧Sl w' w'.heap.size A' ((Lib.compact l).map (Value.int .i32))∧RowKit.Below base w w':=by
 subst hn;rcases aa.2 with ⟨hv,h0⟩|⟨g,cap,ae,hv,hg,hb,h1,h2,h3,h4⟩
 · simp only[ZZ]at hv;obtain⟨rfl,_,rfl⟩:=hv;have hl:l=[]:=ZG h0;subst hl;refine (zD2 none 0 w).mono fun r w' hh=>?_
   obtain⟨hr,hw⟩:=hh;subst hw;exact⟨none,0,by rw[hr];rfl,Sl.nil _ _ _,Zc _ _⟩
 simp only[ZZ]at hv;obtain⟨rfl,_,rfl⟩:=hv;rw[Xj]at h4;have ag:g<w.heap.size:=(Array.getElem?_eq_some_iff.1 hb).1;refine (zEP g 0 c l w (R.holds hb h4) (by omega) h1).mono fun r w' hh=>?_
 obtain⟨hr,q,hw⟩:=hh;subst hw;have aj:=zGu l;refine⟨_,_,hr,?_,zRw _ hg⟩;intro hx;rw[Ze]at hx;refine⟨g,0,rfl,by simpa using ag,fun i hi=>?_⟩;rw[Ze]at hi;have ak:ae.size=c:=by rw[h3,Xj]
 have ah:i<ae.size:=by omega
 have hd:i<(Lib.compact l++List.replicate (l.length-(Lib.compact l).length) 0).toArray.size:=by simp;omega
 simp only[World.cell?,zSa _ hb,Z1,JM,ZM,Ye];rw[Zo,Zb hi];simp only[putCells,Array.getElem?_mapIdx];rw[Xn ah];simp only[Zz,J0,ZF,Qx,Z1];rw[Zm hd,Q8 _ i hd];simp[List.getElem_append,hi]
end
section
open Go.RowKit
theorem zPw {cs:List Int} {i:Nat} {c:Int} (h:cs[i]?=some c):zEB (cs.take (i+1)) []=C.step C.isC (zEB (cs.take i) []) c (c+1):=by
 unfold zEB;rw[ZA,h,Y6];rfl
theorem C.step_last {acc:List Int} {k:Nat} {c b:Int} (hp:C.isC c=true) (hl:acc.length=k+1) (h:acc[k]?=some c):C.step C.isC acc c b=acc.set k b:=by
 unfold C.step;rw[Zm hp,Zm (by rw[QN,hl];exact h)];rcases YW acc with rfl|⟨l2,e,rfl⟩
 · simp at hl
 rw[YX]at *;have:l2.length=k:=by simpa using hl
 subst this;simp
theorem C.chars_any (A:Option Addr) (n c B:Nat) (l:List Int) (w:World) (hn:l.length=n) (cm:n≤400000) (hB:B≤w.heap.size) (hA:Sl w B A (l.map (Value.int .i32))) :
 Calls prog 103 #[.slice A n c] w (zSz (C.chars l) w):=by
 have HN:=hy' hn;obtain⟨cc,cf⟩:=zIv l;obtain⟨cs,hcs⟩:∃cs,zEC l=cs:=⟨_,rfl⟩;have a8:(l.mergeSort fun x y=>decide (x≤y)).length=n:=by simp[hn]
 have bf:Lib.compact (l.mergeSort fun x y=>decide (x≤y))=cs:=by
  rw[←hcs];unfold Lib.compact zEC;rw[a8,hn]
 have av:C.chars l=zEB cs []:=by unfold C.chars;rw[hcs]
 rw[av];obtain⟨m,hm⟩:∃m,cs.length=m:=⟨_,rfl⟩
 have hmn:m≤400000:=by
  have h:=zGu (l.mergeSort fun x y=>decide (x≤y));rw[bf,a8,hm]at h;omega
 have HM:=hy' hm;have b3:=hy' a8;have b2:=hy' bf;have bo:Below w.heap.size w (w.alloc (.cells #[.slice none 0 0] 85)):=(Zc _ _).alloc (Za _) _;have bx:=hy' (hA.belowN bo hB (Za _));have ct:w.heap.size+1≤(w.alloc (.cells #[.slice none 0 0] 85)).heap.size:=by simp
 obtain⟨j0,hj0,bt,bu,bn⟩:=Z2 zBL;clear hn hcs a8 bf av hm cc cf;go_enter func103,ntmps103;go_wp2_with fail;refine (zBY A n c B l _ HN.o (by omega) (by omega) bx.out).mono ?_;rintro e w1 ⟨A1,c1,rfl,ah,bb⟩;have ao:=hy' ah;clear ah;go_wp2_with fail;refine (R.sort_any _ _ _ n l _ HN.o (by omega) ao.out bb.size).mono ?_;rintro e w2 ⟨rfl,aa,ar⟩;have ak:=hy' aa;clear aa;go_wp2_with fail;refine (zL2 A1 n c1 _ _ (l.mergeSort fun x y=>decide (x≤y)) _ b3.o (by omega) ak.out (Zh bb.size ar.size)).mono ?_;rw[b2.o];rintro e w3 ⟨A3,c3,rfl,br,bp⟩;rw[HM.o];have b1:=hy' br;have az:=(bb.trans ar).trans bp;clear br;go_wp2;go_loopw [4,15] (fun vo vi wr=>∃(i:Nat) (acc:List Int),i≤m∧vi=.int .i64 i∧acc=zEB (cs.take i) []∧acc.length≤2*i∧wr.ownsRow w3.heap.size 21 1 vo acc.length (acc.map (Value.int .i32))∧Below w3.heap.size w3 wr) (fun _ vi _=>m-(intOf vi).toNat)
 case atStart=>exact⟨0,[],by omega,rfl,rfl,ZF _,ZE _ _ _ _,Zc _ _⟩
 obtain⟨i,acc,hi,rfl,af,bh,ae,aj⟩:=hrel;obtain⟨uu,rfl⟩:∃uu:World,uu=wr:=⟨_,rfl⟩;obtain⟨q,hq⟩:∃q,acc.length=q:=⟨_,rfl⟩;rw[hq]at ae bh;have HQ:=hy' hq;have b6:=hy' af;have bs:w3.heap.size≤uu.heap.size:=aj.size;obtain⟨A4,c4,rfl⟩:=zA3 ae
 by_cases hlt:i<m
 rotate_left
 · obtain rfl:i=m:=by omega
   have a6:acc=zEB cs []:=by rw[af,Zi (by rw[HM.o];exact Za _)]
   have bq:=az.trans (aj.mono (Zh bb.size (Zh ar.size bp.size)));have aq:=(bq.block w.heap.size (by omega)).trans (ZT w _);obtain⟨b4,cj⟩:=zI3 aq 0;simp only[Qk,Y4]at b4;have bi:=hy' aq;have bw:w.heap.size<w3.heap.size:=by have:=az.size;omega
   have ay:=hy' a6;clear aq af a6 hq;go_wp2;have bl:=zRc (v:=.slice A4 q c4) bi.o;refine YH (results_cell_row rfl _ _ w.heap.size _ _ _ _ rfl bl underlying85 rfl (by kernel_rfl)) rfl ?_;refine⟨A4,c4,by rw[←ay.o,HQ.o],?_,(bo.trans (bq.mono (by omega))).setCell (by simp) _⟩;rw[←ay.o,HQ.o];exact own_base (Z9 ae (by omega) _) (by omega)
 obtain⟨ch,av⟩:∃ch,cs[i]?=some ch:=⟨_,Zb (by rw[HM.o];omega)⟩;have bg:=zPw av;rw[←af]at bg;have bc:=hy' bg;obtain⟨g,o,rfl,bz,cd,_⟩:=b1.o.ints av;rw[←(zAQ aj).1 _ _ bz]at cd;have n0:(0:Int)≤(i:Int):=by omega
 have n1:(i:Int)<m:=by omega
 clear bg av af hq;rcases hic:C.isC ch with _|_
 · have cb:=hy' (zLN (acc:=acc) (b:=ch+1) hic);have aw:=hy' hic;clear hic;go_wp2_with (go_at_call 50;refine (zBd _ _).mono ?_;rw[aw.o];rintro e w' ⟨rfl,rfl⟩);refine⟨⟨i+1,acc,by omega,by go_num,by rw[bc.o,cb.o],by rw[HQ.o];omega,by rw[HQ.o];exact ae,aj⟩,by simp[intOf];omega⟩
 have b5:0≤ch∧ch≤1114111:=by simp[C.isC]at hic;omega
 obtain⟨ck,cr⟩:=b5;have aw:=hy' hic;rcases YF q with hz|hz
 · subst hz;have ap:=hy' (zJT (p:=C.isC) (acc:=acc) (b:=ch+1) hic (by rw[ZG HQ.o];simp));clear hic;have hZ:=hy' (Sl.lit (w:=uu.alloc (.cells #[.int .i32 ch,.int .i32 (ch+1)] 21)) (A:=some ⟨uu.heap.size,0,none⟩) (xs:=[.int .i32 ch,.int .i32 (ch+1)]) rfl 21 (0,0) (ZT uu _));have aa:=hy' (zA4 ae ((Zc _ _).alloc (Za _) (.cells #[.int .i32 ch,.int .i32 (ch+1)] 21)) (Za _));have bk:w3.heap.size≤(uu.alloc (.cells #[.int .i32 ch,.int .i32 (ch+1)] 21)).heap.size:=by simp;omega
   have au:w3.heap.size≤uu.heap.size:=bs;go_wp2_with (first|(go_at_call 50;refine (zBd _ _).mono ?_;rw[aw.o];rintro e w' ⟨rfl,rfl⟩)|(at_builtin;refine zAe _ rfl _ _ _ rfl w3.heap.size 21 j0 _ 1 4 underlying35 hj0 bt bu bn rfl (by omega) _ 0 _ rfl aa.out _ (some ⟨uu.heap.size,0,none⟩) 2 2 [.int .i32 ch,.int .i32 (ch+1)] rfl rfl hZ.out (by simp[Value.oneCell']) (by simp only[maxLen];omega) (by omega) bk ?_;intro v1 w5 ag ar a1));refine⟨⟨i+1,acc++[ch,ch+1],by omega,by go_num,by rw[bc.o,ap.o],by rw[Zd,HQ.o];simp;omega,?_,(aj.alloc au _).trans ar⟩,by simp[intOf];omega⟩;rw[Zd,HQ.o,ZL];exact ag
 obtain⟨k,rfl⟩:∃k,q=k+1:=⟨q-1,by omega⟩;obtain⟨e0,ba⟩:∃e0,acc[k]?=some e0:=⟨_,Zb (by rw[HQ.o];omega)⟩;have ai:acc.getLast?=some e0:=by rw[QN,HQ.o];exact ba
 obtain⟨g7,o7,rfl,cq,b7,_⟩:=(Sl.of_own ae).ints ba;obtain⟨rfl,cp,cg,bm⟩:=zFh ae;simp only[Z1]at b7;have cn:=bm k;have q0:(0:Int)≤(k:Int):=by omega
 have qb:(k:Int)≤1000000:=by omega
 have b8:=hy' ba;have a7:=hy' ai;clear bm ba ai
 by_cases hea:e0=ch
 · subst hea;have b9:=hy' (C.step_last (b:=e0+1) hic HQ.o b8.o);have ax:=zNs ae (j:=k) (by rw[Ze,HQ.o];omega) (.int .i32 (e0+1));have bj:=hy' ax;clear hic ax;go_wp2_with (go_at_call 50;refine (zBd _ _).mono ?_;rw[aw.o];rintro e w' ⟨rfl,rfl⟩);refine⟨⟨i+1,acc.set k (e0+1),by omega,by go_num,by rw[bc.o,b9.o],by rw[Y0,HQ.o];omega,?_,aj.setCell (by show w3.heap.size≤g7;omega) _⟩,by simp[intOf];omega⟩;rw[Y0,HQ.o,QF];exact bj.o
 have hd:(e0 == ch)=false:=by simp;exact hea
 have ap:=hy' (zJT (p:=C.isC) (acc:=acc) (b:=ch+1) hic (by rw[a7.o];intro h;exact hea (by simpa using h)));clear hic;have hZ:=hy' (Sl.lit (w:=uu.alloc (.cells #[.int .i32 ch,.int .i32 (ch+1)] 21)) (A:=some ⟨uu.heap.size,0,none⟩) (xs:=[.int .i32 ch,.int .i32 (ch+1)]) rfl 21 (0,0) (ZT uu _));have aa:=hy' (zA4 ae ((Zc _ _).alloc (Za _) (.cells #[.int .i32 ch,.int .i32 (ch+1)] 21)) (Za _));have bk:w3.heap.size≤(uu.alloc (.cells #[.int .i32 ch,.int .i32 (ch+1)] 21)).heap.size:=by simp;omega
 have au:w3.heap.size≤uu.heap.size:=bs;go_wp2_with (first|(go_at_call 50;refine (zBd _ _).mono ?_;rw[aw.o];rintro e w' ⟨rfl,rfl⟩)|(at_builtin;refine zAe _ rfl _ _ _ rfl w3.heap.size 21 j0 _ 1 4 underlying35 hj0 bt bu bn rfl (by omega) _ (k+1) _ rfl aa.out _ (some ⟨uu.heap.size,0,none⟩) 2 2 [.int .i32 ch,.int .i32 (ch+1)] rfl rfl hZ.out (by simp[Value.oneCell']) (by simp only[maxLen];omega) (by omega) bk ?_;intro v1 w5 ag ar a1));refine⟨⟨i+1,acc++[ch,ch+1],by omega,by go_num,by rw[bc.o,ap.o],by rw[Zd,HQ.o];simp;omega,?_,(aj.alloc au _).trans ar⟩,by simp[intOf];omega⟩;rw[Zd,HQ.o,ZL];exact ag
theorem zIY {P:Program} {fn:Func} {p:Tmp} {ty:TypeId} (h:fn.results = #[.cell p ty]) (tmps:Array Value) (w:World) (g:Nat) (t:TypeId) (cs:Array Value) (fr:Nat × Nat) (d:TypeDesc)
 (hp:tmps.getD p undef=.pointer (some ⟨g,0,none⟩)) (hg:w.heap[g]?=some (.cells cs t fr))
 (hu:P.underlying ty=some d) (hd:(match d with | .struct _ | .array _ _=>true|_=>false)=true) (hi:(P.info? ty).map (·.size)=some cs.size) :
 (results fn tmps).run P w=.ok (.agg cs) w:=by
 have aa:tmps[p]?.getD undef=.pointer (some ⟨g,0,none⟩):=by simpa using hp
 simp[results,h,aa,asAddr,X5 w g t ty cs fr d hg hu hd hi]
def Rw.RetOwn (c k:Int) (m:List Int) (w:World) (e:Ending) (w':World):Prop :=
 ∃A n cp,e=.returned (.agg #[.int .i32 c,.int .i64 k,.slice A n cp])∧m.length=n∧Slt w' 21 A (m.map (Value.int .i32))∧Below w.heap.size w w'
theorem zKg {P:Program} {ops:Array Oper} {o:Oper} {a:Act} {K:Act→World→Prop} {Q:Exit→Act→World→Prop} {E:Prop} (w:World) (ae:o.guard=none) (f:FuncId) (x:Operand) (ts:Array TypeId)
 (ho:o.op=.call { callee:=.value (.func f),args := #[x],argTypes:=ts }) (entry:∀args w,(callFunc f args).run P w=.ok (.enter f args) w) (u:Value) (hv:a.eval x=u)
 (v:Value) (hC:Calls P f #[u] w fun e w'=>e=.returned v∧w=w') (h:K (a.put o.dst v) w) :
 if Region.wanted o (yielded ops a.tmps)=true then Oper.wp P o a w K Q else E:=by
 have hw:Region.wanted o (yielded ops a.tmps)=true:=by simp[Region.wanted,ae]
 rw[Zm hw]
 have aa:(execOp a.eval o).run P w=.ok (.enter f #[u]) w:=by
  have hf:a.eval (.func f)=.func (.func f) #[] #[]:=rfl;unfold execOp;subst hv;simp[ho,resolve,invoke,go_sem,entry,hf]
 unfold Oper.wp;rw[aa,Oper.upon_enter];refine hC.mono ?_;rintro e w' ⟨rfl,rfl⟩;exact h
theorem infoRow:(prog.info? 155).map (fun i=>(i.zero,i.size,i.bytes))=some (some (.agg #[.int .i32 0,.int .i64 0,.slice none 0 0]),3,40):=by kernel_rfl
end
end Go.Proofs.YtjakbblocbicjaaGreatDoor
