/- The law StreamMakes, by walking its text. -/
import Derived.Test.YtdbpjmfflofadaaGreatDoorSmAwake
import Derived.Test.YtdbpjmfflofadaaGreatDoorSmPieces
import Derived.Test.YtdbpjmfflofadaaGreatDoorNcRChars
import Derived.Test.YtdbpjmfflofadaaGreatDoorUtfJ
set_option maxRecDepth 100000
set_option maxHeartbeats 4000000
set_option linter.unusedVariables false
set_option linter.unusedSimpArgs false
set_option linter.unusedSectionVars false
namespace Go.Proofs.YtdbpjmfflofadaaGreatDoor
open Go.Proofs.Tryz
open Go.RowKit
theorem U.encS_cat {x y:List Int} (hx:∀c∈x,C.isC c=true) (hy:∀c∈y,C.isC c=true):zA5 x++zA5 y=zA5 (x++y):=by
 rw[zAG hx,zAG hy,zAG (fun c hc=>(List.mem_append.1 hc).elim (hx c) (hy c)),zAq];apply Xw
 simp
theorem Tp.streamMakes_any (w:World) (A XA PA MA:Option Addr) (n c xn xc pn pc mn mc:Nat) (T0:List Rw.Row) (E0 P M:List Int) (hT:Tx.In A XA PA MA n c xn xc pn pc mn mc T0 E0 P M w) (b:Bool) (QA:Option Addr) (qn qc:Nat) (qs:List Int) (hq:IsRow .i64 w QA qn qc qs) (gm:∀x∈qs,-9223372036854775808≤x∧x≤9223372036854775807) (hL:Nf.Laid w) :
 Calls prog 4 #[.agg #[.slice A n c,.slice XA xn xc,.slice PA pn pc,.slice MA mn mc],.bool b,.slice QA qn qc] w fun e w'=>e=.returned (.bool true)∧Below w.heap.size w w':=by
 have ar:=hy' (fun W (hW:Below w.heap.size w W)=>zHF A XA PA MA n c xn xc pn pc mn mc T0 E0 P M 30 W (by decide) (hT.below hW) (Rw.Laid.next hL.1 hW));have ed:=hy' (fun W (hW:Below w.heap.size w W)=>zFM W (hL.next hW));obtain⟨wa,cf⟩:∃wa,w.alloc (.cells #[.slice A n c,.slice XA xn xc,.slice PA pn pc,.slice MA mn mc] 40)=wa:=⟨_,rfl⟩;have cc:Below w.heap.size w wa:=by rw[←cf];exact (Zd _ _).alloc (Za _) _
 have aa:Rw.At wa w.heap.size 40 [.slice A n c,.slice XA xn xc,.slice PA pn pc,.slice MA mn mc]:=by rw[←cf];exact Rw.At.new w 40 [.slice A n c,.slice XA xn xc,.slice PA pn pc,.slice MA mn mc]
 have dz:=hy' cf;have b3:=hy' cc;have ep:=hy' aa;obtain⟨gp,e6,gg⟩:=hq.len_le;have gv:=hy' ((hq.sl qn (Za _)).below cc cc.size);have e8:Hy ((qs.take qn).length=qn):=hy' (by rw[Zn];omega);have gh:Hy (qn≤maxLen):=hy' (by omega);have HH:=hy' hL.2;clear cf cc aa hT hL hq gm gp e6 gg;go_enter func4,ntmps4;go_upto_region 1 with (fail)
 rw[dz.o];go_wp2_with fail;refine (ed.o wa b3.o).mono ?_;rintro e w1 ⟨rfl,bq⟩;have ae:=ep.o.below bq;have cp:=hy' (b3.o.trans (bq.mono b3.o.size));have x0:=ae.cell 0 rfl;have x1:=ae.cell 1 rfl;have x2:=ae.cell 2 rfl;have x3:=ae.cell 3 rfl;have xl:=ae.lt;clear ae;go_wp2_with fail;refine (ar.o w1 cp.o).mono ?_;rintro e w2 ⟨p,v2,T,E,S,l,Al,cl,rfl,cx,bh,hR,ax,ck,cq,bu,bp⟩;obtain⟨pb,rfl,gl⟩:=cx.form;obtain⟨A2,c2,XA2,xc2,rfl,cn⟩:=id bh;obtain⟨n2,b9⟩:∃k,T.length=k:=⟨_,rfl⟩;obtain⟨xn2,aw⟩:∃k,E.length=k:=⟨_,rfl⟩;obtain⟨ln,cy⟩:∃k,l.length=k:=⟨_,rfl⟩;unfold zB8 at bh bu ⊢;rw[b9,aw]at bh ⊢;simp only[b9,aw]at bu;rw[cy]at ax cq bu ⊢;obtain⟨w3,bi⟩:∃w3,w2.alloc (.cells #[.slice A2 n2 c2,.slice XA2 xn2 xc2] 38)=w3:=⟨_,rfl⟩;have bg:Below w2.heap.size w2 w3:=by rw[←bi];exact (Zd _ _).alloc (Za _) _
 have ah:Rw.At w3 w2.heap.size 38 [.slice A2 n2 c2,.slice XA2 xn2 xc2]:=by rw[←bi];exact Rw.At.new w2 38 [.slice A2 n2 c2,.slice XA2 xn2 xc2]
 have fh:=hy' bi;have cr:=hy' (cp.o.trans ((bp.trans (bg.mono bp.size)).mono cp.o.size));have fx:=hy' ah;have ap:=hy' (bq.trans ((bp.trans (bg.mono bp.size)).mono bq.size));have gq:=hy' (cx.below bg);have dv:=hy' (bh.below bg);have dw:=hy' (zA6 ax bg (Za _));have HR:=hy' hR;have ai:=hy' ck;have a8:=hy' cy;have hh:=hy' b9;have h0:Hy (∀w'',w3.grownBy w'' (Value.slice Al ln cl).ownBlock→Ud.Is w'' (.pointer (some ⟨pb,0,none⟩)) T S∧Md.Doc w'' (.agg #[.slice A2 n2 c2,.slice XA2 xn2 xc2]) T E):=hy' fun w'' hg=>bu w'' (zA0 (by rw[←bi];exact Yr _ _ _) hg)
 have h3:=hy' (fun x (hx:x∈l)=>Tx.isC_i32 (ck x hx));have z0:=ah.cell 0 rfl;have z1:=ah.cell 1 rfl;have zl:=ah.lt;clear x0 x1 x2 x3 xl bu bh cn cx hR ax ck cy b9 aw bi bg ah bp bq ar ed dz b3 ep;go_upto_region 4 with (fail)
 rw[fh.o];have aq:=HR.o.ok;have ay:=hy' (Sl.of_own dw.o);have e4:=hy' (HH.o.next cr.o);have cv:=hy' (Zd w3.heap.size w3)
 have et:Hy (∀(A':Option Addr) (m c':Nat) (z:List Int) (sq:ByteArray) (W:World),z.length=m→m≤2000→(∀c∈z,C.isC c=true)→zA5 z=sq→Sl W W.heap.size A' (z.map (Value.int .i64))→Calls prog 17 #[.slice A' m c'] W fun e w'=>e=.returned (.string sq)∧Below W.heap.size W w'):=hy' fun A' m c' z sq W hz hm bt hs hA=>by
  have:=zGi A' m c' z W hz (by omega) hA bt;rw[hs]at this;exact this
 have ea:Hy (∀(A':Option Addr) (m c':Nat) (z Z:List Int) (zn:Nat) (W:World),Below w3.heap.size w3 W→z.length=m→m≤2000→(∀c∈z,C.isC c=true)→Nf.chars T z=Z→Z.length=zn→Sl W W.heap.size A' (z.map (Value.int .i64))→Calls prog 14 #[.agg #[.slice A2 n2 c2,.slice XA2 xn2 xc2],.slice A' m c'] W fun e w'=>∃A' c',e=.returned (.slice A' zn c')∧w'.ownsRow W.heap.size 3 1 (.slice A' zn c') zn (Z.map (Value.int .i64))∧Below W.heap.size W w'):=hy' fun A' m c' z Z zn W hW hz hm bt hZ au hA=>by
  refine (Nf.rchars_any _ T E A' m c' z W (by have:=HR.o.tl;omega) aq.bd (fun r hr=>by have:=(HR.o.rok r hr).2.2.1;omega) (fun c=>zBh aq c) (dv.o.below hW) hz (by omega) (fun x hx=>Tx.isC_i32 (bt x hx)) hA).mono ?_;rintro e w' ⟨A',c',rfl,ho,hb⟩;rw[hZ,au]at ho ⊢;exact⟨A',c',rfl,ho,hb⟩
 have bj:Hy (∀(A':Option Addr) (m c':Nat) (z Z:List Int) (zn:Nat) (W:World),Below w3.heap.size w3 W→z.length=m→m≤2000→(∀c∈z,C.isC c=true)→Nc.chars T S z=Z→Z.length=zn→Sl W W.heap.size A' (z.map (Value.int .i64))→Calls prog 15 #[.agg #[.slice A2 n2 c2,.slice XA2 xn2 xc2],.slice A' m c'] W fun e w'=>∃A' c',e=.returned (.slice A' zn c')∧w'.ownsRow W.heap.size 3 1 (.slice A' zn c') zn (Z.map (Value.int .i64))∧Below W.heap.size W w'):=hy' fun A' m c' z Z zn W hW hz hm bt hZ au hA=>by
  refine (Nc.rchars_any _ T E S A' m c' z W aq HR.o.mem (by have:=HR.o.tl;omega) (by have:=HR.o.el;omega) (fun r hr=>by have:=(HR.o.rok r hr).2.2.1;omega) (dv.o.below hW) hz (by omega) bt hA).mono ?_;rintro e w' ⟨A',c',rfl,ho,hb⟩;rw[hZ,au]at ho ⊢;exact⟨A',c',rfl,ho,hb⟩
 have fq:Hy (∀(s:ByteArray) (W:World),Below w3.heap.size w3 W→s.size≤100000→Calls prog 16 #[.string s,.slice QA qn qc] W (zFm s.data.toList W)):=hy' fun s W hW hs =>
  zGZ s QA qn qc (qs.take qn) W hs e8.o gh.o (gv.o.below (ap.o.trans (hW.mono ap.o.size)) (ap.o.trans (hW.mono ap.o.size)).size)
 have b8:(Nf.fl T l).length≤1024:=zLD aq (by rw[a8.o];omega);obtain⟨fm,ak⟩:∃fm:Int,(if b=true then 2 else 1)=fm:=⟨_,rfl⟩
 have bx:Hy (∀W,Calls prog 10 #[.pointer (some ⟨pb,0,none⟩),.int .i64 fm] W fun e w'=>e=.returned (.tuple #[.pointer (some ⟨W.heap.size,0,none⟩),.int .i64 0])∧Below W.heap.size W w'∧Sm.At w' W.heap.size (Sm.v pb) (Sm.fv b) (Sm.bad 0)):=hy' fun W=>by
  have:=zE4 pb b W;rw[ak]at this;exact this
 obtain⟨Wt,bb⟩:∃Z,Sm.F T S b l=Z:=⟨_,rfl⟩;obtain⟨wn,bk⟩:∃q,Wt.length=q:=⟨_,rfl⟩;have ee:∀c∈Wt,C.isC c=true:=by rw[←bb];exact zEw aq b ai.o
 have gy:wn≤1024:=by
  rw[←bk,←bb];cases b
  · show (Nf.chars T l).length≤1024;rw[Nf.chars_len];exact b8
  exact Zh (Nc.chars_le aq l) b8
 obtain⟨Z,hZ⟩:∃Z,Nf.chars T l=Z:=⟨_,rfl⟩;obtain⟨zn,au⟩:∃q,Z.length=q:=⟨_,rfl⟩;have ej:=ea.o Al ln cl l Z zn w3 cv.o a8.o (by omega) ai.o hZ au ay.o
 have dt:Hy (b=true→∀W,Below w3.heap.size w3 W→Calls prog 15 #[.agg #[.slice A2 n2 c2,.slice XA2 xn2 xc2],.slice Al ln cl] W fun e w'=>∃A' c',e=.returned (.slice A' wn c')∧w'.ownsRow W.heap.size 3 1 (.slice A' wn c') wn (Wt.map (Value.int .i64))∧Below W.heap.size W w'):=hy' fun hb W hW =>
  bj.o Al ln cl l Wt wn W hW a8.o (by omega) ai.o (by rw[←bb,hb];rfl) bk (ay.o.below hW hW.size)
 have dr:Hy (b=false→zn=wn∧Z=Wt):=hy' fun hb=>by
  have e:Z=Wt:=by rw[←hZ,←bb,hb];rfl
  exact⟨by rw[←au,←bk,e],e⟩
 have dk:Hy (fm=if b=true then 2 else 1):=hy' ak.symm;have bz:=hy' ee;have eu:=hy' bk;have fu:=hy' bb;have ch:=hy' b8;have cd:=hy' aq;clear bb bk ee hZ au ea bj dw b8 ak aq;go_wp2_with fail;refine ej.mono ?_;rintro e q1 ⟨A5,c5,rfl,ef,hb⟩;have ba:=hy' (cv.o.trans (hb.mono cv.o.size));have ek:=hy' (Sl.of_own ef);clear hb ef z0 z1 zl ej;go_upto_if 36 with (fail)
 go_cut [11,12] (fun fe e9 wx=>(∃A' c',fe=.slice A' wn c'∧Sl wx wx.heap.size A' (Wt.map (Value.int .i64)))∧e9=.int .i64 fm∧Below w3.heap.size w3 wx)
 case first =>
  cases b
  · obtain⟨rfl,rfl⟩:=dr.o rfl;have ak:=dk.o;simp only[ZF,Ye]at ak;subst ak;go_wp2_with fail;go_meet;exact⟨⟨_,_,by first|rfl|trivial,ek.o⟩,by first|rfl|trivial,ba.o⟩
  have ak:=dk.o;simp only[Yo]at ak;subst ak;have aa:=fx.o.below ba.o;have z0:=aa.cell 0 rfl;have z1:=aa.cell 1 rfl;have zl:=aa.lt;clear aa;go_wp2_with fail;refine (dt.o (by first|rfl|trivial) q1 ba.o).mono ?_;rintro e q2 ⟨A6,c6,rfl,du,hb⟩;have gj:=hy' (ba.o.trans (hb.mono ba.o.size));have cw:=hy' (Sl.of_own du);clear hb du z0 z1 zl;go_wp2_with fail;go_meet;exact⟨⟨_,_,by first|rfl|trivial,cw.o⟩,by first|rfl|trivial,gj.o⟩
 obtain⟨⟨A6,c6,rfl,ew⟩,rfl,b5⟩:=hcut;obtain⟨q4,rfl⟩:∃q:World,q=wc:=⟨_,rfl⟩;have bc:=hy' b5;have cw:=hy' ew;have ey:=hy' (gq.o.below b5);have er:=hy' (e4.o.next b5);clear ew b5;go_wp2_with fail;refine (bx.o q4).mono ?_;rintro e q5 ⟨rfl,hb,aa⟩;obtain⟨g,hg⟩:∃g,q4.heap.size=g:=⟨_,rfl⟩;have HG:Hy (q4.heap.size≤g):=hy' (Qm hg);have gz:=hy' hg;have fy:=hy' hb;rw[hg]at aa;have fp:=hy' aa;rw[hg];clear hb aa hg ek ba dt dr bx;go_wp2_with fail;go_loopw [15,17,18,19,20,21,52] (fun _ _ _ _ _ _ i wr=>∃t:Nat,t≤2∧i=.int .i64 t∧Below q4.heap.size q4 wr∧Sm.At wr g (Sm.v pb) (Sm.fv b) (Sm.bad 0)) (fun _ _ _ _ _ _ i _=>2-(intOf i).toNat)
 case atStart=>exact⟨0,by omega,rfl,fy.o,fp.o⟩
 obtain⟨t,ht,rfl,bo,a6⟩:=hrel;obtain⟨r0,rfl⟩:∃q:World,q=wr:=⟨_,rfl⟩
 by_cases ht2:t<2
 rotate_left
 · obtain rfl:t=2:=by omega
   have cg:=hy' (bc.o.trans (bo.mono bc.o.size));clear bo a6;go_wp2_with fail;go_ret;exact⟨rfl,cr.o.trans (cg.o.mono cr.o.size)⟩
 have tI:(t:Int)<2:=by omega
 have cg:=hy' bo;have b6:=hy' (bc.o.trans (bo.mono bc.o.size));have gw:=hy' a6;obtain⟨sl,b4⟩:∃q,zA5 l=q:=⟨_,rfl⟩;have dl:sl.data.toList=zA4 l:=by rw[←b4,zAG ai.o]
 have e0:sl.size≤100000:=by
  have:=zBj (z:=l) ai.o;have h2:=a8.o;rw[b4]at this;omega
 have fw:=hy' dl;have gb:=hy' e0;have az:=et.o Al ln cl l sl r0 a8.o (by omega) ai.o b4 (ay.o.below b6.o b6.o.size);clear bo a6 dl e0 b4;go_wp2_with fail;refine az.mono ?_;rintro e r1 ⟨rfl,hb⟩;have eb:=hy' (cg.o.trans (hb.mono cg.o.size));have av:=hy' (b6.o.trans (hb.mono b6.o.size));have dm:=hy' (gw.o.below hb);clear hb az;go_wp2_with fail;refine (fq.o sl r1 av.o gb.o).mono ?_;rintro e r2 ⟨P,A7,c7,rfl,c1,dh,ct,hb⟩;have ft:=hy' (eb.o.trans (hb.mono eb.o.size));have fg:=hy' (av.o.trans (hb.mono av.o.size));have e7:=hy' (Rw.At.below dm.o hb);rw[fw.o]at c1 dh;have bs:g<r1.heap.size:=Rw.At.lt dm.o;obtain⟨pn,hpn⟩:∃q,P.length=q:=⟨_,rfl⟩;rw[hpn]at ct dh ⊢;have ez:=hy' hpn;have fo:=hy' c1;have gf:=hy' ct
 have hj:pn≤100000:=by
  have h1:(zA4 l).length≤4*l.length:=zCA l;have h2:=a8.o;omega
 have cz:=hy' bs;clear hb c1 dh ct hpn bs;go_wp2_with fail;go_loopw [15,17,18,19,59] (fun va _ _ _ vi wr=>∃(k:Nat) (a r:List Int) (h:List UInt8),k≤pn∧vi=.int .i64 k∧va=.string (zA5 (Sm.F T S b (zAb T S a)))∧l=a++r∧zBs r h∧zA4 r=h++(P.drop k).flatten∧Sm.At wr g (Sm.v pb) (Sm.fv b) (zAi T S a h)∧r2.grownBy wr (some g)) (fun _ _ _ _ vi _=>pn-(intOf vi).toNat)
 case atStart=>exact⟨0,[],l,[],Zq _,rfl,by rw[show zAb T S []=[] from rfl,zDF];rfl,rfl,.inl rfl,by rw[Xg,fo.o];rfl,e7.o,QO _ _⟩
 obtain⟨k,a,r,h,hk,rfl,rfl,hl,b2,aj,aa,ao⟩:=hrel;obtain⟨x0,rfl⟩:∃q:World,q=wr:=⟨_,rfl⟩;have HL:=hy' hl;have bm:=hy' b2;have b1:=hy' aj;have dn:=hy' aa;have eh:=hy' ao;have df:=hy' (zBT ft.o HG.o ao);clear hl b2 aj aa ao;obtain⟨sX,cu⟩:∃q,zA5 (Sm.F T S b (zAb T S a))=q:=⟨_,rfl⟩;rw[cu];have dy:∀c∈Sm.F T S b (zAb T S a),C.isC c=true:=zEw cd.o b fun c hc=>ai.o c (by rw[HL.o];exact YZ _ (Z0 hc))
 have cq:∀z:List Int,(∀c∈z,c∈l)→True:=fun _ _=>trivial
 have ec:=hy' dy;have en:=hy' cu;clear dy cq cu
 by_cases hkp:k<pn
 · have kI:(k:Int)<pn:=by omega
   obtain⟨p,hp⟩:∃p,P[k]?=some p:=⟨_,Zb (by rw[ez.o];exact hkp)⟩;obtain⟨cm,eo⟩:=List.getElem?_eq_some_iff.1 hp;have hdr:(P.drop k).flatten=p++(P.drop (k+1)).flatten:=by rw[ZJ cm,eo,Xi]
   have aj:=b1.o;rw[hdr]at aj;have dx:k<(Sm.vs P).length:=by unfold Sm.vs;rw[List.length_map];exact cm
   obtain⟨b7,o7,e3,fc,bl⟩:=Sl.of_own (Sm.own_grown gf.o eh.o cz.o) (by omega);have bl:=bl k dx;clear dx;have eg:(Sm.vs P)[k]?=some (.string ⟨p.toArray⟩):=by unfold Sm.vs;rw[List.getElem?_map,hp];rfl
   rw[eg]at bl;obtain⟨sp,ei⟩:∃q:ByteArray,⟨p.toArray⟩=q:=⟨_,rfl⟩;have bf:=zBO pb T S b q4 g cd.o ey.o er.o HG.o a r h p (P.drop (k+1)).flatten x0 df.o (by rw[←HL.o];exact ai.o) (by rw[←HL.o];exact ch.o) bm.o aj dn.o;rw[ei]at bl bf;subst e3;clear hp cm eo hdr aj eg ei;go_wp2_with fail;refine bf.mono ?_;rintro e x1 ⟨ao,d,r',h',y,e1,f1,e2,rfl,bn,ag,hA⟩;obtain⟨sy,a1⟩:∃q,zA5 y=q:=⟨_,rfl⟩;have hcs:sX++sy=zA5 (Sm.F T S b (zAb T S (a++d))):=by rw[←en.o,←a1,U.encS_cat ec.o bn,ag]
   have fz:=zN6 rfl (by rw[hcs];exact Zh (zJx cd.o b (r:=r') (by rw[HL.o,e1,Zz]) ai.o ch.o) (by decide));have gu:=hy' hcs;have di:=hy' (zA0 eh.o ao);have a7:=hy' hA;have az:=hy' (show l=(a++d)++r' by rw[HL.o,e1,Zz]);have fj:=hy' f1;have fk:=hy' e2;rw[a1];clear ao e1 f1 e2 bn ag hA a1 hcs bf bl fc;go_wp2_with fail;exact⟨⟨k+1,a++d,r',h',by omega,by first|rfl|go_num,by rw[←gu.o],az.o,fj.o,fk.o,a7.o,di.o⟩,by simp[intOf];omega⟩
 obtain rfl:k=pn:=by omega
 have kI:¬(k:Int)<k:=by omega
 have aj:=b1.o;rw[YP (by rw[ez.o];exact Za _),Ki,ZC]at aj;obtain⟨rfl,rfl⟩:=zJs (fun c hc=>ai.o c (by rw[HL.o];exact Xq _ hc)) bm.o aj;have e5:a=l:=by rw[HL.o,ZC]
 subst e5;have bf:=zE5 pb T S b q4 g cd.o ey.o er.o HG.o a x0 df.o ai.o ch.o dn.o;clear aj;go_wp2_with fail;refine bf.mono ?_;rintro e x1 ⟨ao,y,rfl,bn,ag,hA⟩;obtain⟨sy,a1⟩:∃q,zA5 y=q:=⟨_,rfl⟩;obtain⟨sw,cb⟩:∃q,zA5 Wt=q:=⟨_,rfl⟩;have hcs:sX++sy=sw:=by rw[←en.o,←a1,U.encS_cat ec.o bn,ag,fu.o,cb]
 have fz:=zN6 hcs (by have:=zBj (z:=Wt) bz.o;have h2:=eu.o;rw[cb]at this;omega);have af:=hy' (zBT df.o HG.o ao);have a7:=hy' hA;have gx:=hy' (bc.o.trans (af.o.mono bc.o.size));have az:=et.o A6 wn c6 Wt sw x1 eu.o (by omega) bz.o cb (cw.o.below af.o af.o.size);rw[a1];clear ao bn ag hA a1 bf cb;go_wp2_with fail;refine az.mono ?_;rintro e x2 ⟨rfl,hb⟩;have br:=hy' (Rw.At.below a7.o hb);have bw:=hy' (af.o.trans (hb.mono af.o.size));have c8:(sX++sy == sw)=true:=by rw[hcs];show (sw.data == sw.data)=true;simp
 have gi:(sX++sy != sw)=false:=by simp[bne,c8]
 have dp:=zKP pb T b g x2 br.o;clear hb az;go_wp2_with fail;refine dp.mono ?_;rintro e x3 ⟨rfl,hb⟩;have cj:=hy' (Rw.At.below br.o hb);have dc:=hy' (bw.o.trans (hb.mono bw.o.size));clear hb dp;go_wp2_with fail;exact⟨⟨t+1,by omega,by first|rfl|go_num,dc.o,cj.o⟩,by simp[intOf];omega⟩
end Go.Proofs.YtdbpjmfflofadaaGreatDoor
