/- The law StreamNothing, by walking its text. -/
import Derived.Test.YtdbpjmfflofadaaGreatDoorSmAwake
import Derived.Test.YtdbpjmfflofadaaGreatDoorSlCut
import Derived.Test.YtdbpjmfflofadaaGreatDoorUtfJ
set_option maxRecDepth 100000
set_option maxHeartbeats 4000000
set_option linter.unusedVariables false
set_option linter.unusedSimpArgs false
set_option linter.unusedSectionVars false
namespace Go.Proofs.YtdbpjmfflofadaaGreatDoor
open Go.Proofs.Tryz
open Go.RowKit
theorem Sm.and2 (n:Int):∃c:Nat,bits .and .i64 n 3=(c:Int)∧c<4:=by
 have hm:(BitVec.ofInt 64 3).toNat=2 ^ 2-1:=by decide
 have key:(BitVec.ofInt 64 n &&& BitVec.ofInt 64 3).toNat=(n%((2 ^ 64:Nat):Int)).toNat%2 ^ 2:=by
  rw[XC,Xo,hm,Yj]
 refine⟨(n%((2 ^ 64:Nat):Int)).toNat%2 ^ 2,?_,?_⟩
 · show IntKind.i64.wrap ((BitVec.ofInt 64 n &&& BitVec.ofInt 64 3).toNat:Nat)=_;rw[key,Ya];omega
 have:(2:Nat) ^ 2=4:=by decide
 omega
theorem Sm.beq_same (s:ByteArray):(s == s)=true:=by show (s.data == s.data)=true;simp
theorem Sm.bne_same (s:ByteArray):(s != s)=false:=by simp[bne,Sm.beq_same]
theorem Tp.streamNothing_any (w:World) (A XA PA MA:Option Addr) (n c xn xc pn pc mn mc:Nat) (T0:List Rw.Row) (E0 P M:List Int) (hT:Tx.In A XA PA MA n c xn xc pn pc mn mc T0 E0 P M w) (b:Bool) (em:Int) (hL:Nf.Laid w) :
 Calls prog 7 #[.agg #[.slice A n c,.slice XA xn xc,.slice PA pn pc,.slice MA mn mc],.bool b,.int .i64 em] w fun e w'=>e=.returned (.bool true)∧Below w.heap.size w w':=by
 have aq:=hy' (fun W (hW:Below w.heap.size w W)=>zHF A XA PA MA n c xn xc pn pc mn mc T0 E0 P M 12 W (by decide) (hT.below hW) (Rw.Laid.next hL.1 hW));have dv:=hy' (fun W (hW:Below w.heap.size w W)=>zFM W (hL.next hW));obtain⟨wa,cb⟩:∃wa,w.alloc (.cells #[.slice A n c,.slice XA xn xc,.slice PA pn pc,.slice MA mn mc] 40)=wa:=⟨_,rfl⟩;have ec:Below w.heap.size w wa:=by rw[←cb];exact (Zd _ _).alloc (Za _) _
 have af:Rw.At wa w.heap.size 40 [.slice A n c,.slice XA xn xc,.slice PA pn pc,.slice MA mn mc]:=by rw[←cb];exact Rw.At.new w 40 [.slice A n c,.slice XA xn xc,.slice PA pn pc,.slice MA mn mc]
 have du:=hy' cb;have bw:=hy' ec;have ea:=hy' af;have HH:=hy' hL.2;clear cb ec af hT hL;go_enter func7,ntmps7;go_upto_region 1 with (fail)
 rw[du.o];go_wp2_with fail;refine (dv.o wa bw.o).mono ?_;rintro e w1 ⟨rfl,bl⟩;have ag:=ea.o.below bl;have ai:=hy' (bw.o.trans (bl.mono bw.o.size));have x0:=ag.cell 0 rfl;have x1:=ag.cell 1 rfl;have x2:=ag.cell 2 rfl;have x3:=ag.cell 3 rfl;have xl:=ag.lt;clear bl ag;go_wp2_with fail;refine (aq.o w1 ai.o).mono ?_;rintro e w2 ⟨p,v2,T,E,S,l,Al,cl,rfl,cx,bg,hR,az,cm,er,bm,cr⟩;obtain⟨pb,rfl,ez⟩:=cx.form;obtain⟨A2,c2,XA2,xc2,rfl,cq⟩:=id bg;obtain⟨n2,b9⟩:∃k,T.length=k:=⟨_,rfl⟩;obtain⟨xn2,ay⟩:∃k,E.length=k:=⟨_,rfl⟩;obtain⟨ln,cy⟩:∃k,l.length=k:=⟨_,rfl⟩;unfold zB8 at bg bm ⊢;rw[b9,ay]at bg ⊢;simp only[b9,ay]at bm;rw[cy]at az er bm ⊢;obtain⟨w3,bh⟩:∃w3,w2.alloc (.cells #[.slice A2 n2 c2,.slice XA2 xn2 xc2] 38)=w3:=⟨_,rfl⟩;have bp:Below w2.heap.size w2 w3:=by rw[←bh];exact (Zd _ _).alloc (Za _) _
 have aj:Rw.At w3 w2.heap.size 38 [.slice A2 n2 c2,.slice XA2 xn2 xc2]:=by rw[←bh];exact Rw.At.new w2 38 [.slice A2 n2 c2,.slice XA2 xn2 xc2]
 have eh:=hy' bh;have cu:=hy' (ai.o.trans ((cr.trans (bp.mono cr.size)).mono ai.o.size));have fj:=hy' aj;have bc:=hy' (cx.below bp);have fg:=hy' (bg.below bp);have dr:=hy' (zA6 az bp (Za _));have HR:=hy' hR;have bb:=hy' cm;have cd:=hy' cy;have e9:=hy' b9;have fe:Hy (∀w'',w3.grownBy w'' (Value.slice Al ln cl).ownBlock→Ud.Is w'' (.pointer (some ⟨pb,0,none⟩)) T S∧Md.Doc w'' (.agg #[.slice A2 n2 c2,.slice XA2 xn2 xc2]) T E):=hy' fun w'' hg=>bm w'' (zA0 (by rw[←bh];exact Yr _ _ _) hg)
 have fh:=hy' (fun x (hx:x∈l)=>Tx.isC_i32 (cm x hx));have z0:=aj.cell 0 rfl;have z1:=aj.cell 1 rfl;have zl:=aj.lt;clear x0 x1 x2 x3 xl bm bg cq cx hR az cm cy b9 ay bh bp aj cr aq dv du bw ea;go_upto_region 4 with (fail)
 rw[eh.o];have cp:=HR.o.ok;have ct:=hy' (Sl.of_own dr.o);have ba:=hy' (HH.o.next cu.o);have fk:=hy' (Zd w3.heap.size w3)
 have ey:Hy (∀(A':Option Addr) (m c':Nat) (z:List Int) (sq:ByteArray) (W:World),z.length=m→m≤2000→(∀c∈z,C.isC c=true)→zA5 z=sq→Sl W W.heap.size A' (z.map (Value.int .i64))→Calls prog 17 #[.slice A' m c'] W fun e w'=>e=.returned (.string sq)∧Below W.heap.size W w'):=hy' fun A' m c' z sq W hz hm ew hs hA=>by
  have:=zGi A' m c' z W hz (by omega) hA ew;rw[hs]at this;exact this
 have eb:(Nf.fl T l).length≤1024:=zLD cp (by rw[cd.o];omega);obtain⟨fm,ao⟩:∃fm:Int,(if b=true then 2 else 1)=fm:=⟨_,rfl⟩
 have a7:Hy (∀W,Calls prog 10 #[.pointer (some ⟨pb,0,none⟩),.int .i64 fm] W fun e w'=>e=.returned (.tuple #[.pointer (some ⟨W.heap.size,0,none⟩),.int .i64 0])∧Below W.heap.size W w'∧Sm.At w' W.heap.size (Sm.v pb) (Sm.fv b) (Sm.bad 0)):=hy' fun W=>by
  have:=zE4 pb b W;rw[ao]at this;exact this
 have c1:Hy (fm=if b=true then 2 else 1):=hy' ao.symm;obtain⟨bf,fo,ej⟩:=Sm.and2 em;have bz:=hy' eb;have ar:=hy' cp;obtain⟨sl,cg⟩:∃q,zA5 l=q:=⟨_,rfl⟩;obtain⟨bs,b6⟩:∃q,zA4 l=q:=⟨_,rfl⟩;have cf:sl=⟨bs.toArray⟩:=by rw[←cg,zAG bb.o,b6]
 have e6:bs.length≤10000:=by
  have h1:(zA4 l).length≤4*l.length:=zCA l;have h2:=cd.o;rw[b6]at h1;omega
 obtain⟨bn,ei⟩:∃q,sl.size=q:=⟨_,rfl⟩;have dt:bs.length=bn:=by rw[←ei,cf];rfl
 have e8:=hy' cg;have e4:=hy' b6;have et:=hy' cf;have dx:=hy' dt;have bj:bn≤10000:=by omega
 have e5:=hy' bj;clear eb cp cg cf b6 e6 dt dr ao bj;go_upto_if 41 with (fail)
 go_cut [11] (fun s wx=>s=.int .i64 fm∧w3=wx)
 case first =>
  cases b
  · have ao:=c1.o;simp only[ZF,Ye]at ao;subst ao;go_wp2_with fail;go_meet;exact⟨by first|rfl|trivial,by first|rfl|trivial⟩
  have ao:=c1.o;simp only[Yo]at ao;subst ao;go_wp2_with fail;go_meet;exact⟨by first|rfl|trivial,by first|rfl|trivial⟩
 obtain⟨rfl,rfl⟩:=hcut;go_wp2_with fail;refine (a7.o _).mono ?_;rintro e q5 ⟨rfl,hb,af⟩;obtain⟨g,hg⟩:∃g,w3.heap.size=g:=⟨_,rfl⟩;have HG:Hy (w3.heap.size≤g):=hy' (Qm hg);have cv:=hy' hb;rw[hg]at af;have dm:=hy' af;rw[hg];clear hb af hg z0 z1 zl;go_wp2_with fail;refine (a7.o _).mono ?_;rintro e q6 ⟨rfl,hb,af⟩;have ef:g<q5.heap.size:=Rw.At.lt dm.o;obtain⟨g2,b4⟩:∃g,q5.heap.size=g:=⟨_,rfl⟩;rw[b4]at ef af;have b8:Hy (w3.heap.size≤g2):=hy' (by rw[←b4];exact cv.o.size);have bi:Hy (g≠g2):=hy' (by omega);have b7:=hy' (cv.o.trans (hb.mono cv.o.size));have ep:=hy' (Rw.At.below dm.o hb);have e0:=hy' af;rw[b4];clear hb af b4 ef a7;go_wp2_with fail;have b5:=ey.o Al ln cl l sl q6 cd.o (by omega) bb.o e8.o (ct.o.below b7.o b7.o.size);refine b5.mono ?_;rintro e r1 ⟨rfl,hb⟩;have eo:=hy' (b7.o.trans (hb.mono b7.o.size));have au:=hy' (Rw.At.below ep.o hb);have av:=hy' (Rw.At.below e0.o hb);clear hb b5;go_wp2_with fail;go_loopw [17,18,19,20,21,22,23,72] (fun _ _ _ _ _ _ _ vi wr=>∃(i:Nat) (a r:List Int) (h:List UInt8),i≤bn∧vi=.int .i64 i∧l=a++r∧zBs r h∧zA4 r=h++bs.drop i∧Sm.At wr g (Sm.v pb) (Sm.fv b) (zAi T S a h)∧Sm.At wr g2 (Sm.v pb) (Sm.fv b) (zAi T S a h)∧Below w3.heap.size w3 wr) (fun _ _ _ _ _ _ _ vi _=>bn-(intOf vi).toNat)
 case atStart=>exact⟨0,[],l,[],Zq _,rfl,rfl,.inl rfl,by rw[Xg,e4.o];rfl,au.o,av.o,eo.o⟩
 obtain⟨i,a,r,h,hi,rfl,hl,bu,ak,af,bq,bk⟩:=hrel;obtain⟨x0,rfl⟩:∃q:World,q=wr:=⟨_,rfl⟩;have HL:=hy' hl;have ap:=hy' bu;have a8:=hy' ak;have c6:=hy' af;have c7:=hy' bq;have cz:=hy' bk;have b1:Hy (∀c∈a++r,C.isC c=true):=hy' (by rw[←HL.o];exact bb.o);have cn:Hy ((Nf.fl T (a++r)).length≤1024):=hy' (by rw[←HL.o];exact bz.o);clear hl bu ak af bq bk
 by_cases hib:i<bn
 rotate_left
 · obtain rfl:i=bn:=by omega
   have iI:¬(i:Int)<i:=by omega
   have ak:=a8.o;rw[YP (by rw[dx.o];exact Za _),ZC]at ak;obtain⟨rfl,rfl⟩:=zJs (fun c hc=>b1.o c (Xq _ hc)) ap.o ak;have eg:a=l:=by rw[HL.o,ZC]
   subst eg;have bo:=zE5 pb T S b w3 g ar.o bc.o ba.o HG.o a x0 cz.o bb.o bz.o c6.o;clear ak;go_wp2_with fail;refine bo.mono ?_;rintro e x1 ⟨ae,y,rfl,aw,aa,hA⟩;have au:=hy' hA;have av:=hy' (c7.o.other ae bi.o.symm);have ai:=hy' (zBT cz.o HG.o ae);have ax:=hy' aa;obtain⟨sy,a1⟩:∃q,zA5 y=q:=⟨_,rfl⟩;have ch:=hy' a1;rw[a1];have br:=zE5 pb T S b w3 g2 ar.o bc.o ba.o b8.o a x1 ai.o bb.o bz.o av.o;clear ae aw aa hA a1 bo;go_wp2_with fail;refine br.mono ?_;rintro e x2 ⟨ae,yy,rfl,aw,aa,hA⟩;obtain rfl:yy=y:=XD (aa.trans ax.o.symm);rw[ch.o];have bx:=hy' (au.o.other ae bi.o);have bt:=hy' (zBT ai.o b8.o ae);have dz:=zSu pb T S b w3 g ar.o bc.o ba.o HG.o x2 bt.o bx.o;clear ae aw aa hA br;go_wp2_with fail;refine dz.mono ?_;rintro e x3 ⟨rfl,ae,hA⟩;have dw:=hy' hA;have ah:=hy' (zBT bt.o HG.o ae);have c8:=zKP pb T b g x3 hA;have bl:=Sm.beq_same sy;clear ae hA dz;go_wp2_with fail;refine c8.mono ?_;rintro e x4 ⟨rfl,hb⟩;have a6:=hy' (ah.o.trans (hb.mono ah.o.size));clear hb c8;go_wp2_with fail;go_ret;exact⟨by first|rfl|(simp;done),cu.o.trans (a6.o.mono cu.o.size)⟩
 have iI:(i:Int)<bn:=by omega
 have bI:(bn:Int)≤10000:=by have:=e5.o;omega
 obtain⟨β,hβ⟩:∃β,bs[i]?=some β:=⟨_,Zb (by rw[dx.o];exact hib)⟩;obtain⟨dk,dy⟩:=List.getElem?_eq_some_iff.1 hβ;have hdr:bs.drop i=[β]++bs.drop (i+1):=by rw[ZJ dk,dy];rfl
 have hex:sl.extract i (i+1)=⟨[β].toArray⟩:=by rw[et.o];exact zKO bs hβ
 have ek:=hy' hdr;have dh:=hy' hex;clear hβ dk dy hdr hex;go_wp2_with fail;go_loopw [18,19,77] (fun _ _ vj wr=>∃(j:Nat),j≤bf∧vj=.int .i64 j∧Sm.At wr g (Sm.v pb) (Sm.fv b) (zAi T S a h)∧Sm.At wr g2 (Sm.v pb) (Sm.fv b) (zAi T S a h)∧Below w3.heap.size w3 wr) (fun _ _ vj _=>bf-(intOf vj).toNat)
 case atStart=>exact⟨0,Zq _,rfl,c6.o,c7.o,cz.o⟩
 obtain⟨j,hj,rfl,af,bq,bk⟩:=hrel;obtain⟨y0,rfl⟩:∃q:World,q=wr:=⟨_,rfl⟩;have dn:=hy' af;have dp:=hy' bq;have cc:=hy' bk;clear af bq bk
 by_cases hje:j<bf
 · have jI:(j:Int)<bf:=by omega
   have ed:=zN7 pb T S b w3 g ar.o bc.o ba.o HG.o a r h (bs.drop i) y0 cc.o b1.o cn.o ap.o a8.o dn.o;go_wp2_with fail;refine ed.mono ?_;rintro e y1 ⟨rfl,ae,hA⟩;have au:=hy' hA;have av:=hy' (dp.o.other ae bi.o.symm);have ai:=hy' (zBT cc.o HG.o ae);clear ae hA ed;go_wp2_with fail;exact⟨⟨j+1,by omega,by first|rfl|go_num,au.o,av.o,ai.o⟩,by simp[intOf];omega⟩
 obtain rfl:j=bf:=by omega
 have jI:¬(j:Int)<j:=by omega
 have fp:(0:Int)≤i:=by omega
 have fc:(i:Int)+1≤bn:=by omega
 have ak:=a8.o;rw[ek.o]at ak;have ck:=hy' ak;have bo:=zBO pb T S b w3 g ar.o bc.o ba.o HG.o a r h [β] (bs.drop (i+1)) y0 cc.o b1.o cn.o ap.o ak dn.o;clear ak;go_wp2_with fail;rw[dh.o];refine bo.mono ?_;rintro e y1 ⟨ae,d,r',h',y,e1,f1,e2,rfl,aw,aa,hA⟩;have au:=hy' hA;have av:=hy' (dp.o.other ae bi.o.symm);have ai:=hy' (zBT cc.o HG.o ae);have b5:=hy' e1;have b2:=hy' f1;have di:=hy' e2;have ax:=hy' aa;obtain⟨sy,a1⟩:∃q,zA5 y=q:=⟨_,rfl⟩;have ch:=hy' a1;rw[a1];have br:=zBO pb T S b w3 g2 ar.o bc.o ba.o b8.o a r h [β] (bs.drop (i+1)) y1 ai.o b1.o cn.o ap.o ck.o av.o;clear ae e1 f1 e2 aw aa hA a1 bo;go_wp2_with fail;rw[dh.o];refine br.mono ?_;rintro e y2 ⟨ae,d2,r2,h2,yy,e1,f1,e2,rfl,aw,aa,hA⟩;obtain⟨rfl,rfl,rfl⟩:=zDf (e1.symm.trans b5.o) f1 b2.o e2 di.o;obtain rfl:yy=y:=XD (aa.trans ax.o.symm);rw[ch.o];have bx:=hy' (au.o.other ae bi.o);have en:=hy' hA;have bt:=hy' (zBT ai.o b8.o ae);have b3:l=(a++d2)++r2:=by rw[HL.o,e1,Zz]
 have e7:=hy' b3;have cj:∀c∈(a++d2)++r2,C.isC c=true:=by rw[←b3];exact bb.o
 have cw:(Nf.fl T ((a++d2)++r2)).length≤1024:=by rw[←b3];exact bz.o
 have df:=hy' (fun W hA=>zF7 pb T S b g ar.o (a++d2) r2 h2 W cj cw b2.o hA);have dl:=hy' (fun W hA=>zF7 pb T S b g2 ar.o (a++d2) r2 h2 W cj cw b2.o hA);obtain⟨wv,dc⟩:∃q:Int,((((zA4 (a++d2)).length+h2.length:Nat):Int)-((zA4 (zAb T S (a++d2))).length:Nat))=q:=⟨_,rfl⟩;simp only[dc]at df dl;have bl:=Sm.bne_same sy;clear ae e1 f1 e2 aw aa hA br b3 cj cw dc;go_wp2_with fail;refine (df.o y2 bx.o).mono ?_;rintro e y3 ⟨rfl,hb⟩;have dw:=hy' (Rw.At.below bx.o hb);have ee:=hy' (Rw.At.below en.o hb);have ah:=hy' (bt.o.trans (hb.mono bt.o.size));clear hb;go_wp2_with fail;refine (dl.o y3 ee.o).mono ?_;rintro e y4 ⟨rfl,hb⟩;have eu:=hy' (Rw.At.below dw.o hb);have e3:=hy' (Rw.At.below ee.o hb);have a6:=hy' (ah.o.trans (hb.mono ah.o.size));clear hb;go_wp2_with fail;exact⟨⟨i+1,a++d2,r2,h2,by omega,by first|rfl|go_num,e7.o,b2.o,di.o,eu.o,e3.o,a6.o⟩,by simp[intOf];omega⟩
end Go.Proofs.YtdbpjmfflofadaaGreatDoor
