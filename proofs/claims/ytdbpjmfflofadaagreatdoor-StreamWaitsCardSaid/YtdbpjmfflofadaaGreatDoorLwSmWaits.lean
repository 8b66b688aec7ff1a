/- The law StreamWaits, by walking its text. -/
import Derived.Test.YtdbpjmfflofadaaGreatDoorSmAwake
import Derived.Test.YtdbpjmfflofadaaGreatDoorSmPieces
import Derived.Test.YtdbpjmfflofadaaGreatDoorSlCut
import Derived.Test.YtdbpjmfflofadaaGreatDoorUtfJ
set_option maxRecDepth 100000
set_option maxHeartbeats 4000000
set_option linter.unusedVariables false
set_option linter.unusedSimpArgs false
set_option linter.unusedSectionVars false
namespace Go.Proofs.YtdbpjmfflofadaaGreatDoor
open Go.Proofs.Tryz
open Go.RowKit
theorem Sm.fits_lt {c:Int} {r:List Int} {h:List UInt8} (hc:U.isC c=true) (hf:zBs (c::r) h):h.length<(zAp c).length:=by
 rcases hf with rfl|⟨c',b',t,hb,ht,h2⟩
 · exact (zCf c).1
 obtain⟨rfl,_⟩:=Qe hb;have h4:=ZR List.length h2;rw[Zc]at h4;have h5:0<t.length:=List.length_pos_iff.2 ht;omega
theorem Sm.encs_len (l:List Int) {i:Nat} {c:Int} (h:l[i]?=some c):(zA4 (l.take (i+1))).length=(zA4 (l.take i)).length+(zAp c).length:=by
 rw[Zy,h,XK,zAq,Zc,zAW];simp[zA4]
theorem Sm.encs_mono (l:List Int) {i j:Nat} (h:i≤j):(zA4 (l.take i)).length≤(zA4 (l.take j)).length:=by
 have e:l.take j=l.take i++(l.drop i).take (j-i):=by rw[←XQ,show i+(j-i)=j by omega]
 rw[e,zAq,Zc];omega
theorem Tp.streamWaits_any (w:World) (A XA PA MA:Option Addr) (n c xn xc pn pc mn mc:Nat) (T0:List Rw.Row) (E0 P M:List Int) (hT:Tx.In A XA PA MA n c xn xc pn pc mn mc T0 E0 P M w) (QA:Option Addr) (qn qc:Nat) (qs:List Int) (hq:IsRow .i64 w QA qn qc qs) (hh:∀x∈qs,-9223372036854775808≤x∧x≤9223372036854775807) (hL:Nf.Laid w) :
 Calls prog 5 #[.agg #[.slice A n c,.slice XA xn xc,.slice PA pn pc,.slice MA mn mc],.slice QA qn qc] w fun e w'=>e=.returned (.bool true)∧Below w.heap.size w w':=by
 have av:=hy' (fun W (hW:Below w.heap.size w W)=>zHF A XA PA MA n c xn xc pn pc mn mc T0 E0 P M 30 W (by decide) (hT.below hW) (Rw.Laid.next hL.1 hW));have ed:=hy' (fun W (hW:Below w.heap.size w W)=>zFM W (hL.next hW));obtain⟨wa,b1⟩:∃wa,w.alloc (.cells #[.slice A n c,.slice XA xn xc,.slice PA pn pc,.slice MA mn mc] 40)=wa:=⟨_,rfl⟩;have cc:Below w.heap.size w wa:=by rw[←b1];exact (Zd _ _).alloc (Za _) _
 have ar:Rw.At wa w.heap.size 40 [.slice A n c,.slice XA xn xc,.slice PA pn pc,.slice MA mn mc]:=by rw[←b1];exact Rw.At.new w 40 [.slice A n c,.slice XA xn xc,.slice PA pn pc,.slice MA mn mc]
 have en:=hy' b1;have bw:=hy' cc;have eg:=hy' ar;obtain⟨hj,gg,fq⟩:=hq.len_le;have fz:=hy' ((hq.sl qn (Za _)).below cc cc.size);have gh:Hy ((qs.take qn).length=qn):=hy' (by rw[Zn];omega);have ft:Hy (qn≤maxLen):=hy' (by omega);have HH:=hy' hL.2;clear b1 cc ar hT hL hq hh hj gg fq;go_enter func5,ntmps5;go_upto_region 1 with (fail)
 rw[en.o];go_wp2_with fail;refine (ed.o wa bw.o).mono ?_;rintro e w1 ⟨rfl,bs⟩;have ai:=eg.o.below bs;have cp:=hy' (bw.o.trans (bs.mono bw.o.size));have x0:=ai.cell 0 rfl;have x1:=ai.cell 1 rfl;have x2:=ai.cell 2 rfl;have x3:=ai.cell 3 rfl;have xl:=ai.lt;clear ai;go_wp2_with fail;refine (av.o w1 cp.o).mono ?_;rintro e w2 ⟨p,v2,T,E,S,l,Al,cl,rfl,dm,bp,hR,a8,bb,gv,bn,bk⟩;obtain⟨pb,rfl,fx⟩:=dm.form;obtain⟨A2,c2,XA2,xc2,rfl,dk⟩:=id bp;obtain⟨n2,cb⟩:∃k,T.length=k:=⟨_,rfl⟩;obtain⟨xn2,a7⟩:∃k,E.length=k:=⟨_,rfl⟩;obtain⟨ln,dp⟩:∃k,l.length=k:=⟨_,rfl⟩;unfold zB8 at bp bn ⊢;rw[cb,a7]at bp ⊢;simp only[cb,a7]at bn;rw[dp]at a8 gv bn ⊢;obtain⟨w3,bi⟩:∃w3,w2.alloc (.cells #[.slice A2 n2 c2,.slice XA2 xn2 xc2] 38)=w3:=⟨_,rfl⟩;have bg:Below w2.heap.size w2 w3:=by rw[←bi];exact (Zd _ _).alloc (Za _) _
 have ao:Rw.At w3 w2.heap.size 38 [.slice A2 n2 c2,.slice XA2 xn2 xc2]:=by rw[←bi];exact Rw.At.new w2 38 [.slice A2 n2 c2,.slice XA2 xn2 xc2]
 have gl:=hy' bi;have cr:=hy' (cp.o.trans ((bk.trans (bg.mono bk.size)).mono cp.o.size));have ib:=hy' ao;have ap:=hy' (bs.trans ((bk.trans (bg.mono bk.size)).mono bs.size));have ei:=hy' (dm.below bg);have ij:=hy' (bp.below bg);have eb:=hy' (zA6 a8 bg (Za _));have HR:=hy' hR;have bf:=hy' bb;have ay:=hy' dp;have ig:=hy' cb;have ia:Hy (∀w'',w3.grownBy w'' (Value.slice Al ln cl).ownBlock→Ud.Is w'' (.pointer (some ⟨pb,0,none⟩)) T S∧Md.Doc w'' (.agg #[.slice A2 n2 c2,.slice XA2 xn2 xc2]) T E):=hy' fun w'' hg=>bn w'' (zA0 (by rw[←bi];exact Yr _ _ _) hg)
 have ik:=hy' (fun x (hx:x∈l)=>Tx.isC_i32 (bb x hx));have z0:=ao.cell 0 rfl;have z1:=ao.cell 1 rfl;have zl:=ao.lt;clear x0 x1 x2 x3 xl bn bp dk dm hR a8 bb dp cb a7 bi bg ao bk bs av ed en bw eg;go_upto_region 4 with (fail)
 rw[gl.o];have b3:=HR.o.ok;have br:=hy' (Sl.of_own eb.o);have e3:=hy' (HH.o.next cr.o);have il:=hy' (Zd w3.heap.size w3)
 have fw:Hy (∀(A':Option Addr) (m c':Nat) (z:List Int) (sq:ByteArray) (W:World),z.length=m→m≤2000→(∀c∈z,C.isC c=true)→zA5 z=sq→Sl W W.heap.size A' (z.map (Value.int .i64))→Calls prog 17 #[.slice A' m c'] W fun e w'=>e=.returned (.string sq)∧Below W.heap.size W w'):=hy' fun A' m c' z sq W hz hm fu hs hA=>by
  have:=zGi A' m c' z W hz (by omega) hA fu;rw[hs]at this;exact this
 have gq:Hy (∀(s:ByteArray) (W:World),Below w3.heap.size w3 W→s.size≤100000→Calls prog 16 #[.string s,.slice QA qn qc] W (zFm s.data.toList W)):=hy' fun s W hW hs =>
  zGZ s QA qn qc (qs.take qn) W hs gh.o ft.o (fz.o.below (ap.o.trans (hW.mono ap.o.size)) (ap.o.trans (hW.mono ap.o.size)).size)
 have eh:(Nf.fl T l).length≤1024:=zLD b3 (by rw[ay.o];omega);have bo:Hy (∀W,Calls prog 10 #[.pointer (some ⟨pb,0,none⟩),.int .i64 2] W fun e w'=>e=.returned (.tuple #[.pointer (some ⟨W.heap.size,0,none⟩),.int .i64 0])∧Below W.heap.size W w'∧Sm.At w' W.heap.size (Sm.v pb) (Sm.fv true) (Sm.bad 0)):=hy' fun W=>zE4 pb true W
 have dz:=hy' eh;have ew:=hy' b3;have ho:Hy (∀(y:Int) W,C.isC y=true→Calls prog 19 #[.int .i64 y] W fun e w'=>e=.returned (.string ⟨(zAp y).toArray⟩)∧Below W.heap.size W w'):=hy' fun y W h=>zIJ y W h
 have gi:Hy (∀c W,Below w3.heap.size w3 W→Calls prog 20 #[.pointer (some ⟨pb,0,none⟩),.int .i32 c] W fun e w'=>e=.returned (.bool (zA7 T S c))∧Below W.heap.size W w'):=hy' fun c W hW=>zJt _ T S c W b3 (ei.o.below hW)
 obtain⟨sl,bx⟩:∃q,zA5 l=q:=⟨_,rfl⟩;have dx:sl.data.toList=zA4 l:=by rw[←bx,zAG bf.o]
 have e0:sl.size≤100000:=by
  have:=zBj (z:=l) bf.o;have h2:=ay.o;rw[bx]at this;omega
 have fo:=hy' dx;have fp:=hy' e0;have h7:=hy' bx;clear eh b3 bx dx e0 eb;go_wp2_with fail;refine (bo.o w3).mono ?_;rintro e q5 ⟨rfl,hb,ar⟩;obtain⟨g,hg⟩:∃g,w3.heap.size=g:=⟨_,rfl⟩;have HG:Hy (w3.heap.size≤g):=hy' (Qm hg);have b9:=hy' hb;rw[hg]at ar;have fh:=hy' ar;rw[hg];clear hb ar hg bo z0 z1 zl;go_wp2_with fail;have ee:=fw.o Al ln cl l sl q5 ay.o (by omega) bf.o h7.o (br.o.below b9.o b9.o.size);refine ee.mono ?_;rintro e r1 ⟨rfl,hb⟩;have cm:=hy' (b9.o.trans (hb.mono b9.o.size));have dy:=hy' (Rw.At.below fh.o hb);clear hb ee;go_wp2_with fail;refine (gq.o sl r1 cm.o fp.o).mono ?_;rintro e r2 ⟨P,A7,c7,rfl,cx,cy,ct,hb⟩;have gu:=hy' (cm.o.trans (hb.mono cm.o.size));have e5:=hy' (Rw.At.below dy.o hb);rw[fo.o]at cx cy;have bm:g<r1.heap.size:=Rw.At.lt dy.o;obtain⟨pn,hpn⟩:∃q,P.length=q:=⟨_,rfl⟩;rw[hpn]at ct cy ⊢;have h6:=hy' hpn;have gm:=hy' cx;have gw:=hy' ct
 have ez:(zA4 l).length≤10000:=by
  have h1:(zA4 l).length≤4*l.length:=zCA l;have h2:=ay.o;omega
 have h8:pn≤10000:=by omega
 have e9:=hy' ez;have dr:=hy' bm;clear hb cx cy ct hpn bm ez;go_wp2_with fail;go_loopw [12,14,15,16,17,18,20,21,50] (fun vd _ _ _ _ _ _ _ vi wr=>∃(k:Nat) (a r:List Int) (h:List UInt8),k≤pn∧vi=.int .i64 k∧vd=.int .i64 ((zA4 a).length+h.length:Nat)∧l=a++r∧zBs r h∧zA4 r=h++(P.drop k).flatten∧Sm.At wr g (Sm.v pb) (Sm.fv true) (zAi T S a h)∧r2.grownBy wr (some g)) (fun _ _ _ _ _ _ _ _ vi _=>pn-(intOf vi).toNat)
 case atStart=>exact⟨0,[],l,[],Zq _,rfl,rfl,rfl,.inl rfl,by rw[Xg,gm.o];rfl,e5.o,QO _ _⟩
 obtain⟨k,a,r,h,hk,rfl,rfl,hl,ae,ax,ar,aw⟩:=hrel;obtain⟨x0,rfl⟩:∃q:World,q=wr:=⟨_,rfl⟩;have HL:=hy' hl;have cg:=hy' ae;have cz:=hy' ax;have e4:=hy' ar;have ef:=hy' aw;have du:=hy' (zBT gu.o HG.o aw);obtain⟨dn,cv⟩:∃q,(zA4 a).length+h.length=q:=⟨_,rfl⟩;rw[cv];have fm:=hy' cv;clear hl ae ax ar aw cv
 by_cases hkp:k<pn
 rotate_left
 · obtain rfl:k=pn:=by omega
   have kI:¬(k:Int)<k:=by omega
   go_wp2_with fail;go_ret;exact⟨rfl,cr.o.trans (du.o.mono cr.o.size)⟩
 have kI:(k:Int)<pn:=by omega
 obtain⟨p,hp⟩:∃p,P[k]?=some p:=⟨_,Zb (by rw[h6.o];exact hkp)⟩;obtain⟨cj,er⟩:=List.getElem?_eq_some_iff.1 hp;have hdr:(P.drop k).flatten=p++(P.drop (k+1)).flatten:=by rw[ZJ cj,er,Xi]
 have ax:=cz.o;rw[hdr]at ax;have ec:k<(Sm.vs P).length:=by unfold Sm.vs;rw[List.length_map];exact cj
 obtain⟨b7,o7,gf,e6,bj⟩:=Sl.of_own (Sm.own_grown gw.o ef.o dr.o) (by omega);have bj:=bj k ec;clear ec;have eo:(Sm.vs P)[k]?=some (.string ⟨p.toArray⟩):=by unfold Sm.vs;rw[List.getElem?_map,hp];rfl
 rw[eo]at bj
 have aj:dn+p.length+((P.drop (k+1)).flatten).length=(zA4 l).length:=by
  have h1:=ZR List.length ax;rw[Zc,Zc]at h1;have h2:(zA4 l).length=(zA4 a).length+(zA4 r).length:=by rw[HL.o,zAq,Zc]
  have h3:=fm.o;omega
 have c1:=hy' aj;have dt:=zBO pb T S true w3 g ew.o ei.o e3.o HG.o a r h p (P.drop (k+1)).flatten x0 du.o (by rw[←HL.o];exact bf.o) (by rw[←HL.o];exact dz.o) cg.o ax e4.o;obtain⟨sp,cq⟩:∃q:ByteArray,⟨p.toArray⟩=q:=⟨_,rfl⟩;obtain⟨ps,cd⟩:∃q,p.length=q:=⟨_,rfl⟩;have fy:sp.size=ps:=by rw[←cq,←cd];rfl
 rw[cq]at bj dt;subst fy;have gy:=hy' cd;subst gf;have pI:(dn:Int)+sp.size≤10000:=by have:=e9.o;omega
 have p0:(0:Int)≤dn:=by omega
 clear hp cj er hdr ax eo cq aj cd;go_wp2_with fail;refine dt.mono ?_;rintro e x1 ⟨aw,d,r',h',y,e1,f1,e2,rfl,fe,cn,hA⟩;have c6:=hy' (zA0 ef.o aw);have aa:=hy' (zBT du.o HG.o aw);have ba:=hy' hA;have b4:l=(a++d)++r':=by rw[HL.o,e1,Zz]
 have aq:(zA4 (a++d)).length+h'.length=dn+sp.size:=by
  have h1:=ZR List.length e2;rw[Zc]at h1;have h2:(zA4 l).length=(zA4 (a++d)).length+(zA4 r').length:=by rw[b4,zAq,Zc]
  have h3:=c1.o;have h4:=gy.o;omega
 obtain⟨a1,eu⟩:∃q,a++d=q:=⟨_,rfl⟩;rw[eu]at b4 aq hA ba;obtain⟨sy,ep⟩:∃q,zA5 y=q:=⟨_,rfl⟩;rw[ep];obtain⟨d1,ek⟩:∃q,dn+sp.size=q:=⟨_,rfl⟩;have ey:(dn:Int)+sp.size=d1:=by omega
 have fk:=hy' ey;rw[ek]at aq;have bh:=hy' b4;have ah:=hy' aq;have dh:=hy' f1;have fc:=hy' e2;have h9:d1≤10000:=by omega
 clear aw e1 f1 e2 fe cn hA b4 aq eu ep dt bj e6 ek ey;go_upto_block 2 with (fail)
 rw[fk.o];go_cut [18] (fun s wx=>s=.int .i64 ((zA4 (zAb T S a1)).length:Nat)∧Below x1.heap.size x1 wx)
 case rest =>
  obtain⟨rfl,bq⟩:=hcut;obtain⟨x2,rfl⟩:∃q:World,q=wc:=⟨_,rfl⟩;have bz:=zF7 pb T S true g ew.o a1 r' h' x2 (by rw[←bh.o];exact bf.o) (by rw[←bh.o];exact dz.o) dh.o (Rw.At.below ba.o bq);rw[ah.o]at bz;obtain⟨lc,bb⟩:∃q,(zA4 (zAb T S a1)).length=q:=⟨_,rfl⟩
  have ic:lc≤d1:=by
   have h1:(zA4 (zAb T S a1)).length≤(zA4 a1).length:=by
    conv=>rhs;rw[←Zu (zAF (zA7 T S) a1) a1,zAq,Zc]
    exact Km _ _
   have:=ah.o;omega
  rw[bb]at bz ⊢;have fg:=hy' (zA0 c6.o (zAo bq));have cu:=hy' (Rw.At.below ba.o bq);have e7:=hy' (aa.o.trans (bq.mono aa.o.size));clear bq bb;go_wp2_with fail;refine bz.mono ?_;rintro e x3 ⟨rfl,hb⟩;have gz:=hy' (zA0 fg.o (zAo hb));have df:=hy' (Rw.At.below cu.o hb);clear hb bz;go_wp2_with fail;exact⟨⟨k+1,a1,r',h',by omega,by first|rfl|go_num,by rw[ah.o],bh.o,dh.o,fc.o,df.o,gz.o⟩,by simp[intOf];omega⟩
 have ih:=hy' (aa.o);have hm:a1.length≤ln:=by have:=ay.o;have h2:=ZR List.length bh.o;rw[Zc]at h2;omega
 obtain⟨m,b5⟩:∃m,a1.length=m:=⟨_,rfl⟩;have ht:l.take m=a1:=by rw[bh.o,←b5,QN]
 rw[b5]at hm;have bl:=hy' ht;have fj:=hy' b5;clear ht b5;go_wp2_with fail;go_loopw [17,18,20,21,68] (fun va vl _ _ vi wr=>∃i:Nat,i≤m∧vi=.int .i64 i∧va=.int .i64 ((zA4 (l.take i)).length:Nat)∧vl=.int .i64 ((zA4 (zAb T S (l.take i))).length:Nat)∧Below x1.heap.size x1 wr) (fun _ _ _ _ vi _=>ln-(intOf vi).toNat)
 case atStart=>exact⟨0,Zq _,rfl,rfl,rfl,Zd _ _⟩
 obtain⟨i,e8,rfl,rfl,rfl,di⟩:=hrel;obtain⟨y0,rfl⟩:∃q:World,q=wr:=⟨_,rfl⟩;have ag:=hy' di;have ea:=hy' (aa.o.trans (di.mono aa.o.size));clear di
 by_cases hil:i<ln
 rotate_left
 · obtain rfl:i=ln:=by omega
   obtain rfl:i=m:=by omega
   have iI:¬(i:Int)<i:=by omega
   have hq:zAb T S (l.take i)=zAb T S a1:=by rw[bl.o]
   have dl:=hy' hq;clear hq;go_wp2_with fail;go_meet;exact⟨by rw[dl.o],ag.o⟩
 have iI:(i:Int)<ln:=by omega
 obtain⟨c,hc⟩:∃c,l[i]?=some c:=⟨_,Zb (by rw[ay.o];exact hil)⟩;have b2:C.isC c=true:=bf.o c (Zj hc);have im:=Tx.isC_i32 b2;obtain⟨b8,o8,gb,dw,ch⟩:=Sl.ints (br.o.below ea.o ea.o.size) hc;have b6:=Sm.encs_len l hc
 have hcut:zAb T S (l.take (i+1))=if zA7 T S c=true then l.take i else zAb T S (l.take i):=by
  have h1:(l.take i).length=i:=by rw[Zn,ay.o];omega
  unfold zAb;rw[Zy,hc,XK,zE3,h1];split
  · rw[Yp (by omega),Zi (by omega)]
  rw[Yp (zGN _ _)]
 obtain⟨nc,bc⟩:∃q,(zAp c).length=q:=⟨_,rfl⟩;have gj:nc≤4:=by rw[←bc,zDS c b2];exact zCN c
 obtain⟨sc,hsc⟩:∃q:ByteArray,⟨(zAp c).toArray⟩=q:=⟨_,rfl⟩;have cf:sc.size=nc:=by rw[←hsc,←bc];rfl
 have a6:=ho.o c y0 b2;rw[hsc]at a6;obtain⟨ti,az⟩:∃q,(zA4 (l.take i)).length=q:=⟨_,rfl⟩;obtain⟨la,dc⟩:∃q,(zA4 (zAb T S (l.take i))).length=q:=⟨_,rfl⟩
 have ie:ti≤d1:=by
  have h1:=Sm.encs_mono l e8;rw[bl.o,az]at h1;have:=ah.o;omega
 have ae:(i<m→ti+nc≤d1)∧(i=m→d1<ti+nc):=by
  constructor
  · intro h;have h1:=Sm.encs_mono l (show i+1≤m by omega);rw[bl.o,b6,az,bc]at h1;have:=ah.o;omega
  intro h;subst h
  have h1:r'=c::l.drop (i+1):=by
   have h2:l.drop i=r':=by rw[bh.o,←fj.o,QM]
   obtain⟨h3,h4⟩:=List.getElem?_eq_some_iff.1 hc;rw[←h2,ZJ h3,h4]
  have hf:=dh.o;rw[h1]at hf;have h5:=Sm.fits_lt b2 hf;rw[bc]at h5;rw[bl.o]at az;have:=ah.o;omega
 rw[az,bc]at b6;have au:(zA4 (zAb T S (l.take (i+1)))).length=if zA7 T S c=true then ti else la:=by rw[hcut];split <;> assumption
 have c8:=hy' b6;have ck:=hy' au;have gx:=hy' az;have et:=hy' dc;rw[az,dc];subst gb;subst cf;clear hc hcut bc hsc az dc b6 au
 by_cases him2:i<m
 rotate_left
 · obtain rfl:i=m:=by omega
   have hgt:=ae.2 rfl;have tI:((d1:Nat):Int)<(ti:Int)+sc.size:=by omega
   have gp:ti≤10000:=by omega
   have hq:la=(zA4 (zAb T S a1)).length:=by rw[←et.o,bl.o]
   have dl:=hy' hq;clear ae hq;go_wp2_with fail;refine a6.mono ?_;rintro e y1 ⟨rfl,hb⟩;have af:=hy' (ag.o.trans (hb.mono ag.o.size));clear hb a6 ch dw;go_wp2_with fail;go_meet;exact⟨by rw[dl.o],af.o⟩
 have hle:=ae.1 him2;have tI:¬((d1:Nat):Int)<(ti:Int)+sc.size:=by omega
 have gp:ti≤10000:=by omega
 clear ae
 by_cases h0:ti=0
 · have t0:¬(0:Int)<ti:=by omega
   have bu:(zA4 (zAb T S (l.take (i+1)))).length=la:=by
    rw[ck.o];split
    · have h1:=et.o
      have h2:(zA4 (zAb T S (l.take i))).length≤(zA4 (l.take i)).length:=by
       conv=>rhs;rw[←Zu (zAF (zA7 T S) (l.take i)) (l.take i),zAq,Zc]
       exact Km _ _
      have h3:=gx.o;omega
    rfl
   have ak:=hy' bu;clear bu;go_wp2_with fail;refine a6.mono ?_;rintro e y1 ⟨rfl,hb⟩;have af:=hy' (ag.o.trans (hb.mono ag.o.size));clear hb a6 ch dw;go_wp2_with fail;exact⟨⟨i+1,by omega,by first|rfl|go_num,by rw[c8.o];first|rfl|go_num,by rw[ak.o],af.o⟩,by simp[intOf];omega⟩
 have t0:(0:Int)<ti:=by omega
 go_wp2_with fail;refine a6.mono ?_;rintro e y1 ⟨rfl,hb⟩;have af:=hy' (ag.o.trans (hb.mono ag.o.size));have dv:=gi.o c y1 (aa.o.trans (af.o.mono aa.o.size));obtain⟨sb,cw⟩:∃q,zA7 T S c=q:=⟨_,rfl⟩;rw[cw]at dv;have ej:=hy' cw;clear hb a6 ch dw cw;go_wp2_with fail;refine dv.mono ?_;rintro e y2 ⟨rfl,hb⟩;have bt:=hy' (af.o.trans (hb.mono af.o.size));clear hb dv;cases sb
 · have hq:(zA4 (zAb T S (l.take (i+1)))).length=la:=by rw[ck.o,ej.o];rfl
   have ak:=hy' hq;clear hq;go_wp2_with fail;exact⟨⟨i+1,by omega,by first|rfl|go_num,by rw[c8.o];first|rfl|go_num,by rw[ak.o],bt.o⟩,by simp[intOf];omega⟩
 have hq:(zA4 (zAb T S (l.take (i+1)))).length=ti:=by rw[ck.o,ej.o];rfl
 have ak:=hy' hq;clear hq;go_wp2_with fail;exact⟨⟨i+1,by omega,by first|rfl|go_num,by rw[c8.o];first|rfl|go_num,by rw[ak.o],bt.o⟩,by simp[intOf];omega⟩
end Go.Proofs.YtdbpjmfflofadaaGreatDoor
