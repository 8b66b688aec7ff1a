/- The layer rows: a reader's line, by walking its text. -/
import Derived.Test.YtjakbblocbicjaaGreatDoorFiRef2
set_option maxRecDepth 100000
set_option maxHeartbeats 4000000
set_option linter.unusedVariables false
set_option linter.unusedSimpArgs false
namespace Go.Proofs.YtjakbblocbicjaaGreatDoor
open Go.Proofs.Tryz
open Go.RowKit
def Rw.Laid (w:World):Prop:=Fi.Laid w∧Fi.LaidN w
theorem Rw.Laid.next {w w':World} (h:Rw.Laid w) (hb:Below w.heap.size w w'):Rw.Laid w':=⟨h.1.below hb,h.2.next hb⟩
theorem zPI:(prog.info? 155).map (fun i=>(i.zero,i.size,i.bytes))=some (some (.agg #[.int .i32 0,.int .i64 0,.slice none 0 0]),3,40):=by kernel_rfl
def zO3 (w:World) (b:Nat) (st:Rw.St):Prop :=
 ∃v ads,Rw.At w b 193 [v,.int .i32 st.2.1,.string ⟨st.2.2.toArray⟩]∧w.ownsRow (b+1) 155 3 v st.1.length (Rw.fl st.1 ads)∧ads.length=st.1.length∧Rw.Maps w st.1 ads
def zPJ (b:Nat) (st:Rw.St) (w:World) (e:Ending) (w':World):Prop:=e=.returned (.string ⟨#[]⟩)∧zO3 w' b st∧Below b w w'
theorem zHO {st st':Rw.St} {l:List UInt8} (h:Rw.step st l=some st'):∃r o,Rw.row (zAi 59 [] l)=some r∧st.2.1<r.1∧zBJ st.2.2 ((zAi 59 [] l).getD 1 []) (Rw.quiet r)=some o∧(C.isC r.1=true∨Rw.quiet r=true) ∧
 st'=(if Rw.quiet r then st.1 else st.1++[r],r.1,o):=by
 unfold Rw.step at h;rcases hr:Rw.row (zAi 59 [] l) with _|r
 · rw[hr]at h;cases h
 rw[hr,ZC]at h;split at h
 · rename_i h1;rcases ho:zBJ st.2.2 ((zAi 59 [] l).getD 1 []) (Rw.quiet r) with _|o
   · rw[ho]at h;cases h
   rw[ho,ZC]at h;split at h
   · rename_i h2;simp only[Zg]at h;exact⟨r,o,rfl,h1,ho,h2,h.symm⟩
   cases h
 cases h
theorem Rw.line_any (b:Nat) (st st':Rw.St) (l:ByteArray) (w0 w:World) (hL:Rw.Laid w0) (h0:w0.heap.size≤b) (ej:Below w0.heap.size w0 w) (hI:zO3 w b st) (hl:l.size≤1000) (hn:st.1.length≤100000)
 (dp:Rw.step st l.data.toList=some st'):Calls prog 124 #[.pointer (some ⟨b,0,none⟩),.string l] w (zPJ b st' w):=by
 obtain⟨r,o,a8,dt,bx,hq,rfl⟩:=zHO dp;obtain⟨out,code,was⟩:=st;obtain⟨v,ads,bm,bs,has,ap⟩:=hI;obtain⟨c,k,m⟩:=r;simp only at dt bx hq bm bs has ap hn ⊢;have dv:=hL.next ej;have hS:=Fi.split_any l (by omega) w dv.1;obtain⟨f0,f1,f3,f5,dx,i0,i1,i3,i5,hne,c1,cx,eu⟩:=zJa a8
 have ak:∀x∈zAi 59 [] l.data.toList,x.length≤1000:=fun x hx=>by
  have:=zEQ 59 l.data.toList [] x hx;simp at this;omega
 have ez:f1.length≤1000:=ak f1 (Zj i1);have dm:(zAi 59 [] l.data.toList).getD 1 []=f1:=by rw[Yi,i1];rfl
 rw[dm]at bx;obtain⟨F,hF⟩:∃F,zAi 59 [] l.data.toList=F:=⟨_,rfl⟩;rw[hF]at a8 dx i1 ak hS;obtain⟨j0,hj0,ed,ee,eg⟩:=Z2 zPI;obtain⟨nm,cq⟩:∃nm:ByteArray,⟨f1.toArray⟩=nm:=⟨_,rfl⟩;have dh:nm.size≤1000000:=by rw[←cq];show f1.toArray.size≤_;simp;omega
 have cg:nm.data.toList=f1:=by rw[←cq]
 obtain⟨wb,dk⟩:∃wb:ByteArray,⟨was.toArray⟩=wb:=⟨_,rfl⟩;have cd:wb.data.toList=was:=by rw[←dk]
 rw[←cg,←cd]at bx;rw[dk]at bm;have ey:decide (c≤code)=false:=Zq (by omega);have ek:=zHN c k;obtain⟨bc,cz⟩:∃x,C.isC c=x:=⟨_,rfl⟩;obtain⟨bq,cj⟩:∃x,Rw.quiet (c,k,m)=x:=⟨_,rfl⟩;have b3:(decide (k=0)&&decide (m.length=0))=bq:=cj;rw[cz,cj]at hq;rw[cj]at bx ⊢;obtain⟨out',ay⟩:∃x,(if bq=true then out else out++[(c,k,m)])=x:=⟨_,rfl⟩;rw[ay];have HO:=hy' ay;have dn:=hy' b3;have hU:=zBd c;rw[cz]at hU;have HQ:=hy' hq;clear cz cj b3 hq ay;have ct:=hy' a8;have eh:=hy' bx;have b2:=hy' ak;clear dp c1 cx eu i0 i3 i5 a8 bx ak hne dm hF cg cd dk dt;go_enter func124,ntmps124;go_wp2_with fail;refine hS.mono ?_;rintro e w1 ⟨A,n,cp,rfl,en,hA,df⟩;obtain rfl:n=15:=by omega
 have hR:=Rw.row_any A 15 cp w1.heap.size F (c,k,m) w1 ct.o dx (Za _) hA (fun x hx=>by have:=b2.o x hx;omega) (dv.next df).2;obtain⟨ab,ao,rfl,bo,dy⟩:=hA (by rw[Ze];omega);have cw:=dy 1 (by rw[Ze];omega);rw[Zo,i1,Zz,cq]at cw;clear dy hS i1 en cq;have b1:=hy' df;clear df;go_wp2_with fail;refine hR.mono ?_;rintro e w2 ⟨Am,cm,rfl,c8,cn⟩;clear hR;simp only at c8;have b6:=((zAQ cn).1 _ _ bo).trans cw;have bf:ab<w2.heap.size:=Zf bo cn.size;have aq:Below w.heap.size w w2:=b1.out.trans (cn.mono b1.out.size);have bp:=bm.below aq;have bj:=zA4 bs aq (Za _);have a1:=ap.below aq;obtain⟨d1,d2,d3,d4,d5,d6⟩:=bp.three;have ep:b<w2.heap.size:=bp.lt;have ei:b<w.heap.size:=bm.lt;clear cw bo cn bm bs ap;have dw:=hy' aq;have cb:=hy' bj;have b4:=hy' a1;have ea:=hy' c8;clear aq bj a1 c8;go_wp2_with fail;go_quiet (fail);go_wp2_with fail;obtain⟨w3,ck⟩:∃w3,(w2.alloc (.cells #[.int .i32 c,.int .i64 k,.slice Am m.length cm] 155)).drewN nq=w3:=⟨_,rfl⟩;have br:Below w2.heap.size w2 w3:=by rw[←ck];exact ((Zc w2.heap.size w2).alloc (Za _) _).trans ((zDx _ _).mono (by simp))
 have di:Rw.At w3 w2.heap.size 155 [.int .i32 c,.int .i64 k,.slice Am m.length cm]:=by rw[←ck];exact (Rw.At.new w2 155 [.int .i32 c,.int .i64 k,.slice Am m.length cm]).below (zDx _ _)
 have cy:=bp.below br;obtain⟨m1,m2,m3,m4,m5,m6⟩:=di.three;have et:=((zAQ br).1 _ _ bf).trans b6;have dz:w2.heap.size<w3.heap.size:=di.lt;have hG:=fun W bm=>zLe b v code wb nm c k Am m.length cm o W (zP2 cb.o) bm dh (by rw[dn.o];exact eh.o)
 have au:Rw.At w3.drew b 193 [v,.int .i32 code,.string wb]:=cy;rw[ck];clear ck d1 d2 d3 d4 d5 d6 b6 bf;go_region_with (go_at_call 150;refine (hG _ au).mono ?_;rintro e w4 ⟨rfl,ah,bu⟩)
 all_goals
  have cr:Rw.At w4 w2.heap.size 155 [.int .i32 c,.int .i64 k,.slice Am m.length cm]:=(show Rw.At w3.drew _ _ _ from di).grown bu (by simp;omega);have bh:Below w.heap.size w w3.drew:=dw.o.trans ((show Below w2.heap.size w2 w3.drew from br.drew).mono dw.o.size);have bb:=zA8 (zA4 cb.o (show Below w2.heap.size w2 w3.drew from br.drew) (Za _)) (ZO b) bu;have ax:=(b4.o.below (show Below w2.heap.size w2 w3.drew from br.drew)).grown bu (by intro q hq;cases hq;exact au.not (by decide));have b9:=(ea.o.below (show Below w2.heap.size w2 w3.drew from br.drew)).grown bu (by intro q hq;cases hq;exact au.not (by decide));have b7:Below b w w4:=(bh.mono (Z5 ei)).trans (zAf bu (by show b≤w3.drew.heap.size;have:=br.size;simp;omega) (by intro q hq;cases hq;exact Za _));have ew:w2.heap.size<w4.heap.size:=cr.lt;have cc:=ek Am m.length cm;rw[dn.o]at cc;obtain⟨p1,p2,p3,p4,p5,p6⟩:=ah.three;obtain⟨r1,r2,r3,r4,r5,r6⟩:=cr.three;have av:=hy' bb;have aj:=hy' ax;have cu:=hy' b9;have bk:=hy' b7;clear bb ax b9 b7 bh bu m1 m2 m3 m4 m5 m6 et;rcases bq with _|_
  · obtain rfl:bc=true:=by
     rcases HQ.o with h|h
     · exact h
     cases h
    go_wp2_with (first|(go_at_call 50;refine (hU _).mono ?_;rintro e w5 ⟨rfl,rfl⟩)|fail);refine (cc _).mono ?_;rintro e w5 ⟨rfl,ag⟩;have af:=(ah.set 1 (.int .i32 c)).below ag;simp only[Zv,Zs]at af;have du:=(cr.other (show w2.heap.size≠b by omega) (.int .i32 c) (i:=1)).below ag;have ae:=zA4 (zA8 av.o (ZO b) (Rw.grown_set b 1 (.int .i32 c))) ag (Za _);have aa:=(aj.o.grown (Rw.grown_set b 1 (.int .i32 c)) (by intro q hq;cases hq;exact ah.not (by decide))).below ag;have b8:=(cu.o.grown (Rw.grown_set b 1 (.int .i32 c)) (by intro q hq;cases hq;exact ah.not (by decide))).below ag;have e0:w4.heap.size≤w5.heap.size:=Zh (KeepsWalks.setCell w4 ⟨b,1,none⟩ (.int .i32 c)).size ag.size;have ai:Below b w w5:=(bk.o.setCell (p:=⟨b,1,none⟩) (Za _) (.int .i32 c)).trans (ag.mono (by have:=(KeepsWalks.setCell w4 ⟨b,1,none⟩ (.int .i32 c)).size;omega));obtain⟨s1,s2,s3,s4,s5,s6⟩:=af.three;obtain⟨t1,t2,t3,t4,t5,t6⟩:=du.three;have eb:w2.heap.size<w5.heap.size:=du.lt;have c7:b<w5.heap.size:=af.lt;have bg:=(ae.alloc (.cells #[.int .i32 c,.int .i64 k,.slice Am m.length cm] 155)).drew;have dc:=hy' (Sl.lit (w:=(w5.alloc (.cells #[.int .i32 c,.int .i64 k,.slice Am m.length cm] 155)).drew) (A:=some ⟨w5.heap.size,0,none⟩) (xs:=[.int .i32 c,.int .i64 k,.slice Am m.length cm]) rfl 155 (0,0) (ZT w5 _));have hne:=zBl ae b (ZO b);have ec:b+1≤(w5.alloc (.cells #[.int .i32 c,.int .i64 k,.slice Am m.length cm] 155)).drew.heap.size:=by simp;omega
    have b5:Rw.At (w5.alloc (.cells #[.int .i32 c,.int .i64 k,.slice Am m.length cm] 155)).drew b 193 [v,.int .i32 c,.string ⟨o.toArray⟩]:=af.alloc _;have ar:=hy' bg;have bt:=hy' aa;have cv:=hy' b8;have az:=hy' ai;have eo:=hy' hne;clear ae bg aa b8 ai ag p1 p2 p3 p4 p5 p6 r1 r2 r3 r4 r5 r6 hne;go_wp2_with fail;go_region_law ((refine zGj _ (by rfl) _ _ _ (by rfl) (b+1) 155 j0 _ 3 40 underlying83 hj0 ed ee eg rfl (by omega) _ out.length _ (by rfl) ar.o _ (some ⟨w5.heap.size,0,none⟩) 1 1 [.int .i32 c,.int .i64 k,.slice Am m.length cm] (by rfl) (by rfl) dc.out (by simp[Value.oneCell']) (by simp only[maxLen];omega) (by omega) ec ?_;intro v1 w6 bi ef a6;have ba:=b5.grown a6 eo.o;obtain⟨z1,z2,z3,z4,z5,z6⟩:=ba.three;obtain⟨A6,c6,rfl⟩:=zA3 bi))
    all_goals
     go_wp2_with fail;go_ret;have ho:=HO.o;simp only[ZM,Ye]at ho;subst ho;have bz:Below w5.heap.size w5 (w5.alloc (.cells #[.int .i32 c,.int .i64 k,.slice Am m.length cm] 155)).drew:=((Zc _ _).alloc (Za _) _).drew;have e1:=((bt.o.below bz).grown a6 (zAB ar.o (by decide))).grown (Rw.grown_set b 0 (.slice A6 (out.length+1) c6)) (by intro q hq;cases hq;exact ba.not (by decide));have e2:=((cv.o.below bz).grown a6 (zAB ar.o (by decide))).grown (Rw.grown_set b 0 (.slice A6 (out.length+1) c6)) (by intro q hq;cases hq;exact ba.not (by decide));have e3:=zA8 bi (ZO b) (Rw.grown_set b 0 (.slice A6 (out.length+1) c6));refine⟨rfl,⟨.slice A6 (out.length+1) c6,ads++[(Am,cm)],ba.set 0 _,?_,by simp[has],e1.app has e2⟩,?_⟩
     · show World.ownsRow _ _ _ _ _ (out++[(c,k,m)]).length (Rw.fl (out++[(c,k,m)]) (ads++[(Am,cm)]));rw[Rw.fl_app out ads (c,k,m) (Am,cm) has,Zd];exact e3
     exact ((az.o.trans (bz.mono (Z5 c7))).trans (ef.mono (ZW b))).setCell (p:=⟨b,0,none⟩) (Za _) _
  have ho:=HO.o;simp only[Yy]at ho;subst ho;have HT:=HQ.o;rcases bc with _|_
  · go_wp2_with (first|(go_at_call 50;refine (hU _).mono ?_;rintro e w5 ⟨rfl,rfl⟩)|fail);refine (cc _).mono ?_;rintro e dl ⟨rfl,bw⟩;have aw:=ah.below bw;have ch:=cr.below bw;have bn:=hy' (zA4 av.o bw (Za _));have a7:=hy' (aj.o.below bw);have cf:=hy' (bk.o.trans (bw.mono (Z5 ah.lt)));have dr:w2.heap.size<dl.heap.size:=ch.lt;clear p1 p2 p3 p4 p5 p6 r1 r2 r3 r4 r5 r6 bw;obtain⟨p1,p2,p3,p4,p5,p6⟩:=aw.three;obtain⟨r1,r2,r3,r4,r5,r6⟩:=ch.three;go_wp2_with fail;refine (cc _).mono ?_;rintro e w5 ⟨rfl,ag⟩;have af:=(aw.set 1 (.int .i32 c)).below ag;simp only[Zv,Zs]at af;have ae:=zA4 (zA8 bn.o (ZO b) (Rw.grown_set b 1 (.int .i32 c))) ag (Za _);have aa:=(a7.o.grown (Rw.grown_set b 1 (.int .i32 c)) (by intro q hq;cases hq;exact aw.not (by decide))).below ag;have ai:Below b w w5:=(cf.o.setCell (p:=⟨b,1,none⟩) (Za _) (.int .i32 c)).trans (ag.mono (by have:=(KeepsWalks.setCell dl ⟨b,1,none⟩ (.int .i32 c)).size;omega));have bl:=hy' (show zO3 w5 b (out,c,o) from ⟨v,ads,af,ae,has,aa⟩);have az:=hy' ai;clear af ae aa ai ag;go_wp2_with fail;go_ret;exact⟨rfl,bl.o,az.o⟩
  go_wp2_with (first|(go_at_call 50;refine (hU _).mono ?_;rintro e w5 ⟨rfl,rfl⟩)|fail);refine (cc _).mono ?_;rintro e w5 ⟨rfl,ag⟩;have af:=(ah.set 1 (.int .i32 c)).below ag;simp only[Zv,Zs]at af;have ae:=zA4 (zA8 av.o (ZO b) (Rw.grown_set b 1 (.int .i32 c))) ag (Za _);have aa:=(aj.o.grown (Rw.grown_set b 1 (.int .i32 c)) (by intro q hq;cases hq;exact ah.not (by decide))).below ag;have ai:Below b w w5:=(bk.o.setCell (p:=⟨b,1,none⟩) (Za _) (.int .i32 c)).trans (ag.mono (by have:=(KeepsWalks.setCell w4 ⟨b,1,none⟩ (.int .i32 c)).size;omega));have bl:=hy' (show zO3 w5 b (out,c,o) from ⟨v,ads,af,ae,has,aa⟩);have az:=hy' ai;clear af ae aa ai ag;go_wp2_with fail;go_ret;exact⟨rfl,bl.o,az.o⟩
def Bd.At (w:World) (b D:Nat) (bs:List Value):Prop :=
 ∃p v,(p=.pointer none∨p=.pointer (some ⟨b,0,none⟩))∧Rw.At w b 150 [p,v]∧w.ownsRow D 5 1 v bs.length bs
def Bd.Kept (w w':World):Prop:=∀(t:TypeId) (A:Option Addr) (xs:List Value),t≠150→t≠5→Slt w t A xs→Slt w' t A xs
theorem zGx (b D:Nat) (bs:List Value) (s:ByteArray) (w:World) (hD:b<D) (bh:D≤w.heap.size) (h:Bd.At w b D bs) (hlen:bs.length+s.size≤140737488355328) :
 Calls prog 98 #[.pointer (some ⟨b,0,none⟩),.string s] w fun e w'=>e=.returned (.tuple #[.int .i64 s.size,.nilIface])∧Bd.At w' b D (bs++Lib.strCells s)∧Bd.Kept w w'∧Below b w w':=by
 obtain⟨i0,hi,bg,a8,ba⟩:=Z2 zNS;obtain⟨p,v,hp,ai,ap⟩:=h
 have ak:∀W,W=w→Calls prog 132 #[.pointer (some ⟨b,0,none⟩)] W fun e w'=>e=.returned (.tuple #[])∧(w'=w∨w'=w.setCell ⟨b,0,none⟩ (.pointer (some ⟨b,0,none⟩)))∧Rw.At w' b 150 [.pointer (some ⟨b,0,none⟩),v]:=by
  rintro W rfl;rcases hp with rfl|rfl
  · refine (zJy b W (ai.cell 0 rfl) ?_ (ai.frozen 0)).mono ?_
    · unfold Rw.At at ai;simp[World.shape?,ai]
    rintro e w' ⟨rfl,rfl⟩;exact⟨rfl,.inr rfl,ai.set 0 _⟩
  refine (zLa b W (ai.cell 0 rfl)).mono ?_;rintro e w' ⟨rfl,rfl⟩;exact⟨rfl,.inl rfl,ai⟩
 have aq:=hy' ap;have bc:=hy' ai;clear ap ai hp;go_enter func98,ntmps98;go_wp2_with fail;refine (ak _ rfl).mono ?_;rintro e w1 ⟨rfl,ar,aj⟩
 have ae:w1.ownsRow D 5 1 v bs.length bs:=by
  rcases ar with rfl|rfl
  · exact aq.o
  exact zA8 aq.o hD (Rw.grown_set b 0 _)
 have av:Bd.Kept w w1:=by
  rcases ar with rfl|rfl
  · exact fun t A xs _ _ h=>h
  exact fun t A xs h1 _ h=>h.setAt bc.o (fun e=>h1 e.symm) 0 _
 have au:Below b w w1:=by
  rcases ar with rfl|rfl
  · exact Zc _ _
  exact (Zc _ _).setCell (p:=⟨b,0,none⟩) (Za _) _
 have hne:=zBl ae b hD;have c0:=aj.cell 0 rfl;have c1:=aj.cell 1 rfl;have bf:=au.size;have af:=hy' ae;have az:=hy' av;have ay:=hy' au;have a1:=hy' hne;clear ar ae av au hne ak;go_wp2_with (at_builtin;refine Lib.wpList_append_own_string _ rfl _ _ 98 9 rfl D 5 i0 underlying98 underlying9 hi bg a8 ba _ _ _ rfl af.o s rfl ?c3 ?c4 ?c5 ?_)
 case c3=>unfold maxLen;omega
 case c4=>omega
 case c5=>omega
 intro v' w2 ag aa _;have ah:=aj.grown aa a1.o;have d0:=ah.cell 0 rfl;have d1:=ah.cell 1 rfl;have f1:=ah.frozen 1;obtain⟨ao,cap,rfl⟩:=zA3 ag;have aw:Bd.Kept w1 w2:=fun t A xs _ h2 h=>h.grown aa (zAB af.o (fun e=>h2 e.symm))
 have ax:Below b w1 w2:=zAf aa (Z5 aj.lt) (fun k hk=>by have:=(af.o.lt k hk).1;omega);have a6:=hy' aw;have a7:=hy' ax;have bb:=hy' ag;clear aw ax ag aa c0 c1;go_wp2_with fail;go_ret2;refine⟨rfl,⟨_,_,.inr rfl,ah.set 1 _,?_⟩,?_,(ay.o.trans a7.o).setCell (p:=⟨b,1,none⟩) (Za _) _⟩
 · have:=zA8 bb.o hD (Rw.grown_set b 1 (.slice ao (bs.length+s.size) cap));rw[Zd,Lib.strCells_length];exact this
 exact fun t A xs h1 h2 h=>(a6.o t A xs h1 h2 (az.o t A xs h1 h2 h)).setAt ah (fun e=>h1 e.symm) 1 _
def zAg (X:List Int):List UInt8:=X.flatMap fun c=>Fi.text c.toNat++[10]
theorem zHP (X:List Int) (c:Int):zAg (X++[c])=zAg X++(Fi.text c.toNat++[10]):=by simp[zAg]
theorem zD9:∀(X:List Int),(∀c∈X,0≤c∧c≤1114111)→(zAg X).length≤7*X.length
 | [],_=>by simp[zAg]
 | c::X,h=>by
   have h1:=zAE c.toNat (by have:=(h c Zu).2;omega);have h2:=zD9 X fun d hd=>h d (Zy _ hd)
   unfold zAg at h2 ⊢;rw[Y7];simp only[Zd,ZB,ZY];omega
theorem zLg (n:Nat):zBv (Fi.text n)=Fi.text n:=by
 obtain⟨x,m,y,h1,h2,h3,h4⟩:=zMu n;unfold zBv;rw[zNT _ (zMv n)];have:=zNU 0 (Fi.text n) x y m h1 h2 h3 h4 0;simpa using this
theorem zFI:∀(l:List Int) (seen:List Int),(∀c∈l,C.isC c=true)→l.Nodup→(∀c∈l,c∉seen)→Ex.steps seen (l.map fun c=>Fi.text c.toNat)=some (seen++l)
 | [],seen,_,_,_=>by simp[Ex.steps]
 | c::l,seen,h1,h2,h3=>by
   have hc:=h1 c Zu
   have aa:0≤c∧c≤1114111:=by
    unfold C.isC at hc;have:=YM hc;omega
   have hl:Ex.line seen (Fi.text c.toNat)=some (seen++[c]):=by
    unfold Ex.line;rw[zLg,Zk (zH9 _),zFY _ (by omega),ZC,zEh aa.1,Zm ⟨hc,h3 c Zu⟩]
   rw[ZV,Ex.steps,hl,ZC,zFI l (seen++[c]) (fun d hd=>h1 d (Zy _ hd)) (List.nodup_cons.1 h2).2 (fun d hd hm=>by
    rcases List.mem_append.1 hm with h|h
    · exact h3 d (Zy _ hd) h
    rw[Zt]at h;subst h;exact (List.nodup_cons.1 h2).1 hd)]
   simp
theorem Ex.parse_btxt (l:List Int) (h1:∀c∈l,C.isC c=true) (h2:l.Nodup) (hn:l.length≤1000):Ex.parse (zAg l)=some l:=by
 have hb:∀c∈l,0≤c∧c≤1114111:=fun c hc=>by
  have:=h1 c hc;unfold C.isC at this;have:=YM this;omega
 have ae:∀x∈l.map (fun c=>Fi.text c.toNat),zCa x=true:=by
  intro x hx;obtain⟨c,hc,rfl⟩:=List.mem_map.1 hx;have:=zAE c.toNat (by have:=(hb c hc).2;omega);exact zRy (by omega) fun b af=>by have:=zCb _ b af;omega
 have aa:zAN [] (zAg l)=l.map fun c=>Fi.text c.toNat:=by
  have:=zEg (l.map fun c=>Fi.text c.toNat) fun x hx=>zOG (ae x hx)
  rw[J5]at this;exact this
 unfold Ex.parse;rw[aa,Zm ⟨by rw[Yj];exact ae,by simp;omega⟩,zFI l [] h1 h2 (fun c _=>by simp)];simp
theorem Ex.text_any (A:Option Addr) (c n:Nat) (S X:List Int) (w:World) (hn:S.length=n) (b4:n≤1000) (bo:C.ok S) (hX:zCA (zAI S)=X) (bf:∀c∈X,C.isC c=true) (bn:X.length≤1000)
 (hA:Slt w 21 A (S.map (Value.int .i32))) (hL:Fi.Laid w) :
 Calls prog 102 #[.agg #[.slice A n c]] w fun e w'=>e=.returned (.string ⟨(zAg X).toArray⟩)∧Below w.heap.size w w':=by
 have bj:∀c∈X,0≤c∧c≤1114111:=fun c hc=>by
  have:=bf c hc;unfold C.isC at this;have:=YM this;omega
 obtain⟨wa,ap⟩:∃wa,(w.alloc (.cells #[.slice A n c] 85)).alloc (.cells #[.pointer none,.slice none 0 0] 150)=wa:=⟨_,rfl⟩;have a1:Below w.heap.size w wa:=by rw[←ap];exact ((Zc _ _).alloc (Za _) _).alloc (by simp) _
 have av:Rw.At wa w.heap.size 85 [.slice A n c]:=by rw[←ap];exact (Rw.At.new w 85 [.slice A n c]).alloc _
 have ai:Rw.At wa (w.heap.size+1) 150 [.pointer none,.slice none 0 0]:=by
  have h:=Rw.At.new (w.alloc (.cells #[.slice A n c] 85)) 150 [.pointer none,.slice none 0 0];rw[ZJ]at h;rw[←ap];exact h
 have bx:w.heap.size+1<wa.heap.size:=ai.lt;have au:=zJs A c n wa.heap.size S wa hn (by omega) bo (Za _) (hA.below a1).sl;rw[hX]at au;obtain⟨m,hm⟩:∃m,X.length=m:=⟨_,rfl⟩;unfold zK3 at au;rw[hm]at au bn;have bm:=hy' ap;have HM:=hy' hm;have bg:=hy' bj;have bh:=hy' a1;have HL:=hy' hL;have z0:=av.cell 0 rfl;clear ap hm bj a1 hL hA hX bf hn;go_enter func102,ntmps102;go_upto_region 2 with (fail)
 rw[bm.o];go_wp2_with fail;refine au.mono ?_;rintro e w2 ⟨A5,c5,rfl,af,az⟩;have ba:Bd.At w2 (w.heap.size+1) w2.heap.size []:=⟨_,_,.inl rfl,ai.below az,ZE _ _ _ _⟩;have bz:=hy' (Slt.of_own af);have bw:=hy' (bh.o.trans (az.mono bh.o.size));have b1:w.heap.size+1<w2.heap.size:=Zf bx az.size;clear af az au av ai z0;go_wp2_with fail;go_loopw [5,9] (fun _ i wr=>∃k:Nat,k≤m∧i=.int .i64 k∧Bd.At wr (w.heap.size+1) w2.heap.size (Lib.byteCells (zAg (X.take k)))∧Slt wr 21 A5 (X.map (Value.int .i32))∧Below (w.heap.size+1) w2 wr) (fun _ i _=>m-(intOf i).toNat)
 case atStart=>exact⟨0,ZF _,rfl,ba,bz.o,Zc _ _⟩
 obtain⟨k,hk,rfl,aq,hS,aa⟩:=hrel;have bu:w2.heap.size≤wr.heap.size:=aa.size;have ay:Below w.heap.size w wr:=bw.o.trans (aa.mono (ZW _))
 by_cases hlt:k<m
 rotate_left
 · obtain rfl:k=m:=by omega
   have kI:¬(k:Int)<k:=by omega
   rw[Zi (by rw[HM.o];exact Za _)]at aq
   have bc:Lib.IsBuilder 150 5 (w.heap.size+1) (w.heap.size+1) (Lib.byteCells (zAg X)) wr:=by
    obtain⟨p,v,h1,h2,h3⟩:=aq;have h4:Lib.BuilderAt 150 5 (w.heap.size+1) (w.heap.size+1) p (Lib.byteCells (zAg X)) wr:=⟨Za _,v,h2,zFq h3 (by omega),zBl h3 _ (by omega)⟩;rcases h1 with rfl|rfl
    · exact .inl h4
    exact .inr h4
   have bi:=Tryz.Builder_String_any (w.heap.size+1) (w.heap.size+1) (zAg X) wr bc (by omega);have HB:=hy' ay;clear aq hS aa bc ay;go_wp2_with fail;refine bi.mono ?_;rintro e w4 ⟨rfl,ar⟩;have a7:=hy' (HB.o.trans (ar.mono (ZW _)));clear ar bi;go_wp2_with fail;go_ret;exact⟨rfl,a7.o⟩
 obtain⟨x,hx⟩:∃x,X[k]?=some x:=⟨_,Zb (by rw[HM.o];exact hlt)⟩;have hxb:=bg.o x (Zj hx);obtain⟨ab,ao,rfl,b5,bk⟩:=hS.sl (by rw[Ze,HM.o];omega);have hc:=bk k (by rw[Ze,HM.o];exact hlt);rw[Zo,hx,Zz]at hc;obtain⟨xn,rfl⟩:∃xn:Nat,x=xn:=⟨x.toNat,by omega⟩;have hT:=Fi.text_any xn (by omega) wr (HL.o.below ay)
 have ah:zAg (X.take (k+1))=zAg (X.take k)++(Fi.text xn++[10]):=by
  rw[ZA,hx];show zAg (X.take k++[(xn:Int)])=_;rw[zHP,Y9]
 have bp:=zD9 (X.take k) fun d hd=>bg.o d (Z8 hd)
 have br:(X.take k).length≤k:=Xs _ _;obtain⟨tx,ax⟩:∃y:ByteArray,⟨(Fi.text xn).toArray⟩=y:=⟨_,rfl⟩;rw[ax]at hT
 have bt:tx.size≤6:=by
  rw[←ax];show (Fi.text xn).toArray.size≤6;have:=zAE xn (by omega);simpa using this
 have s1:(⟨#[10]⟩:ByteArray).size=1:=rfl;have c1:¬9223372036854775807<tx.size+(⟨#[10]⟩:ByteArray).size:=by omega
 have ae:Lib.byteCells (zAg (X.take (k+1)))=Lib.byteCells (zAg (X.take k))++Lib.strCells (tx++⟨#[10]⟩):=by
  rw[ah,←ax,show (⟨#[10]⟩:ByteArray)=⟨[10].toArray⟩ from rfl,zAJ];unfold Lib.byteCells Lib.strCells;simp
 have kI:(k:Int)<m:=by omega
 have HC:=hy' ae;have b3:=hy' aq;have HS:=hy' hS;have a6:=hy' aa
 have ag:(Lib.byteCells (zAg (X.take k))).length+7≤140737488355328:=by
  have:(Lib.byteCells (zAg (X.take k))).length=(zAg (X.take k)).length:=by unfold Lib.byteCells;simp
  omega
 have bq:=hy' ag;clear bk hx ah bp br ax ae aq hS aa ag hxb ay;go_wp2_with fail;refine hT.mono ?_;rintro e w3 ⟨rfl,aj⟩
 have aw:Bd.At w3 (w.heap.size+1) w2.heap.size (Lib.byteCells (zAg (X.take k))):=by
  obtain⟨p,v,h1,h2,h3⟩:=b3.o;exact⟨p,v,h1,h2.below aj,zA4 h3 aj (Za _)⟩
 have hW:=zGx (w.heap.size+1) w2.heap.size (Lib.byteCells (zAg (X.take k))) (tx++⟨#[10]⟩) w3 b1 (Zh bu aj.size) aw (by rw[ZU];have:=bq.o;omega);have bl:=hy' (HS.o.below aj);have b2:=hy' (a6.o.trans (aj.mono (by omega)));clear aj hT aw;go_wp2_with fail;refine hW.mono ?_;rintro e w4 ⟨rfl,ak,bb,ar⟩;have a8:=hy' ak;have bs:=hy' (bb _ _ _ (by decide) (by decide) bl.o);have a7:=hy' (b2.o.trans ar);clear ak bb ar hW;go_wp2_with fail;exact⟨⟨k+1,by omega,by go_num,by rw[HC.o];exact a8.o,bs.o,a7.o⟩,by simp[intOf];omega⟩
theorem Rw.steps_take {aa ae st:Rw.St} {L:List (List UInt8)} {k:Nat} {x:List UInt8} (h:Rw.steps aa L=some ae) (hx:L[k]?=some x) (hs:Rw.steps aa (L.take k)=some st) :
 ∃st',Rw.step st x=some st'∧Rw.steps aa (L.take (k+1))=some st':=by
 have hk:=(List.getElem?_eq_some_iff.1 hx).1
 have e:L.take k++x::L.drop (k+1)=L:=by
  have:=ZI k L;rw[ZR hk]at this;rw[Zb hk,Zg]at hx;rw[hx]at this;exact this
 rw[←e,Rw.steps_app,hs,ZC,Rw.steps]at h;rcases hst:Rw.step st x with _|st'
 · rw[hst]at h;cases h
 refine⟨st',rfl,?_⟩;rw[ZA,hx,Rw.steps_app,hs];show Rw.steps st [x]=some st';rw[Rw.steps,hst];rfl
theorem Rw.step_len {st st':Rw.St} {x:List UInt8} (h:Rw.step st x=some st'):st'.1.length≤st.1.length+1:=by
 obtain⟨r,o,_,_,_,_,rfl⟩:=zHO h;show (if Rw.quiet r=true then st.1 else st.1++[r]).length≤_;split
 · omega
 simp
theorem Rw.steps_len:∀(L:List (List UInt8)) {st st':Rw.St},Rw.steps st L=some st'→st'.1.length≤st.1.length+L.length
 | [],st,st',h=>by
   rw[Rw.steps,Zg]at h;subst h;simp
 | x::L,st,st',h=>by
   rw[Rw.steps]at h;rcases hs:Rw.step st x with _|s
   · rw[hs]at h;cases h
   rw[hs,ZC]at h;have h1:=Rw.step_len hs;have h2:=Rw.steps_len L h;simp;omega
def zPK (b:Nat) (st:Rw.St) (w:World) (e:Ending) (w':World):Prop:=e=.returned (.tuple #[.int .i64 0,.string ⟨#[]⟩])∧zO3 w' b st∧Below b w w'
def Rw.Inv (w:World) (b:Nat) (aa:Rw.St) (L:List (List UInt8)) (k:Nat) (wr:World):Prop:=∃st,Rw.steps aa (L.take k)=some st∧zO3 wr b st∧Below b w wr
theorem zO4 (b:Nat) (af ah:Rw.St) (L:List (List UInt8)) (A:Option Addr) (n cp:Nat) (w0 w:World) (hL:Rw.Laid w0) (h0:w0.heap.size≤b) (ax:Below w0.heap.size w0 w) (hI:zO3 w b af) (hlen:af.1.length=0)
 (av:L.length=n) (hn:n≤100000) (hl:∀x∈L,x.length≤1000) (hA:Sl w b A (L.map fun x=>Value.string ⟨x.toArray⟩)) (ba:b<w.heap.size)
 (au:Rw.steps af L=some ah):Calls prog 123 #[.slice A n cp,.func (.func 124) #[.pointer (some ⟨b,0,none⟩)] #[]] w (zPK b ah w):=by
 have HL:=hy' hl;have HN:=hy' av;have a1:=hy' au;have HB:=hy' ax;have H0:=hy' hlen;have HA:=hy' hA;clear hl av au ax hlen hA;go_enter func123,ntmps123;go_wp2_with fail;go_loopw [6,7,8,11] (fun _ _ _ i wr=>∃k:Nat,k≤n∧i=.int .i64 k∧Rw.Inv w b af L k wr) (fun _ _ _ i _=>n-(intOf i).toNat)
 case atStart=>exact⟨0,ZF _,rfl,af,rfl,hI,Zc _ _⟩
 obtain⟨k,hk,rfl,st,hs,hR,aa⟩:=hrel
 by_cases hlt:k<n
 · obtain⟨x,hx⟩:∃x,L[k]?=some x:=⟨_,Zb (by rw[HN.o];exact hlt)⟩;obtain⟨st',h1,h2⟩:=Rw.steps_take a1.o hx hs;obtain⟨ab,ao,rfl,a6,az⟩:=HA.o (by rw[Ze,HN.o];omega);have hc:=az k (by rw[Ze,HN.o];exact hlt);rw[Zo,hx,Zz,←(zAQ aa).1 _ _ a6]at hc;have ay:=HL.o x (Zj hx);obtain⟨bx,ag⟩:∃bx:ByteArray,⟨x.toArray⟩=bx:=⟨_,rfl⟩;rw[ag]at hc;have aw:=Rw.steps_len _ hs;rw[H0.o,Zr]at aw;have ae:=fun W (e:W=wr)=>Rw.line_any b st st' bx w0 W hL h0 (by rw[e];exact HB.o.trans (aa.mono h0)) (by rw[e];exact hR) (by rw[←ag];show x.toArray.size≤_;simpa using ay) (by omega) (by rw[←ag];exact h1)
   have HX:=hy' h2;have ai:=hy' aa;have a7:(k:Int)<n:=by omega
   clear az hx hs hR h1 h2 aa ag aw ay;go_wp2_with fail;refine (ae _ rfl).mono ?_;rintro e w2 ⟨rfl,ar,aq⟩;have ak:=hy' ar;have aj:=hy' aq;clear ar aq ae;go_wp2_with fail;exact⟨⟨k+1,by omega,by go_num,st',HX.o,ak.o,ai.o.trans aj.o⟩,by simp[intOf];omega⟩
 obtain rfl:k=n:=by omega
 have a8:¬(k:Int)<k:=by omega
 have ap:st=ah:=by
  rw[Zi (by rw[HN.o];exact Za _),a1.o,Zg]at hs;exact hs.symm
 subst ap;have ak:=hy' hR;have aj:=hy' aa;clear hs hR aa;go_wp2_with fail;go_ret2;exact⟨rfl,ak.o,aj.o⟩
def Rw.RetParse (rs:List Rw.Row) (w:World) (e:Ending) (w':World):Prop :=
 ∃A c,e=.returned (.tuple #[.slice A rs.length c,.nilIface])∧Rw.Tab w' A rs∧Below w.heap.size w w'
theorem zLh {s:List UInt8} {rs:List Rw.Row} (h:Rw.parse s=some rs):(zAN [] s).all zCa=true∧(zAN [] s).length≤40000∧∃c,Rw.steps ([],-1,[]) (zAN [] s)=some (rs,c,[]):=by
 unfold Rw.parse at h;split at h
 · rename_i h0;obtain⟨h0,h1⟩:=h0;refine⟨h0,h1,?_⟩;rcases hs:Rw.steps ([],-1,[]) (zAN [] s) with _|⟨aa,c,o⟩
   · rw[hs]at h;cases h
   rw[hs,ZC]at h;split at h
   · rename_i ho;simp only at ho;subst ho;simp only[Zg]at h;subst h;exact⟨c,rfl⟩
   cases h
 cases h
theorem Rw.parse_any (s:ByteArray) (hs:s.size≤1000000) (rs:List Rw.Row) (hp:Rw.parse s.data.toList=some rs) (w:World) (hL:Rw.Laid w) :
 Calls prog 92 #[.string s] w (Rw.RetParse rs w):=by
 obtain⟨ai,ak,cN,ah⟩:=zLh hp;have ap:=zHM s hs ai
 have hl:∀x∈zAN [] s.data.toList,x.length≤1000:=fun x hx=>by
  rw[Yj]at ai;have:=ai x hx;unfold zCa at this;rw[Zw,Zn]at this;exact this.1
 obtain⟨L,au⟩:∃L,zAN [] s.data.toList=L:=⟨_,rfl⟩;rw[au]at ah ap ak hl;have ax:=Rw.steps_len _ ah;simp only[ZY,Z1]at ax;have a1:=hy' ah;have ay:=hy' hl;clear ai hp au ah hl;go_enter func92,ntmps92;go_wp2_with fail;refine (ap _).mono ?_;rintro e w1 ⟨A,c,rfl,hA,ao⟩;have az:=hL.next ao;have hmx:¬(40000:Int)<(L.length:Int):=by omega
 have af:=Rw.At.new w1 193 [.slice none 0 0,.int .i32 (-1),.string ⟨#[]⟩]
 have av:=fun W (e:W=w1.alloc (.cells #[.slice none 0 0,.int .i32 (-1),.string ⟨#[]⟩] 193))=>zO4 w1.heap.size ([],-1,[]) (rs,cN,[]) L A L.length c w1 W az (Za _)
  (by rw[e];exact (Zc _ _).alloc (Za _) _) (by rw[e];exact⟨.slice none 0 0,[],af,ZE _ _ _ _,rfl,fun i r a h=>by simp at h⟩) rfl rfl (by omega) ay.o (by rw[e];exact hA.below ((Zc _ _).alloc (Za _) _) (Za _)) (by rw[e];simp) a1.o
 have aq:=hy' ao;clear hA ao ap af;go_wp2_with fail;refine (av _ rfl).mono ?_;rintro e w2 ⟨rfl,⟨v,ads,af,ae,has,aa⟩,ar⟩;simp only at af ae has aa;obtain⟨Av,cv,rfl⟩:=zA3 ae;obtain⟨d1,d2,d3,d4,d5,d6⟩:=af.three;have aj:=hy' ae;have ag:=hy' aa;have aw:=hy' ar;clear ae aa ar av;go_wp2_with fail;go_ret2;exact⟨Av,cv,rfl,⟨ads,has,Slt.of_own aj.o,ag.o⟩,aq.o.trans ((((Zc w1.heap.size w1).alloc (Za _) _).trans aw.o).mono aq.o.size)⟩
end Go.Proofs.YtjakbblocbicjaaGreatDoor
