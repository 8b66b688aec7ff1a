/- The document's layer model: Check, by walking its text. -/
import Derived.Test.YthngjlllojiacaaGreatDoorMdRef5
set_option maxRecDepth 100000
set_option maxHeartbeats 8000000
set_option linter.unusedVariables false
set_option linter.unusedSimpArgs false
namespace Go.Proofs.YthngjlllojiacaaGreatDoor
open Go.Proofs.Tryz
open Go.RowKit
theorem zPq (w:World) (e:TypeId) (u:Value):(w.alloc (.cells #[u] e)).ownsRow w.heap.size e 1 (.slice (some ⟨w.heap.size,0,none⟩) 1 1) 1 [u] :=
 ⟨rfl,.inr ⟨w.heap.size,1,#[u],rfl,Za _,ZV w _,Za _,by decide,rfl,rfl⟩⟩
theorem zDR {last:Int} {r:Rw.Row} (h:(!C.isC r.1||decide (r.1≤last)||decide (r.2.1<0)||decide (254<r.2.1)||decide (2<r.2.2.length))=true):Md.bad last r=1:=by
 unfold Md.bad;rw[Zl h]
theorem zL0 {last:Int} {r:Rw.Row} {x:Int} {j:Nat} (h:(!C.isC r.1||decide (r.1≤last)||decide (r.2.1<0)||decide (254<r.2.1)||decide (2<r.2.2.length))=false) (hx:(r.1::r.2.2)[j]?=some x) (hk:zA2 x≠0):Md.bad last r=2:=by
 unfold Md.bad;rw[Zj (by rw[h];decide),Zl];rw[Yo];exact⟨x,List.mem_of_getElem? hx,by simpa using hk⟩
theorem zL1 {last:Int} {r:Rw.Row} {x:Int} {j:Nat} (h:(!C.isC r.1||decide (r.1≤last)||decide (r.2.1<0)||decide (254<r.2.1)||decide (2<r.2.2.length))=false) (h2:∀x∈r.1::r.2.2,zA2 x=0) (hx:r.2.2[j]?=some x) (hk:C.isC x=false):Md.bad last r=3:=by
 unfold Md.bad;rw[Zj (by rw[h];decide),Zj,Zl]
 · rw[Yo];exact⟨x,Zk hx,by rw[hk];rfl⟩
 rw[Yo];rintro⟨y,hy,aa⟩;rw[Zm]at aa;exact aa (h2 y hy)
theorem zNJ {last:Int} {r:Rw.Row} (h:(!C.isC r.1||decide (r.1≤last)||decide (r.2.1<0)||decide (254<r.2.1)||decide (2<r.2.2.length))=false) (h2:∀x∈r.1::r.2.2,zA2 x=0) (h3:∀x∈r.2.2,C.isC x=true):Md.bad last r=0:=by
 unfold Md.bad;rw[Zj (by rw[h];decide),Zj,Zj]
 · rw[Yo];rintro⟨y,hy,aa⟩;rw[h3 y hy]at aa;cases aa
 rw[Yo];rintro⟨y,hy,aa⟩;rw[Zm]at aa;exact aa (h2 y hy)
theorem zQr (c:Int):0≤zA2 c:=by
 unfold zA2
 repeat' split
 all_goals decide
theorem zIZ {l:List Int} {P:Int→Prop} {k:Nat} {x:Int} (hx:l[k]?=some x) (h:∀y∈l.take k,P y) (hp:P x):∀y∈l.take (k+1),P y:=by
 rw[ZA,hx];intro y hy;rcases List.mem_append.1 hy with hy|hy
 · exact h y hy
 simp at hy;subst hy;exact hp
theorem zL2 (v:Value) (T:List Rw.Row) (E:List Int) (w:World) (fc:T.length≤100000) (im:E.length≤1000000) (hbd:Md.bd T) (dz:∀r∈T,r.2.2.length≤1000) (fw:∀r∈T,-9223372036854775808≤r.2.1∧r.2.1≤9223372036854775807) (h:Md.Doc w v T E) (cq:∀A n c x,v=.agg #[.slice A n c,x]→n≤c) :
 Calls prog 104 #[v] w fun e w'=>e=.returned (.string (zB9 (Md.chk T (Md.xs E))))∧Below w.heap.size w w':=by
 obtain⟨i0,jd,h4,iw,h8⟩:=Z7 zFy;have h9:=hy' h;obtain⟨A,c,XA,xc,rfl,h2,hX⟩:=id h;have cq:=cq _ _ _ _ rfl;obtain⟨xn,hxn⟩:∃k,E.length=k:=⟨_,rfl⟩;obtain⟨n,hn⟩:∃k,T.length=k:=⟨_,rfl⟩;obtain⟨res,ch⟩:∃k,Md.chk T (Md.xs E)=k:=⟨_,rfl⟩
 have dc:Hy (∀(d:Int) (W:World),Below w.heap.size w W → -2147483648≤d→d≤2147483647→Calls prog 36 #[.agg #[.slice A n c,.slice XA xn xc],.int .i64 d] W (zFa (Md.full T d) W)):=hy' fun d W hW a b=>by
  have:=zHe _ T E d W fc (h.below hW) hbd dz a b;rw[hn,hxn]at this;exact this
 have bx:Hy (∀(d:Int) (W:World),Below w.heap.size w W → -2147483648≤d→d≤2147483647→Calls prog 109 #[.agg #[.slice A n c,.slice XA xn xc],.int .i64 d] W fun e w'=>e=.returned (.bool (zAo T (Md.xs E) d))∧Below W.heap.size W w'):=hy' fun d W hW a b=>by
  have:=zHz _ T E d W fc im (h.below hW) dz a b;rw[hn,hxn]at this;exact this
 rw[hn]at fc cq;rw[hn,hxn,ch];obtain⟨wa,ea⟩:∃wa,w.alloc (.cells #[.slice A n c,.slice XA xn xc] 38)=wa:=⟨_,rfl⟩;have e4:Below w.heap.size w wa:=by rw[←ea];exact (Zc _ _).alloc (Za _) _
 have ej:Rw.At wa w.heap.size 38 [.slice A n c,.slice XA xn xc]:=by rw[←ea];exact Rw.At.new w 38 [.slice A n c,.slice XA xn xc]
 have ij:=hy' ea;have bo:=hy' e4;have h7:=hy' ej;have bt:=hy' (h2.below e4);have HN:=hy' hn;have cf:=hy' ch;have ec:=hy' hbd;have jf:=hy' dz;have ia:=hy' fw;have z0:=ej.cell 0 rfl;clear ea e4 ej hn hxn ch hbd dz fw h h2 hX;unfold zBd at *;go_enter func104,ntmps104;go_upto_region 1 with (fail)
 rw[ij.o];go_wp2_with fail;go_loopw [3,21] (fun v3 i wr=>∃(k:Nat) (last:Int),k≤n∧i=.int .i64 k∧v3=.int .i64 last∧(-2147483648≤last∧last≤2147483647)∧zAu (-1) T=zAu last (T.drop k)∧Below wa.heap.size wa wr) (fun _ i _=>n-(intOf i).toNat)
 case atStart=>exact⟨0,-1,ZG _,rfl,rfl,by omega,rfl,Zc _ _⟩
 obtain⟨k,last,hk,rfl,rfl,gw,av,bf⟩:=hrel;have aa:=h7.o.below bf;have z0:=aa.cell 0 rfl;have z1:=aa.cell 1 rfl;have fz:=hy' av;have bu:=hy' bf;have e2:=hy' aa;clear av aa
 by_cases hlt:k<n
 · obtain⟨r,hr⟩:∃r,T[k]?=some r:=⟨_,Zb (by rw[HN.o];exact hlt)⟩;have aj:=Zk hr;have av:=ec.o r aj;have er:=ia.o r aj;have i7:=jf.o r aj;obtain⟨b,o,a,cy,hb,c0,c1,c2,cn⟩:=(bt.o.below bf).row hr;obtain⟨ml,cm⟩:∃k,r.2.2.length=k:=⟨_,rfl⟩;rw[cm]at c2 i7;have bb:Below wr.heap.size wr (wr.alloc (.cells #[.int .i64 r.1,.int .i64 r.2.1,.slice a.1 ml a.2] 74)):=(Zc _ _).alloc (Za _) _;have af:=Rw.At.new wr 74 [.int .i64 r.1,.int .i64 r.2.1,.slice a.1 ml a.2];obtain⟨x0,x1,x2,_,_,_⟩:=af.three;have il:=hy' (cn.below bb (Za _));have bp:=hy' (bf.trans (bb.mono bf.size));have hd:=zDj hr;have cu:=fz.o;rw[hd,zAu]at cu;have dx:=hy' cu;have ft:=hy' av;have bc:=hy' cm;have ib:(k:Int)<n:=by omega
   have ja:(0:Int)≤k:=by omega
   obtain⟨ig,ir⟩:=av.1
   have dn:∀j,Md.bad last r=j→j≠0→res=j:=by
    intro j hj h0;rw[←cf.o];unfold Md.chk;rw[dx.o,hj,Zj h0,Zl h0]
   have ax:=hy' dn;have cr:=Ch.ris_any r.1 (wr.alloc (.cells #[.int .i64 r.1,.int .i64 r.2.1,.slice a.1 ml a.2] 74));obtain⟨ic,ef⟩:∃b,C.isC r.1=b:=⟨_,rfl⟩;rw[ef]at cr;have cv:=hy' ef;subst cy;clear hr aj av cn bb af hd cu bf cm dn ef
   have dp:∀(j:Nat) (W:World) (e:Ending) (w':World),res=j→e=.returned (.string (zB9 j))→Below wa.heap.size wa W→W=w'→e=.returned (.string (zB9 res))∧Below w.heap.size w w':=by
    rintro j W e w' rfl rfl hW rfl;exact⟨rfl,bo.o.trans (hW.mono bo.o.size)⟩
   have ag:=hy' dp;clear dp;cases ic
   · have ai:=ax.o 1 (zDR (by rw[cv.o,Jr,Xp,Xp,Xp,Xp])) (by decide);have ay:=hy' ai;clear ai;go_wp2_with (first|(go_at_call 69;refine cr.mono ?_;rintro e w' ⟨rfl,rfl⟩)|fail);go_ret;exact ag.o 1 _ _ _ ay.o rfl bp.o rfl
   rcases hb2:decide (r.1≤last) with _|_
   rotate_left
   · have ai:=ax.o 1 (zDR (by rw[cv.o,hb2];simp)) (by decide);have ay:=hy' ai;clear ai;go_wp2_with (first|(go_at_call 69;refine cr.mono ?_;rintro e w' ⟨rfl,rfl⟩)|fail);go_ret;exact ag.o 1 _ _ _ ay.o rfl bp.o rfl
   rcases hb3:decide (r.2.1<0) with _|_
   rotate_left
   · have ai:=ax.o 1 (zDR (by rw[cv.o,hb2,hb3];simp)) (by decide);have ay:=hy' ai;clear ai;go_wp2_with (first|(go_at_call 69;refine cr.mono ?_;rintro e w' ⟨rfl,rfl⟩)|fail);go_ret;exact ag.o 1 _ _ _ ay.o rfl bp.o rfl
   rcases cb:decide (254<r.2.1) with _|_
   rotate_left
   · have ai:=ax.o 1 (zDR (by rw[cv.o,hb2,hb3,cb];simp)) (by decide);have ay:=hy' ai;clear ai;go_wp2_with (first|(go_at_call 69;refine cr.mono ?_;rintro e w' ⟨rfl,rfl⟩)|fail);go_ret;exact ag.o 1 _ _ _ ay.o rfl bp.o rfl
   rcases hb5:decide (2<(ml:Int)) with _|_
   rotate_left
   · have h5:decide (2<r.2.2.length)=true:=by rw[bc.o];simp at hb5 ⊢;omega
     have ai:=ax.o 1 (zDR (by rw[cv.o,hb2,hb3,cb,h5];rfl)) (by decide);have ay:=hy' ai;clear ai h5;go_wp2_with (first|(go_at_call 69;refine cr.mono ?_;rintro e w' ⟨rfl,rfl⟩)|fail);go_ret;exact ag.o 1 _ _ _ ay.o rfl bp.o rfl
   have h5:decide (2<r.2.2.length)=false:=by rw[bc.o];simp at hb5 ⊢;omega
   have gx:(!C.isC r.1||decide (r.1≤last)||decide (r.2.1<0)||decide (254<r.2.1)||decide (2<r.2.2.length))=false:=by rw[cv.o,hb2,hb3,cb,h5];rfl
   have fg:=hy' gx;clear gx h5;obtain⟨wn,bn⟩:∃wn,(wr.alloc (.cells #[.int .i64 r.1,.int .i64 r.2.1,.slice a.1 ml a.2] 74)).alloc (.cells #[.int .i64 r.1] 3)=wn:=⟨_,rfl⟩
   have dl:wn.ownsRow (wr.heap.size+1) 3 1 (.slice (some ⟨wr.heap.size+1,0,none⟩) 1 1) 1 [.int .i64 r.1]:=by
    have:=zPq (wr.alloc (.cells #[.int .i64 r.1,.int .i64 r.2.1,.slice a.1 ml a.2] 74)) 3 (.int .i64 r.1);rw[ZK]at this;rw[←bn];exact this
   have fe:Below (wr.heap.size+1) (wr.alloc (.cells #[.int .i64 r.1,.int .i64 r.2.1,.slice a.1 ml a.2] 74)) wn:=by rw[←bn];exact (Zc _ _).alloc (by simp) _
   have gf:=il.o.belowN fe (ZW _) (Za _);have af:Rw.At wn wr.heap.size 74 [.int .i64 r.1,.int .i64 r.2.1,.slice a.1 ml a.2]:=by rw[←bn];exact (Rw.At.new wr 74 [.int .i64 r.1,.int .i64 r.2.1,.slice a.1 ml a.2]).alloc _
   have e9:wr.heap.size+1≤wn.heap.size:=af.lt;have e7:=hy' dl;have gp:=hy' gf;have cj:=hy' af;have en:=hy' bn;have eb:=hy' (bp.o.trans (fe.mono (Zh bu.o.size (ZW _))));have jb:Hy (∀u∈r.2.2.map (Value.int .i64),u.oneCell'=true):=hy' (zF0 .i64 _);have ek:Hy ((r.2.2.map (Value.int .i64)).length=ml*1):=hy' (by rw[Ze,bc.o,Xi]);clear dl fe gf af bn;go_wp2_with (first|(go_at_call 69;refine cr.mono ?_;rintro e w' ⟨rfl,rfl⟩)|(at_builtin;(rw[en.o]);refine zAd _ rfl _ _ _ rfl (wr.heap.size+1) 3 i0 _ 1 8 underlying36 jd h4 iw h8 rfl (by omega) _ 1 _ rfl e7.o _ a.1 ml a.2 (r.2.2.map (Value.int .i64)) rfl ek.o gp.o jb.o (by simp only[maxLen];omega) (by omega) e9 ?_;intro v1 w4 bm cb jc;obtain⟨A4,c4,rfl⟩:=zA3 bm)|fail);have df:=cj.o.below' cb (ZN _);obtain⟨y0,y1,y2,_,_,_⟩:=df.three;have gm:=hy' (Sl.of_own bm);have di:=hy' (eb.o.trans (cb.mono (Zh bu.o.size (ZW _))));have jg:=hy' (gp.o.belowN cb (ZW _) (Za _));obtain⟨L,hL⟩:∃L,r.1::r.2.2=L:=⟨_,rfl⟩;have HL:=hy' hL;have gl:[.int .i64 r.1]++r.2.2.map (Value.int .i64)=L.map (Value.int .i64):=by rw[←hL];rfl
   rw[gl]at gm;have gb:Hy (L.length=1+ml):=hy' (by rw[←hL,ZF,bc.o];omega)
   have iv:Hy (∀x∈L,-2147483648≤x∧x≤2147483647):=hy' (by
    rw[←hL];intro x hx;rcases List.mem_cons.1 hx with rfl|hx
    · exact ft.o.1
    exact ft.o.2 x hx)
   clear df bm cb jc hL gl x0 x1 x2 c0 c1 c2 z0 z1;go_loop [60] (fun i=>∃j:Nat,j≤1+ml∧i=.int .i64 j∧∀x∈L.take j,zA2 x=0) (fun i=>1+ml-(intOf i).toNat)
   case atStart=>exact⟨0,ZG _,rfl,by simp⟩
   obtain⟨j,hj,rfl,bi⟩:=hrel;have aw:=hy' bi;clear bi
   by_cases hlt2:j<1+ml
   · obtain⟨x,hx⟩:∃x,L[j]?=some x:=⟨_,Zb (by rw[gb.o];exact hlt2)⟩;obtain⟨g,go,rfl,hg,ie,_⟩:=gm.o.ints hx;have hxb:=iv.o x (Zk hx);have hK:=zFC x w4 hxb.1 hxb.2;have ey:=zQr x;obtain⟨kx,cg⟩:∃q,zA2 x=q:=⟨_,rfl⟩;rw[cg]at hK ey;have iy:(j:Int)<((1+ml:Nat):Int):=by omega
     have hj0:(0:Int)≤j:=by omega
     have HX:=hy' hx;have c8:=hy' cg;have HK:=hy' hK;clear hx hxb cg hK;rcases hd:decide (0<kx) with _|_
     · have hz:kx=0:=by simp at hd;omega
       have HZ:=hy' hz;clear hz ey;go_wp2_with (first|(go_at_call 108;refine HK.o.mono ?_;rintro e w' ⟨rfl,rfl⟩)|fail);exact⟨⟨j+1,by omega,by go_num,zIZ HX.o aw.o (by rw[c8.o,HZ.o])⟩,by simp[intOf];omega⟩
     have hz:kx≠0:=by simp at hd;omega
     have ai:=ax.o 2 (zL0 fg.o (by rw[HL.o];exact HX.o) (by rw[c8.o];exact hz)) (by decide);have ay:=hy' ai;clear hz ey ai;go_wp2_with (first|(go_at_call 108;refine HK.o.mono ?_;rintro e w' ⟨rfl,rfl⟩)|fail);go_ret;exact ag.o 2 _ _ _ ay.o rfl di.o rfl
   have cc:∀x∈r.1::r.2.2,zA2 x=0:=by
    rw[HL.o];intro x hx;exact aw.o x (by rw[Zi (by rw[gb.o];omega)];exact hx)
   have b7:=hy' cc;have hge:¬(j:Int)<((1+ml:Nat):Int):=by omega
   clear cc aw hlt2;go_wp2_with fail;clear hge;go_loop [71] (fun i=>∃j:Nat,j≤ml∧i=.int .i64 j∧∀x∈r.2.2.take j,C.isC x=true) (fun i=>ml-(intOf i).toNat)
   case atStart=>exact⟨0,ZG _,rfl,by simp⟩
   obtain⟨j,hj,rfl,bi⟩:=hrel;have aw:=hy' bi;clear bi
   by_cases hlt2:j<ml
   · obtain⟨x,hx⟩:∃x,r.2.2[j]?=some x:=⟨_,Zb (by rw[bc.o];exact hlt2)⟩;obtain⟨g,go,ho,hg,ie,_⟩:=jg.o.ints hx;have hK:=Ch.ris_any x w4;obtain⟨kx,cg⟩:∃q,C.isC x=q:=⟨_,rfl⟩;rw[cg]at hK;have iy:(j:Int)<(ml:Int):=by omega
     have hj0:(0:Int)≤j:=by omega
     have HX:=hy' hx;have c8:=hy' cg;have HK:=hy' hK;obtain⟨a1,a2⟩:=a;simp only at ho;subst ho;clear hx cg hK;cases kx
     · have ai:=ax.o 3 (zL1 fg.o b7.o HX.o c8.o) (by decide);have ay:=hy' ai;clear ai;go_wp2_with (first|(go_at_call 69;refine HK.o.mono ?_;rintro e w' ⟨rfl,rfl⟩)|fail);go_ret;exact ag.o 3 _ _ _ ay.o rfl di.o rfl
     go_wp2_with (first|(go_at_call 69;refine HK.o.mono ?_;rintro e w' ⟨rfl,rfl⟩)|fail);exact⟨⟨j+1,by omega,by go_num,zIZ HX.o aw.o c8.o⟩,by simp[intOf];omega⟩
   have gu:Md.bad last r=0:=zNJ fg.o b7.o (fun x hx=>aw.o x (by rw[Zi (by rw[bc.o];omega)];exact hx));have bz:zAu (-1) T=zAu r.1 (T.drop (k+1)):=by rw[dx.o,gu];rfl
   have dt:=hy' bz;have hge:¬(j:Int)<(ml:Int):=by omega
   clear gu bz hlt2 aw;go_wp2_with fail;exact⟨⟨k+1,r.1,by omega,by go_num,rfl,⟨ig,ir⟩,dt.o,di.o⟩,by simp[intOf];omega⟩
 obtain rfl:n=k:=by omega
 have hz:zAu (-1) T=0:=by
  rw[fz.o,XB (by rw[HN.o];exact Za _)];rfl
 obtain⟨b9,b1⟩:=zC5 T (-1) hz;have HZ:=hy' hz;have cd:=hy' b9;have b4:=hy' b1
 have ag:Hy (∀(j:Nat) (W:World) (e:Ending) (w':World),res=j→e=.returned (.string (zB9 j))→Below wa.heap.size wa W→W=w'→e=.returned (.string (zB9 res))∧Below w.heap.size w w'):=hy' (by
  rintro j W e w' rfl rfl hW rfl;exact⟨rfl,bo.o.trans (hW.mono bo.o.size)⟩)
 obtain⟨wb,rfl⟩:∃wb:World,wb=wr:=⟨_,rfl⟩;clear hz b9 b1 hlt;go_wp2_with fail;go_loopw [83] (fun i wr=>∃k:Nat,k≤n∧i=.int .i64 k∧(∀r∈T.take k,(Md.full T r.1).isSome=true)∧Below wb.heap.size wb wr) (fun i _=>n-(intOf i).toNat)
 case atStart=>exact⟨0,ZG _,rfl,fun r hr=>by simp at hr,Zc _ _⟩
 obtain⟨k,hk,rfl,bk,az⟩:=hrel;have aa:=e2.o.below az;have y0:=aa.cell 0 rfl;have y1:=aa.cell 1 rfl;have cp:=hy' bk;have b6:=bu.o.trans (az.mono bu.o.size);have a8:=hy' b6;have dw:=hy' aa;have b8:=hy' az;have iz:=aa.lt;clear bk aa az z0 z1
 by_cases hlt:k<n
 · obtain⟨r,hr⟩:∃r,T[k]?=some r:=⟨_,Zb (by rw[HN.o];exact hlt)⟩;have aj:=Zk hr;have av:=ec.o r aj;obtain⟨b,o,a,cy,hb,c0,c1,c2,cn⟩:=(bt.o.below b6).row hr;have bb:Below wr.heap.size wr (wr.alloc (.cells #[.int .i64 r.1,.int .i64 r.2.1,.slice a.1 r.2.2.length a.2] 74)):=(Zc _ _).alloc (Za _) _;have e6:=a8.o.trans (bb.mono a8.o.size);have hE:=dc.o r.1 _ (bo.o.trans (e6.mono bo.o.size)) av.1.1 av.1.2;have du:=hy' e6;have eb:=hy' (b8.o.trans (bb.mono b8.o.size));have af:=Rw.At.new wr 74 [.int .i64 r.1,.int .i64 r.2.1,.slice a.1 r.2.2.length a.2];obtain⟨x0,x1,x2,_,_,_⟩:=af.three;have ib:(k:Int)<n:=by omega
   have ja:(0:Int)≤k:=by omega
   obtain⟨fo,eo⟩:∃fo,Md.full T r.1=fo:=⟨_,rfl⟩;rw[eo]at hE;have fm:=hy' eo;have HR:=hy' hr;have dv:=hy' aj;subst cy;clear hr aj av cn bb e6 af eo;go_wp2_with fail;refine hE.mono ?_;rintro e w2 ⟨A1,jz,rfl,_,hg⟩;have di:=hy' (eb.o.trans (hg.mono eb.o.size));have je:=hy' (du.out.trans (hg.mono du.out.size));clear hg hE x0 x1 x2 y0 y1 c0 c1 c2;rcases fo with _|fl
   · have gj:res=4:=by
      rw[←cf.o];unfold Md.chk
      have:zBf T=true:=by
       unfold zBf;rw[Yo];exact⟨r,dv.o,by rw[fm.o];rfl⟩
      rw[Zj (by rw[HZ.o];simp),Zl this]
     have i1:=hy' gj;clear gj;go_wp2_with fail;go_ret;exact ag.o 4 _ _ _ i1.o rfl je.o rfl
   have bk:∀r∈T.take (k+1),(Md.full T r.1).isSome=true:=by
    rw[ZA,HR.o];intro q hq;rcases List.mem_append.1 hq with hq|hq
    · exact cp.o q hq
    simp at hq;subst hq;rw[fm.o];rfl
   have c7:=hy' bk;clear bk;go_wp2_with fail;exact⟨⟨k+1,by omega,by go_num,c7.o,di.o⟩,by simp[intOf];omega⟩
 obtain rfl:n=k:=by omega
 have fp:zBf T=false:=by
  unfold zBf;rw[XK];intro r hr;have:=cp.o r (by rw[Zi (by rw[HN.o];exact Za _)];exact hr);cases hf:Md.full T r.1 with
  | none=>rw[hf]at this;cases this
  | some l=>simp
 have gz:res=if zAZ T (Md.xs E) [] T=true then 5 else 0:=by
  rw[←cf.o];unfold Md.chk;rw[Zj (by rw[HZ.o];simp),Zj (by rw[fp];simp),←zDf];rfl
 have gi:=hy' gz;obtain⟨wz,rfl⟩:∃wz:World,wz=wr:=⟨_,rfl⟩;clear fp gz hlt cp;go_wp2_with fail;go_loopw [100] (fun i wr=>∃k:Nat,k≤n∧i=.int .i64 k∧zAZ T (Md.xs E) [] T=zAZ T (Md.xs E) (T.take k) (T.drop k)∧Below wz.heap.size wz wr) (fun i _=>n-(intOf i).toNat)
 case atStart=>exact⟨0,ZG _,rfl,rfl,Zc _ _⟩
 obtain⟨k,hk,rfl,bs,a6⟩:=hrel;have aa:=dw.o.below a6;have y0:=aa.cell 0 rfl;have y1:=aa.cell 1 rfl;have gq:=hy' bs;have ap:=a8.o.trans (a6.mono a8.o.size);have b3:=hy' a6;have cz:=hy' ap;have iq:=aa.lt;have dm:=hy' aa;clear bs aa a6
 by_cases hlt:k<n
 rotate_left
 · obtain rfl:n=k:=by omega
   have gv:res=0:=by
    rw[gi.o,gq.o,XB (by rw[HN.o];exact Za _)];rfl
   have jh:=hy' gv;clear gv hlt;go_wp2_with fail;go_ret;exact ag.o 0 _ _ _ jh.o rfl cz.o rfl
 obtain⟨r,hr⟩:∃r,T[k]?=some r:=⟨_,Zb (by rw[HN.o];exact hlt)⟩;have aj:=Zk hr;have av:=ec.o r aj;obtain⟨b,o,a,cy,hb,c0,c1,c2,cn⟩:=(bt.o.below ap).row hr;obtain⟨wn,bn⟩:∃wn,wr.alloc (.cells #[.int .i64 r.1,.int .i64 r.2.1,.slice a.1 r.2.2.length a.2] 74)=wn:=⟨_,rfl⟩;have bb:Below wr.heap.size wr wn:=by rw[←bn];exact (Zc _ _).alloc (Za _) _
 have af:Rw.At wn wr.heap.size 74 [.int .i64 r.1,.int .i64 r.2.1,.slice a.1 r.2.2.length a.2]:=by rw[←bn];exact Rw.At.new wr 74 [.int .i64 r.1,.int .i64 r.2.1,.slice a.1 r.2.2.length a.2]
 have iu:=af.lt;have en:=hy' bn;have bp:=hy' bb;have cj:=hy' af;have au:=hy' (ap.trans (bb.mono ap.size));have b2:=hy' (dm.o.below bb);have ez:=hy' (cn.below bb bb.size);have bs:=gq.o;rw[zDj hr,zAZ]at bs;have c6:=hy' bs;have gy:T.take (k+1)=T.take k++[r]:=by rw[ZA,hr];rfl
 have ji:=hy' gy;have er:=zCV (X:=Md.xs E) b4.o aj (cd.o r aj).1
 have h6:Hy (∀W,Below wn.heap.size wn W→Calls prog 109 #[.agg #[.slice A n c,.slice XA xn xc],.int .i64 r.1] W fun e w'=>e=.returned (.bool (zAc T (Md.xs E) r))∧Below W.heap.size W w'):=hy' fun W hW=>by
  rw[←er];exact bx.o r.1 W (bo.o.trans ((au.o.trans (hW.mono au.o.size)).mono bo.o.size)) av.1.1 av.1.2
 have x0:=af.cell 0 rfl;have i6:=b2.o.cell 0 rfl;have kI:(k:Int)<n:=by omega
 have k0:(0:Int)≤k:=by omega
 have kc:(k:Int)≤c:=by omega
 have js:k≤c:=by omega
 subst cy;clear hr aj av cn bn bb af bs gy er ap;go_wp2_with fail;go_upto_region 31 with (fail)
 rw[en.o];go_wp2_with fail;clear c0 c1 c2 x0 y0 y1 i6;go_loopw [110] (fun i wq=>∃m:Nat,m≤k∧i=.int .i64 m∧Md.ahead T (Md.xs E) (T.take m) r=false∧Below wn.heap.size wn wq) (fun i _=>k-(intOf i).toNat)
 case atStart=>exact⟨0,ZG _,rfl,rfl,Zc _ _⟩
 obtain⟨m,hm,rfl,fk,ae⟩:=hrel;have ar:=b2.o.below ae;have a7:=cj.o.below' ae iu;have bg:=ez.o.below ae ae.size;have bl:=au.o.trans (ae.mono au.o.size);have h3:=hy' fk;have y0:=ar.cell 0 rfl;have fj:=ar.lt;have hl:=a7.lt;clear fk
 by_cases hlt2:m<k
 rotate_left
 · obtain rfl:k=m:=by omega
   have bs:zAZ T (Md.xs E) [] T=zAZ T (Md.xs E) (T.take (k+1)) (T.drop (k+1)):=by rw[c6.o,ji.o,h3.o,Y5]
   have e8:=hy' bs;have bh:=hy' (b3.o.trans ((bp.o.trans (ae.mono bp.o.size)).mono b3.o.size));clear bs ae bl ar a7 bg y0;go_wp2_with fail;exact⟨⟨k+1,by omega,by go_num,e8.o,bh.o⟩,by simp[intOf];omega⟩
 obtain⟨q,hq⟩:∃q,T[m]?=some q:=⟨_,Zb (by rw[HN.o];omega)⟩;have fq:(T.take k)[m]?=some q:=by rw[Yk,Zl hlt2];exact hq
 have br:=Zk hq;have cw:=ec.o q br;obtain⟨bq,oq,aq,gg,j1,c0,c1,c2,cx⟩:=(bt.o.below bl).row hq;simp only[Zg,YR,YH]at gg;obtain⟨rfl,rfl⟩:=gg;obtain⟨wp,dy⟩:∃wp,wr.alloc (.cells #[.int .i64 q.1,.int .i64 q.2.1,.slice aq.1 q.2.2.length aq.2] 74)=wp:=⟨_,rfl⟩;have b5:Below wr.heap.size wr wp:=by rw[←dy];exact (Zc _ _).alloc (Za _) _
 have bj:Rw.At wp wr.heap.size 74 [.int .i64 q.1,.int .i64 q.2.1,.slice aq.1 q.2.2.length aq.2]:=by rw[←dy];exact Rw.At.new wr 74 [.int .i64 q.1,.int .i64 q.2.1,.slice aq.1 q.2.2.length aq.2]
 have ik:=hy' dy;have ba:=hy' (ae.trans (b5.mono ae.size));have ao:=ar.below b5;have ak:=a7.below b5;have ih:=hy' (bg.below b5 b5.size);have ix:=hy' (cx.below b5 b5.size);have gh:=zCV (X:=Md.xs E) b4.o br (cd.o q br).1;have C1:=hy' (Ext.call (w:=wp) fun W hW=>h6.o W (ba.o.trans (hW.mono ba.o.size)))
 have fx:∀W,Below wp.heap.size wp W→Calls prog 109 #[.agg #[.slice (some ⟨b,o,none⟩) n c,.slice XA xn xc],.int .i64 q.1] W fun e w'=>e=.returned (.bool (zAc T (Md.xs E) q))∧Below W.heap.size W w':=fun W hW=>by
  rw[←gh];have h1:=ba.o.trans (hW.mono ba.o.size);exact bx.o q.1 W (bo.o.trans ((au.o.trans (h1.mono au.o.size)).mono bo.o.size)) cw.1.1 cw.1.2
 have C2:=hy' (Ext.call (w:=wp) fx);have e0:=Ext.cells (ao.cell 0 rfl) ao.lt;have e1:=Ext.cells (ao.cell 1 rfl) ao.lt;have r0:=Ext.cells (ak.cell 0 rfl) ak.lt;have r2:=Ext.cells (ak.cell 2 rfl) ak.lt;have q0:=Ext.cells (bj.cell 0 rfl) bj.lt;have q2:=Ext.cells (bj.cell 2 rfl) bj.lt
 have ct:(zAc T (Md.xs E) r&&(zAc T (Md.xs E) q&&decide (q.2.2=r.2.2)))=false→Md.ahead T (Md.xs E) (T.take (m+1)) r=false:=by
  intro h0;have h1:=h3.o;unfold Md.ahead at h1 ⊢;rw[ZA,hq,Qu,h1,Y5];simp only[QC,Kh,List.any_nil,Bool.or_false];exact h0
 have ck:(zAc T (Md.xs E) r&&(zAc T (Md.xs E) q&&decide (q.2.2=r.2.2)))=true→res=5:=by
  intro h0;rw[gi.o,Zl];rw[c6.o]
  have:Md.ahead T (Md.xs E) (T.take k) r=true:=by
   unfold Md.ahead;rw[Yo];exact⟨q,Zk fq,h0⟩
  rw[this,Xp]
 have ei:∀r:Rw.Row,zAc T (Md.xs E) r=true→∃x y,r.2.2=[x,y]:=by
  intro r hc;unfold zAc at hc;simp only[Zs,Zm]at hc;have h2:=hc.2.1
  match hh:r.2.2,h2 with
  | [x,y],_=>exact⟨x,y,rfl⟩
 have dr:=hy' (ei r);have dh:=hy' (ei q);obtain⟨pr,ee⟩:∃p,zAc T (Md.xs E) r=p:=⟨_,rfl⟩;obtain⟨pq,e5⟩:∃p,zAc T (Md.xs E) q=p:=⟨_,rfl⟩;rw[ee,e5]at ct ck;rw[ee]at C1 dr;rw[e5]at C2 dh;have bw:=hy' ct;have et:=hy' ck;have mI:(m:Int)<k:=by omega
 have m0:(0:Int)≤m:=by omega
 clear hq fq br cw cx dy b5 bj ar a7 bg ao ak gh fx ct ck ei ee e5 ae bl;go_upto_region 34 with (fail)
 rw[ik.o];clear c0 c1 c2 y0;cases pr
 · have ah:=hy' (bw.o (Xl _));refine zA7 (by kernel_rfl) (by kernel_rfl) ?_
   repeat (go_big_quiet_step ((first|(go_at_call 109;first|with_reducible exact C1.o _|with_reducible exact C2.o _))))
   refine wpQuiet_nil ?_;intro xw;have bh:=hy' (ba.o.trans (xw.below.mono ba.o.size));go_wp2_with fail;exact⟨⟨m+1,by omega,by go_num,ah.o,bh.o⟩,by simp[intOf];omega⟩
 cases pq
 · have ah:=hy' (bw.o rfl);refine zA7 (by kernel_rfl) (by kernel_rfl) ?_
   repeat (go_big_quiet_step ((first|(go_at_call 109;first|with_reducible exact C1.o _|with_reducible exact C2.o _))))
   refine wpQuiet_nil ?_;intro xw;have bh:=hy' (ba.o.trans (xw.below.mono ba.o.size));go_wp2_with fail;exact⟨⟨m+1,by omega,by go_num,ah.o,bh.o⟩,by simp[intOf];omega⟩
 obtain⟨x,y,aj⟩:=dr.o rfl;obtain⟨x',y',br⟩:=dh.o rfl;obtain⟨rl,eg⟩:∃k,r.2.2.length=k:=⟨_,rfl⟩;obtain⟨ql,eu⟩:∃k,q.2.2.length=k:=⟨_,rfl⟩;have ed:rl=2:=by rw[←eg,aj];rfl
 have dk:ql=2:=by rw[←eu,br];rfl
 rw[eg]at r2;rw[eu]at q2;have e3:=ih.o;have ew:=ix.o;rw[aj]at e3;rw[br]at ew;obtain⟨rb,ro,fy,av,ep⟩:=e3 (by simp);obtain⟨qb,qo,fu,cw,fh⟩:=ew (by simp);rw[fy]at r2;rw[fu]at q2;have jt:=Ext.cells (w:=wp) (b:=rb) (o:=ro) (v:=.int .i64 x) (by simpa using ep 0 (by simp)) av;have jv:=Ext.cells (w:=wp) (b:=rb) (o:=ro+1) (v:=.int .i64 y) (by simpa using ep 1 (by simp)) av;have jm:=Ext.cells (w:=wp) (b:=qb) (o:=qo) (v:=.int .i64 x') (by simpa using fh 0 (by simp)) cw;have jo:=Ext.cells (w:=wp) (b:=qb) (o:=qo+1) (v:=.int .i64 y') (by simpa using fh 1 (by simp)) cw;have jx:((ql:Int) == 2)=true:=by rw[dk];rfl
 have ju:0<rl:=by omega
 have jr:(0:Int)<rl:=by omega
 have j0:1<rl:=by omega
 have jl:(1:Int)<rl:=by omega
 have jq:0<ql:=by omega
 have jn:(0:Int)<ql:=by omega
 have jw:1<ql:=by omega
 have jy:(1:Int)<ql:=by omega
 have eh:=hy' br;have dv:=hy' aj;clear eg eu ed dk e3 ew ep fh fy fu aj br;rcases he1:(x' == x) with _|_
 · have ah:=hy' (bw.o (by rw[eh.o,dv.o];simp at he1 ⊢;intro e;exact absurd e he1));refine zA7 (by kernel_rfl) (by kernel_rfl) ?_
   repeat (go_big_quiet_step ((first|(go_at_call 109;first|with_reducible exact C1.o _|with_reducible exact C2.o _))))
   refine wpQuiet_nil ?_;intro xw;have bh:=hy' (ba.o.trans (xw.below.mono ba.o.size));go_wp2_with fail;exact⟨⟨m+1,by omega,by go_num,ah.o,bh.o⟩,by simp[intOf];omega⟩
 rcases he2:(y' == y) with _|_
 · have ah:=hy' (bw.o (by rw[eh.o,dv.o];simp at he2 ⊢;intro _ e;exact absurd e he2));refine zA7 (by kernel_rfl) (by kernel_rfl) ?_
   repeat (go_big_quiet_step ((first|(go_at_call 109;first|with_reducible exact C1.o _|with_reducible exact C2.o _))))
   refine wpQuiet_nil ?_;intro xw;have bh:=hy' (ba.o.trans (xw.below.mono ba.o.size));go_wp2_with fail;exact⟨⟨m+1,by omega,by go_num,ah.o,bh.o⟩,by simp[intOf];omega⟩
 have ay:=hy' (et.o (by rw[eh.o,dv.o];simp at he1 he2 ⊢;exact⟨he1,he2⟩));refine zA7 (by kernel_rfl) (by kernel_rfl) ?_
 repeat (go_big_quiet_step ((first|(go_at_call 109;first|with_reducible exact C1.o _|with_reducible exact C2.o _))))
 refine wpQuiet_nil ?_;intro xw;have bh:=hy' (ba.o.trans (xw.below.mono ba.o.size));go_wp2_with fail;go_ret;exact ag.o 5 _ _ _ ay.o rfl (au.o.trans (bh.o.mono au.o.size)) rfl
end Go.Proofs.YthngjlllojiacaaGreatDoor
