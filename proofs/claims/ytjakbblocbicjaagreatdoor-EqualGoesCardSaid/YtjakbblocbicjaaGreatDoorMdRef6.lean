/- The document's layer model: Check, by walking its text. -/
import Derived.Test.YtjakbblocbicjaaGreatDoorMdRef5
import Derived.Test.YtjakbblocbicjaaGreatDoorChar
set_option maxRecDepth 100000
set_option maxHeartbeats 8000000
set_option linter.unusedVariables false
set_option linter.unusedSimpArgs false
namespace Go.Proofs.YtjakbblocbicjaaGreatDoor
open Go.Proofs.Tryz
open Go.RowKit
theorem zPM (w:World) (e:TypeId) (u:Value):(w.alloc (.cells #[u] e)).ownsRow w.heap.size e 1 (.slice (some ⟨w.heap.size,0,none⟩) 1 1) 1 [u] :=
 ⟨rfl,.inr ⟨w.heap.size,1,#[u],rfl,Za _,ZT w _,Za _,by decide,rfl,rfl⟩⟩
theorem zDS {last:Int} {r:Rw.Row} (h:(!C.isC r.1||decide (r.1≤last)||decide (r.2.1<0)||decide (254<r.2.1)||decide (2<r.2.2.length))=true):zBS last r=1:=by
 unfold zBS;rw[Zm h]
theorem zLm {last:Int} {r:Rw.Row} {x:Int} {j:Nat} (h:(!C.isC r.1||decide (r.1≤last)||decide (r.2.1<0)||decide (254<r.2.1)||decide (2<r.2.2.length))=false) (hx:(r.1::r.2.2)[j]?=some x) (hk:zA2 x≠0):zBS last r=2:=by
 unfold zBS;rw[Zk (by rw[h];decide),Zm];rw[YJ];exact⟨x,List.mem_of_getElem? hx,by simpa using hk⟩
theorem zLn {last:Int} {r:Rw.Row} {x:Int} {j:Nat} (h:(!C.isC r.1||decide (r.1≤last)||decide (r.2.1<0)||decide (254<r.2.1)||decide (2<r.2.2.length))=false) (h2:∀x∈r.1::r.2.2,zA2 x=0) (hx:r.2.2[j]?=some x) (hk:C.isC x=false):zBS last r=3:=by
 unfold zBS;rw[Zk (by rw[h];decide),Zk,Zm]
 · rw[YJ];exact⟨x,Zj hx,by rw[hk];rfl⟩
 rw[YJ];rintro⟨y,hy,aa⟩;rw[Zn]at aa;exact aa (h2 y hy)
theorem zO9 {last:Int} {r:Rw.Row} (h:(!C.isC r.1||decide (r.1≤last)||decide (r.2.1<0)||decide (254<r.2.1)||decide (2<r.2.2.length))=false) (h2:∀x∈r.1::r.2.2,zA2 x=0) (h3:∀x∈r.2.2,C.isC x=true):zBS last r=0:=by
 unfold zBS;rw[Zk (by rw[h];decide),Zk,Zk]
 · rw[YJ];rintro⟨y,hy,aa⟩;rw[h3 y hy]at aa;cases aa
 rw[YJ];rintro⟨y,hy,aa⟩;rw[Zn]at aa;exact aa (h2 y hy)
theorem zQW (c:Int):0≤zA2 c:=by
 unfold zA2
 repeat' split
 all_goals decide
theorem zJg {l:List Int} {P:Int→Prop} {k:Nat} {x:Int} (hx:l[k]?=some x) (h:∀y∈l.take k,P y) (hp:P x):∀y∈l.take (k+1),P y:=by
 rw[ZA,hx];intro y hy;rcases List.mem_append.1 hy with hy|hy
 · exact h y hy
 simp at hy;subst hy;exact hp
theorem zLo (v:Value) (T:List Rw.Row) (E:List Int) (w:World) (et:T.length≤100000) (i1:E.length≤1000000) (hbd:Md.bd T) (dy:∀r∈T,r.2.2.length≤1000) (fy:∀r∈T,-9223372036854775808≤r.2.1∧r.2.1≤9223372036854775807) (h:Md.Doc w v T E) (cu:∀A n c x,v=.agg #[.slice A n c,x]→n≤c) :
 Calls prog 108 #[v] w fun e w'=>e=.returned (.string (zBe (Md.chk T (Md.xs E))))∧Below w.heap.size w w':=by
 obtain⟨i0,jc,iz,ij,il⟩:=Z2 zDT;have ie:=hy' h;obtain⟨A,c,XA,xc,rfl,h2,hX⟩:=id h;have cu:=cu _ _ _ _ rfl;obtain⟨xn,hxn⟩:∃k,E.length=k:=⟨_,rfl⟩;obtain⟨n,hn⟩:∃k,T.length=k:=⟨_,rfl⟩;obtain⟨res,cf⟩:∃k,Md.chk T (Md.xs E)=k:=⟨_,rfl⟩
 have cz:Hy (∀(d:Int) (W:World),Below w.heap.size w W → -2147483648≤d→d≤2147483647→Calls prog 20 #[.agg #[.slice A n c,.slice XA xn xc],.int .i64 d] W (zCM (Md.full T d) W)):=hy' fun d W hW a b=>by
  have:=zEJ _ T E d W et (h.below hW) hbd dy a b;rw[hn,hxn]at this;exact this
 have b1:Hy (∀(d:Int) (W:World),Below w.heap.size w W → -2147483648≤d→d≤2147483647→Calls prog 87 #[.agg #[.slice A n c,.slice XA xn xc],.int .i64 d] W fun e w'=>e=.returned (.bool (zAo T (Md.xs E) d))∧Below W.heap.size W w'):=hy' fun d W hW a b=>by
  have:=zHB _ T E d W et i1 (h.below hW) dy a b;rw[hn,hxn]at this;exact this
 rw[hn]at et cu;rw[hn,hxn,cf];obtain⟨wa,ea⟩:∃wa,w.alloc (.cells #[.slice A n c,.slice XA xn xc] 25)=wa:=⟨_,rfl⟩;have e3:Below w.heap.size w wa:=by rw[←ea];exact (Zc _ _).alloc (Za _) _
 have eg:Rw.At wa w.heap.size 25 [.slice A n c,.slice XA xn xc]:=by rw[←ea];exact Rw.At.new w 25 [.slice A n c,.slice XA xn xc]
 have iv:=hy' ea;have bn:=hy' e3;have jh:=hy' eg;have bt:=hy' (h2.below e3);have HN:=hy' hn;have cm:=hy' cf;have dz:=hy' hbd;have jl:=hy' dy;have ig:=hy' fy;have z0:=eg.cell 0 rfl;clear ea e3 eg hn hxn cf hbd dy fy h h2 hX;unfold zAX at *;go_enter func108,ntmps108;go_upto_region 1 with (fail)
 rw[iv.o];go_wp2_with fail;go_loopw [3,21] (fun v3 i wr=>∃(k:Nat) (last:Int),k≤n∧i=.int .i64 k∧v3=.int .i64 last∧(-2147483648≤last∧last≤2147483647)∧zAw (-1) T=zAw last (T.drop k)∧Below wa.heap.size wa wr) (fun _ i _=>n-(intOf i).toNat)
 case atStart=>exact⟨0,-1,ZF _,rfl,rfl,by omega,rfl,Zc _ _⟩
 obtain⟨k,last,hk,rfl,rfl,fw,ar,bc⟩:=hrel;have aa:=jh.o.below bc;have z0:=aa.cell 0 rfl;have z1:=aa.cell 1 rfl;have gy:=hy' ar;have bu:=hy' bc;have ez:=hy' aa;clear ar aa
 by_cases hlt:k<n
 · obtain⟨r,hr⟩:∃r,T[k]?=some r:=⟨_,Zb (by rw[HN.o];exact hlt)⟩;have aj:=Zj hr;have ar:=dz.o r aj;have ek:=ig.o r aj;have h7:=jl.o r aj;obtain⟨b,o,a,c6,hb,c0,c1,c2,ct⟩:=(bt.o.below bc).row hr;obtain⟨ml,ch⟩:∃k,r.2.2.length=k:=⟨_,rfl⟩;rw[ch]at c2 h7;have az:Below wr.heap.size wr (wr.alloc (.cells #[.int .i64 r.1,.int .i64 r.2.1,.slice a.1 ml a.2] 39)):=(Zc _ _).alloc (Za _) _;have af:=Rw.At.new wr 39 [.int .i64 r.1,.int .i64 r.2.1,.slice a.1 ml a.2];obtain⟨x0,x1,x2,_,_,_⟩:=af.three;have je:=hy' (ct.below az (Za _));have bp:=hy' (bc.trans (az.mono bc.size));have hd:=zDj hr;have cr:=gy.o;rw[hd,zAw]at cr;have dx:=hy' cr;have fk:=hy' ar;have bf:=hy' ch;have ir:(k:Int)<n:=by omega
   have h8:(0:Int)≤k:=by omega
   obtain⟨ih,jg⟩:=ar.1
   have dv:∀j,zBS last r=j→j≠0→res=j:=by
    intro j hj h0;rw[←cm.o];unfold Md.chk;rw[dx.o,hj,Zk h0,Zm h0]
   have ax:=hy' dv;have cn:=Ch.ris_any r.1 (wr.alloc (.cells #[.int .i64 r.1,.int .i64 r.2.1,.slice a.1 ml a.2] 39));obtain⟨ic,ew⟩:∃b,C.isC r.1=b:=⟨_,rfl⟩;rw[ew]at cn;have cv:=hy' ew;subst c6;clear hr aj ar ct az af hd cr bc ch dv ew
   have dn:∀(j:Nat) (W:World) (e:Ending) (w':World),res=j→e=.returned (.string (zBe j))→Below wa.heap.size wa W→W=w'→e=.returned (.string (zBe res))∧Below w.heap.size w w':=by
    rintro j W e w' rfl rfl hW rfl;exact⟨rfl,bn.o.trans (hW.mono bn.o.size)⟩
   have ah:=hy' dn;clear dn;cases ic
   · have ai:=ax.o 1 (zDS (by rw[cv.o,Jt,Xp,Xp,Xp,Xp])) (by decide);have aw:=hy' ai;clear ai;go_wp2_with (first|(go_at_call 75;refine cn.mono ?_;rintro e w' ⟨rfl,rfl⟩)|fail);go_ret;exact ah.o 1 _ _ _ aw.o rfl bp.o rfl
   rcases hb2:decide (r.1≤last) with _|_
   rotate_left
   · have ai:=ax.o 1 (zDS (by rw[cv.o,hb2];simp)) (by decide);have aw:=hy' ai;clear ai;go_wp2_with (first|(go_at_call 75;refine cn.mono ?_;rintro e w' ⟨rfl,rfl⟩)|fail);go_ret;exact ah.o 1 _ _ _ aw.o rfl bp.o rfl
   rcases hb3:decide (r.2.1<0) with _|_
   rotate_left
   · have ai:=ax.o 1 (zDS (by rw[cv.o,hb2,hb3];simp)) (by decide);have aw:=hy' ai;clear ai;go_wp2_with (first|(go_at_call 75;refine cn.mono ?_;rintro e w' ⟨rfl,rfl⟩)|fail);go_ret;exact ah.o 1 _ _ _ aw.o rfl bp.o rfl
   rcases b8:decide (254<r.2.1) with _|_
   rotate_left
   · have ai:=ax.o 1 (zDS (by rw[cv.o,hb2,hb3,b8];simp)) (by decide);have aw:=hy' ai;clear ai;go_wp2_with (first|(go_at_call 75;refine cn.mono ?_;rintro e w' ⟨rfl,rfl⟩)|fail);go_ret;exact ah.o 1 _ _ _ aw.o rfl bp.o rfl
   rcases hb5:decide (2<(ml:Int)) with _|_
   rotate_left
   · have h5:decide (2<r.2.2.length)=true:=by rw[bf.o];simp at hb5 ⊢;omega
     have ai:=ax.o 1 (zDS (by rw[cv.o,hb2,hb3,b8,h5];rfl)) (by decide);have aw:=hy' ai;clear ai h5;go_wp2_with (first|(go_at_call 75;refine cn.mono ?_;rintro e w' ⟨rfl,rfl⟩)|fail);go_ret;exact ah.o 1 _ _ _ aw.o rfl bp.o rfl
   have h5:decide (2<r.2.2.length)=false:=by rw[bf.o];simp at hb5 ⊢;omega
   have ft:(!C.isC r.1||decide (r.1≤last)||decide (r.2.1<0)||decide (254<r.2.1)||decide (2<r.2.2.length))=false:=by rw[cv.o,hb2,hb3,b8,h5];rfl
   have ee:=hy' ft;clear ft h5;obtain⟨wn,bo⟩:∃wn,(wr.alloc (.cells #[.int .i64 r.1,.int .i64 r.2.1,.slice a.1 ml a.2] 39)).alloc (.cells #[.int .i64 r.1] 3)=wn:=⟨_,rfl⟩
   have di:wn.ownsRow (wr.heap.size+1) 3 1 (.slice (some ⟨wr.heap.size+1,0,none⟩) 1 1) 1 [.int .i64 r.1]:=by
    have:=zPM (wr.alloc (.cells #[.int .i64 r.1,.int .i64 r.2.1,.slice a.1 ml a.2] 39)) 3 (.int .i64 r.1);rw[ZJ]at this;rw[←bo];exact this
   have ej:Below (wr.heap.size+1) (wr.alloc (.cells #[.int .i64 r.1,.int .i64 r.2.1,.slice a.1 ml a.2] 39)) wn:=by rw[←bo];exact (Zc _ _).alloc (by simp) _
   have ho:=je.o.belowN ej (ZW _) (Za _);have af:Rw.At wn wr.heap.size 39 [.int .i64 r.1,.int .i64 r.2.1,.slice a.1 ml a.2]:=by rw[←bo];exact (Rw.At.new wr 39 [.int .i64 r.1,.int .i64 r.2.1,.slice a.1 ml a.2]).alloc _
   have e6:wr.heap.size+1≤wn.heap.size:=af.lt;have eo:=hy' di;have gp:=hy' ho;have cg:=hy' af;have fj:=hy' bo;have ec:=hy' (bp.o.trans (ej.mono (Zh bu.o.size (ZW _))));have ji:Hy (∀u∈r.2.2.map (Value.int .i64),u.oneCell'=true):=hy' (zF8 .i64 _);have fe:Hy ((r.2.2.map (Value.int .i64)).length=ml*1):=hy' (by rw[Ze,bf.o,Xj]);clear di ej ho af bo;go_wp2_with (first|(go_at_call 75;refine cn.mono ?_;rintro e w' ⟨rfl,rfl⟩)|(at_builtin;(rw[fj.o]);refine zAe _ rfl _ _ _ rfl (wr.heap.size+1) 3 i0 _ 1 8 underlying23 jc iz ij il rfl (by omega) _ 1 _ rfl eo.o _ a.1 ml a.2 (r.2.2.map (Value.int .i64)) rfl fe.o gp.o ji.o (by simp only[maxLen];omega) (by omega) e6 ?_;intro v1 w4 bg b8 iy;obtain⟨A4,c4,rfl⟩:=zA3 bg)|fail);have dl:=cg.o.below' b8 (ZO _);obtain⟨y0,y1,y2,_,_,_⟩:=dl.three;have gm:=hy' (Sl.of_own bg);have dm:=hy' (ec.o.trans (b8.mono (Zh bu.o.size (ZW _))));have h9:=hy' (gp.o.belowN b8 (ZW _) (Za _));obtain⟨L,hL⟩:∃L,r.1::r.2.2=L:=⟨_,rfl⟩;have HL:=hy' hL;have gg:[.int .i64 r.1]++r.2.2.map (Value.int .i64)=L.map (Value.int .i64):=by rw[←hL];rfl
   rw[gg]at gm;have fp:Hy (L.length=1+ml):=hy' (by rw[←hL,ZB,bf.o];omega)
   have iw:Hy (∀x∈L,-2147483648≤x∧x≤2147483647):=hy' (by
    rw[←hL];intro x hx;rcases List.mem_cons.1 hx with rfl|hx
    · exact fk.o.1
    exact fk.o.2 x hx)
   clear dl bg b8 iy hL gg x0 x1 x2 c0 c1 c2 z0 z1;go_loop [60] (fun i=>∃j:Nat,j≤1+ml∧i=.int .i64 j∧∀x∈L.take j,zA2 x=0) (fun i=>1+ml-(intOf i).toNat)
   case atStart=>exact⟨0,ZF _,rfl,by simp⟩
   obtain⟨j,hj,rfl,bl⟩:=hrel;have ay:=hy' bl;clear bl
   by_cases hlt2:j<1+ml
   · obtain⟨x,hx⟩:∃x,L[j]?=some x:=⟨_,Zb (by rw[fp.o];exact hlt2)⟩;obtain⟨g,go,rfl,hg,jb,_⟩:=gm.o.ints hx;have hxb:=iw.o x (Zj hx);have hK:=zFL x w4 hxb.1 hxb.2;have e2:=zQW x;obtain⟨kx,ck⟩:∃q,zA2 x=q:=⟨_,rfl⟩;rw[ck]at hK e2;have iq:(j:Int)<((1+ml:Nat):Int):=by omega
     have hj0:(0:Int)≤j:=by omega
     have HX:=hy' hx;have dt:=hy' ck;have HK:=hy' hK;clear hx hxb ck hK;rcases hd:decide (0<kx) with _|_
     · have hz:kx=0:=by simp at hd;omega
       have HZ:=hy' hz;clear hz e2;go_wp2_with (first|(go_at_call 86;refine HK.o.mono ?_;rintro e w' ⟨rfl,rfl⟩)|fail);exact⟨⟨j+1,by omega,by go_num,zJg HX.o ay.o (by rw[dt.o,HZ.o])⟩,by simp[intOf];omega⟩
     have hz:kx≠0:=by simp at hd;omega
     have ai:=ax.o 2 (zLm ee.o (by rw[HL.o];exact HX.o) (by rw[dt.o];exact hz)) (by decide);have aw:=hy' ai;clear hz e2 ai;go_wp2_with (first|(go_at_call 86;refine HK.o.mono ?_;rintro e w' ⟨rfl,rfl⟩)|fail);go_ret;exact ah.o 2 _ _ _ aw.o rfl dm.o rfl
   have b7:∀x∈r.1::r.2.2,zA2 x=0:=by
    rw[HL.o];intro x hx;exact ay.o x (by rw[Zi (by rw[fp.o];omega)];exact hx)
   have cc:=hy' b7;have hge:¬(j:Int)<((1+ml:Nat):Int):=by omega
   clear b7 ay hlt2;go_wp2_with fail;clear hge;go_loop [71] (fun i=>∃j:Nat,j≤ml∧i=.int .i64 j∧∀x∈r.2.2.take j,C.isC x=true) (fun i=>ml-(intOf i).toNat)
   case atStart=>exact⟨0,ZF _,rfl,by simp⟩
   obtain⟨j,hj,rfl,bl⟩:=hrel;have ay:=hy' bl;clear bl
   by_cases hlt2:j<ml
   · obtain⟨x,hx⟩:∃x,r.2.2[j]?=some x:=⟨_,Zb (by rw[bf.o];exact hlt2)⟩;obtain⟨g,go,gb,hg,jb,_⟩:=h9.o.ints hx;have hK:=Ch.ris_any x w4;obtain⟨kx,ck⟩:∃q,C.isC x=q:=⟨_,rfl⟩;rw[ck]at hK;have iq:(j:Int)<(ml:Int):=by omega
     have hj0:(0:Int)≤j:=by omega
     have HX:=hy' hx;have dt:=hy' ck;have HK:=hy' hK;obtain⟨a1,a2⟩:=a;simp only at gb;subst gb;clear hx ck hK;cases kx
     · have ai:=ax.o 3 (zLn ee.o cc.o HX.o dt.o) (by decide);have aw:=hy' ai;clear ai;go_wp2_with (first|(go_at_call 75;refine HK.o.mono ?_;rintro e w' ⟨rfl,rfl⟩)|fail);go_ret;exact ah.o 3 _ _ _ aw.o rfl dm.o rfl
     go_wp2_with (first|(go_at_call 75;refine HK.o.mono ?_;rintro e w' ⟨rfl,rfl⟩)|fail);exact⟨⟨j+1,by omega,by go_num,zJg HX.o ay.o dt.o⟩,by simp[intOf];omega⟩
   have gl:zBS last r=0:=zO9 ee.o cc.o (fun x hx=>ay.o x (by rw[Zi (by rw[bf.o];omega)];exact hx));have b4:zAw (-1) T=zAw r.1 (T.drop (k+1)):=by rw[dx.o,gl];rfl
   have dk:=hy' b4;have hge:¬(j:Int)<(ml:Int):=by omega
   clear gl b4 hlt2 ay;go_wp2_with fail;exact⟨⟨k+1,r.1,by omega,by go_num,rfl,⟨ih,jg⟩,dk.o,dm.o⟩,by simp[intOf];omega⟩
 obtain rfl:n=k:=by omega
 have hz:zAw (-1) T=0:=by
  rw[gy.o,XB (by rw[HN.o];exact Za _)];rfl
 obtain⟨b5,bx⟩:=zC7 T (-1) hz;have HZ:=hy' hz;have b6:=hy' b5;have b2:=hy' bx
 have ah:Hy (∀(j:Nat) (W:World) (e:Ending) (w':World),res=j→e=.returned (.string (zBe j))→Below wa.heap.size wa W→W=w'→e=.returned (.string (zBe res))∧Below w.heap.size w w'):=hy' (by
  rintro j W e w' rfl rfl hW rfl;exact⟨rfl,bn.o.trans (hW.mono bn.o.size)⟩)
 obtain⟨wb,rfl⟩:∃wb:World,wb=wr:=⟨_,rfl⟩;clear hz b5 bx hlt;go_wp2_with fail;go_loopw [83] (fun i wr=>∃k:Nat,k≤n∧i=.int .i64 k∧(∀r∈T.take k,(Md.full T r.1).isSome=true)∧Below wb.heap.size wb wr) (fun i _=>n-(intOf i).toNat)
 case atStart=>exact⟨0,ZF _,rfl,fun r hr=>by simp at hr,Zc _ _⟩
 obtain⟨k,hk,rfl,bh,a7⟩:=hrel;have aa:=ez.o.below a7;have y0:=aa.cell 0 rfl;have y1:=aa.cell 1 rfl;have cp:=hy' bh;have b3:=bu.o.trans (a7.mono bu.o.size);have bb:=hy' b3;have c7:=hy' aa;have b9:=hy' a7;have ia:=aa.lt;clear bh aa a7 z0 z1
 by_cases hlt:k<n
 · obtain⟨r,hr⟩:∃r,T[k]?=some r:=⟨_,Zb (by rw[HN.o];exact hlt)⟩;have aj:=Zj hr;have ar:=dz.o r aj;obtain⟨b,o,a,c6,hb,c0,c1,c2,ct⟩:=(bt.o.below b3).row hr;have az:Below wr.heap.size wr (wr.alloc (.cells #[.int .i64 r.1,.int .i64 r.2.1,.slice a.1 r.2.2.length a.2] 39)):=(Zc _ _).alloc (Za _) _;have en:=bb.o.trans (az.mono bb.o.size);have hE:=cz.o r.1 _ (bn.o.trans (en.mono bn.o.size)) ar.1.1 ar.1.2;have du:=hy' en;have ec:=hy' (b9.o.trans (az.mono b9.o.size));have af:=Rw.At.new wr 39 [.int .i64 r.1,.int .i64 r.2.1,.slice a.1 r.2.2.length a.2];obtain⟨x0,x1,x2,_,_,_⟩:=af.three;have ir:(k:Int)<n:=by omega
   have h8:(0:Int)≤k:=by omega
   obtain⟨fo,fh⟩:∃fo,Md.full T r.1=fo:=⟨_,rfl⟩;rw[fh]at hE;have hl:=hy' fh;have HR:=hy' hr;have dw:=hy' aj;subst c6;clear hr aj ar ct az en af fh;go_wp2_with fail;refine hE.mono ?_;rintro e w2 ⟨A1,jt,rfl,_,hg⟩;have dm:=hy' (ec.o.trans (hg.mono ec.o.size));have ik:=hy' (du.out.trans (hg.mono du.out.size));clear hg hE x0 x1 x2 y0 y1 c0 c1 c2;rcases fo with _|fl
   · have gq:res=4:=by
      rw[←cm.o];unfold Md.chk
      have:zBi T=true:=by
       unfold zBi;rw[YJ];exact⟨r,dw.o,by rw[hl.o];rfl⟩
      rw[Zk (by rw[HZ.o];simp),Zm this]
     have i7:=hy' gq;clear gq;go_wp2_with fail;go_ret;exact ah.o 4 _ _ _ i7.o rfl ik.o rfl
   have bh:∀r∈T.take (k+1),(Md.full T r.1).isSome=true:=by
    rw[ZA,HR.o];intro q hq;rcases List.mem_append.1 hq with hq|hq
    · exact cp.o q hq
    simp at hq;subst hq;rw[hl.o];rfl
   have c8:=hy' bh;clear bh;go_wp2_with fail;exact⟨⟨k+1,by omega,by go_num,c8.o,dm.o⟩,by simp[intOf];omega⟩
 obtain rfl:n=k:=by omega
 have gj:zBi T=false:=by
  unfold zBi;rw[XJ];intro r hr;have:=cp.o r (by rw[Zi (by rw[HN.o];exact Za _)];exact hr);cases hf:Md.full T r.1 with
  | none=>rw[hf]at this;cases this
  | some l=>simp
 have gf:res=if zB4 T (Md.xs E) [] T=true then 5 else 0:=by
  rw[←cm.o];unfold Md.chk;rw[Zk (by rw[HZ.o];simp),Zk (by rw[gj];simp),←zDe];rfl
 have h4:=hy' gf;obtain⟨wz,rfl⟩:∃wz:World,wz=wr:=⟨_,rfl⟩;clear gj gf hlt cp;go_wp2_with fail;go_loopw [100] (fun i wr=>∃k:Nat,k≤n∧i=.int .i64 k∧zB4 T (Md.xs E) [] T=zB4 T (Md.xs E) (T.take k) (T.drop k)∧Below wz.heap.size wz wr) (fun i _=>n-(intOf i).toNat)
 case atStart=>exact⟨0,ZF _,rfl,rfl,Zc _ _⟩
 obtain⟨k,hk,rfl,bw,a8⟩:=hrel;have aa:=c7.o.below a8;have y0:=aa.cell 0 rfl;have y1:=aa.cell 1 rfl;have gv:=hy' bw;have au:=bb.o.trans (a8.mono bb.o.size);have cb:=hy' a8;have cy:=hy' au;have ib:=aa.lt;have df:=hy' aa;clear bw aa a8
 by_cases hlt:k<n
 rotate_left
 · obtain rfl:n=k:=by omega
   have fq:res=0:=by
    rw[h4.o,gv.o,XB (by rw[HN.o];exact Za _)];rfl
   have im:=hy' fq;clear fq hlt;go_wp2_with fail;go_ret;exact ah.o 0 _ _ _ im.o rfl cy.o rfl
 obtain⟨r,hr⟩:∃r,T[k]?=some r:=⟨_,Zb (by rw[HN.o];exact hlt)⟩;have aj:=Zj hr;have ar:=dz.o r aj;obtain⟨b,o,a,c6,hb,c0,c1,c2,ct⟩:=(bt.o.below au).row hr;obtain⟨wn,bo⟩:∃wn,wr.alloc (.cells #[.int .i64 r.1,.int .i64 r.2.1,.slice a.1 r.2.2.length a.2] 39)=wn:=⟨_,rfl⟩;have az:Below wr.heap.size wr wn:=by rw[←bo];exact (Zc _ _).alloc (Za _) _
 have af:Rw.At wn wr.heap.size 39 [.int .i64 r.1,.int .i64 r.2.1,.slice a.1 r.2.2.length a.2]:=by rw[←bo];exact Rw.At.new wr 39 [.int .i64 r.1,.int .i64 r.2.1,.slice a.1 r.2.2.length a.2]
 have jd:=af.lt;have fj:=hy' bo;have bp:=hy' az;have cg:=hy' af;have ap:=hy' (au.trans (az.mono au.size));have bz:=hy' (df.o.below az);have eh:=hy' (ct.below az az.size);have bw:=gv.o;rw[zDj hr,zB4]at bw;have dc:=hy' bw;have fu:T.take (k+1)=T.take k++[r]:=by rw[ZA,hr];rfl
 have ix:=hy' fu;have ek:=zCU (X:=Md.xs E) b2.o aj (b6.o r aj).1
 have h6:Hy (∀W,Below wn.heap.size wn W→Calls prog 87 #[.agg #[.slice A n c,.slice XA xn xc],.int .i64 r.1] W fun e w'=>e=.returned (.bool (zAc T (Md.xs E) r))∧Below W.heap.size W w'):=hy' fun W hW=>by
  rw[←ek];exact b1.o r.1 W (bn.o.trans ((ap.o.trans (hW.mono ap.o.size)).mono bn.o.size)) ar.1.1 ar.1.2
 have x0:=af.cell 0 rfl;have i6:=bz.o.cell 0 rfl;have kI:(k:Int)<n:=by omega
 have k0:(0:Int)≤k:=by omega
 have kc:(k:Int)≤c:=by omega
 have js:k≤c:=by omega
 subst c6;clear hr aj ar ct bo az af bw fu ek au;go_wp2_with fail;go_upto_region 31 with (fail)
 rw[fj.o];go_wp2_with fail;clear c0 c1 c2 x0 y0 y1 i6;go_loopw [110] (fun i wq=>∃m:Nat,m≤k∧i=.int .i64 m∧Md.ahead T (Md.xs E) (T.take m) r=false∧Below wn.heap.size wn wq) (fun i _=>k-(intOf i).toNat)
 case atStart=>exact⟨0,ZF _,rfl,rfl,Zc _ _⟩
 obtain⟨m,hm,rfl,fz,ae⟩:=hrel;have ao:=bz.o.below ae;have a6:=cg.o.below' ae jd;have bj:=eh.o.below ae ae.size;have bk:=ap.o.trans (ae.mono ap.o.size);have gw:=hy' fz;have y0:=ao.cell 0 rfl;have gh:=ao.lt;have gi:=a6.lt;clear fz
 by_cases hlt2:m<k
 rotate_left
 · obtain rfl:k=m:=by omega
   have bw:zB4 T (Md.xs E) [] T=zB4 T (Md.xs E) (T.take (k+1)) (T.drop (k+1)):=by rw[dc.o,ix.o,gw.o,Y5]
   have e5:=hy' bw;have bm:=hy' (cb.o.trans ((bp.o.trans (ae.mono bp.o.size)).mono cb.o.size));clear bw ae bk ao a6 bj y0;go_wp2_with fail;exact⟨⟨k+1,by omega,by go_num,e5.o,bm.o⟩,by simp[intOf];omega⟩
 obtain⟨q,hq⟩:∃q,T[m]?=some q:=⟨_,Zb (by rw[HN.o];omega)⟩;have gx:(T.take k)[m]?=some q:=by rw[Yp,Zm hlt2];exact hq
 have br:=Zj hq;have cw:=dz.o q br;obtain⟨bq,oq,aq,h3,jm,c0,c1,c2,cx⟩:=(bt.o.below bk).row hq;simp only[Zg,YZ,YQ]at h3;obtain⟨rfl,rfl⟩:=h3;obtain⟨wp,eb⟩:∃wp,wr.alloc (.cells #[.int .i64 q.1,.int .i64 q.2.1,.slice aq.1 q.2.2.length aq.2] 39)=wp:=⟨_,rfl⟩;have cd:Below wr.heap.size wr wp:=by rw[←eb];exact (Zc _ _).alloc (Za _) _
 have bi:Rw.At wp wr.heap.size 39 [.int .i64 q.1,.int .i64 q.2.1,.slice aq.1 q.2.2.length aq.2]:=by rw[←eb];exact Rw.At.new wr 39 [.int .i64 q.1,.int .i64 q.2.1,.slice aq.1 q.2.2.length aq.2]
 have iu:=hy' eb;have ba:=hy' (ae.trans (cd.mono ae.size));have av:=ao.below cd;have ak:=a6.below cd;have ja:=hy' (bj.below cd cd.size);have jf:=hy' (cx.below cd cd.size);have fm:=zCU (X:=Md.xs E) b2.o br (b6.o q br).1;have C1:=hy' (Ext.call (w:=wp) fun W hW=>h6.o W (ba.o.trans (hW.mono ba.o.size)))
 have fx:∀W,Below wp.heap.size wp W→Calls prog 87 #[.agg #[.slice (some ⟨b,o,none⟩) n c,.slice XA xn xc],.int .i64 q.1] W fun e w'=>e=.returned (.bool (zAc T (Md.xs E) q))∧Below W.heap.size W w':=fun W hW=>by
  rw[←fm];have h1:=ba.o.trans (hW.mono ba.o.size);exact b1.o q.1 W (bn.o.trans ((ap.o.trans (h1.mono ap.o.size)).mono bn.o.size)) cw.1.1 cw.1.2
 have C2:=hy' (Ext.call (w:=wp) fx);have e0:=Ext.cells (av.cell 0 rfl) av.lt;have e1:=Ext.cells (av.cell 1 rfl) av.lt;have r0:=Ext.cells (ak.cell 0 rfl) ak.lt;have r2:=Ext.cells (ak.cell 2 rfl) ak.lt;have q0:=Ext.cells (bi.cell 0 rfl) bi.lt;have q2:=Ext.cells (bi.cell 2 rfl) bi.lt
 have cq:(zAc T (Md.xs E) r&&(zAc T (Md.xs E) q&&decide (q.2.2=r.2.2)))=false→Md.ahead T (Md.xs E) (T.take (m+1)) r=false:=by
  intro h0;have h1:=gw.o;unfold Md.ahead at h1 ⊢;rw[ZA,hq,Qz,h1,Y5];simp only[QI,Kn,List.any_nil,Bool.or_false];exact h0
 have cj:(zAc T (Md.xs E) r&&(zAc T (Md.xs E) q&&decide (q.2.2=r.2.2)))=true→res=5:=by
  intro h0;rw[h4.o,Zm];rw[dc.o]
  have:Md.ahead T (Md.xs E) (T.take k) r=true:=by
   unfold Md.ahead;rw[YJ];exact⟨q,Zj gx,h0⟩
  rw[this,Xp]
 have ep:∀r:Rw.Row,zAc T (Md.xs E) r=true→∃x y,r.2.2=[x,y]:=by
  intro r hc;unfold zAc at hc;simp only[Zw,Zn]at hc;have h2:=hc.2.1
  match hh:r.2.2,h2 with
  | [x,y],_=>exact⟨x,y,rfl⟩
 have dp:=hy' (ep r);have dh:=hy' (ep q);obtain⟨pr,fc⟩:∃p,zAc T (Md.xs E) r=p:=⟨_,rfl⟩;obtain⟨pq,ei⟩:∃p,zAc T (Md.xs E) q=p:=⟨_,rfl⟩;rw[fc,ei]at cq cj;rw[fc]at C1 dp;rw[ei]at C2 dh;have bs:=hy' cq;have e9:=hy' cj;have mI:(m:Int)<k:=by omega
 have m0:(0:Int)≤m:=by omega
 clear hq gx br cw cx eb cd bi ao a6 bj av ak fm fx cq cj ep fc ei ae bk;go_upto_region 34 with (fail)
 rw[iu.o];clear c0 c1 c2 y0;cases pr
 · have ag:=hy' (bs.o (Y8 _));refine zA7 (by kernel_rfl) (by kernel_rfl) ?_
   repeat (go_big_quiet_step ((first|(go_at_call 87;first|with_reducible exact C1.o _|with_reducible exact C2.o _))))
   refine wpQuiet_nil ?_;intro xw;have bm:=hy' (ba.o.trans (xw.below.mono ba.o.size));go_wp2_with fail;exact⟨⟨m+1,by omega,by go_num,ag.o,bm.o⟩,by simp[intOf];omega⟩
 cases pq
 · have ag:=hy' (bs.o rfl);refine zA7 (by kernel_rfl) (by kernel_rfl) ?_
   repeat (go_big_quiet_step ((first|(go_at_call 87;first|with_reducible exact C1.o _|with_reducible exact C2.o _))))
   refine wpQuiet_nil ?_;intro xw;have bm:=hy' (ba.o.trans (xw.below.mono ba.o.size));go_wp2_with fail;exact⟨⟨m+1,by omega,by go_num,ag.o,bm.o⟩,by simp[intOf];omega⟩
 obtain⟨x,y,aj⟩:=dp.o rfl;obtain⟨x',y',br⟩:=dh.o rfl;obtain⟨rl,ef⟩:∃k,r.2.2.length=k:=⟨_,rfl⟩;obtain⟨ql,eu⟩:∃k,q.2.2.length=k:=⟨_,rfl⟩;have e8:rl=2:=by rw[←ef,aj];rfl
 have dr:ql=2:=by rw[←eu,br];rfl
 rw[ef]at r2;rw[eu]at q2;have e4:=ja.o;have fg:=jf.o;rw[aj]at e4;rw[br]at fg;obtain⟨rb,ro,gz,ar,ey⟩:=e4 (by simp);obtain⟨qb,qo,gu,cw,e7⟩:=fg (by simp);rw[gz]at r2;rw[gu]at q2;have jz:=Ext.cells (w:=wp) (b:=rb) (o:=ro) (v:=.int .i64 x) (by simpa using ey 0 (by simp)) ar;have jo:=Ext.cells (w:=wp) (b:=rb) (o:=ro+1) (v:=.int .i64 y) (by simpa using ey 1 (by simp)) ar;have j0:=Ext.cells (w:=wp) (b:=qb) (o:=qo) (v:=.int .i64 x') (by simpa using e7 0 (by simp)) cw;have jy:=Ext.cells (w:=wp) (b:=qb) (o:=qo+1) (v:=.int .i64 y') (by simpa using e7 1 (by simp)) cw;have jx:((ql:Int) == 2)=true:=by rw[dr];rfl
 have ju:0<rl:=by omega
 have jv:(0:Int)<rl:=by omega
 have jn:1<rl:=by omega
 have jq:(1:Int)<rl:=by omega
 have jr:0<ql:=by omega
 have j2:(0:Int)<ql:=by omega
 have j1:1<ql:=by omega
 have jw:(1:Int)<ql:=by omega
 have ed:=hy' br;have dw:=hy' aj;clear ef eu e8 dr e4 fg ey e7 gz gu aj br;rcases he1:(x' == x) with _|_
 · have ag:=hy' (bs.o (by rw[ed.o,dw.o];simp at he1 ⊢;intro e;exact absurd e he1));refine zA7 (by kernel_rfl) (by kernel_rfl) ?_
   repeat (go_big_quiet_step ((first|(go_at_call 87;first|with_reducible exact C1.o _|with_reducible exact C2.o _))))
   refine wpQuiet_nil ?_;intro xw;have bm:=hy' (ba.o.trans (xw.below.mono ba.o.size));go_wp2_with fail;exact⟨⟨m+1,by omega,by go_num,ag.o,bm.o⟩,by simp[intOf];omega⟩
 rcases he2:(y' == y) with _|_
 · have ag:=hy' (bs.o (by rw[ed.o,dw.o];simp at he2 ⊢;intro _ e;exact absurd e he2));refine zA7 (by kernel_rfl) (by kernel_rfl) ?_
   repeat (go_big_quiet_step ((first|(go_at_call 87;first|with_reducible exact C1.o _|with_reducible exact C2.o _))))
   refine wpQuiet_nil ?_;intro xw;have bm:=hy' (ba.o.trans (xw.below.mono ba.o.size));go_wp2_with fail;exact⟨⟨m+1,by omega,by go_num,ag.o,bm.o⟩,by simp[intOf];omega⟩
 have aw:=hy' (e9.o (by rw[ed.o,dw.o];simp at he1 he2 ⊢;exact⟨he1,he2⟩));refine zA7 (by kernel_rfl) (by kernel_rfl) ?_
 repeat (go_big_quiet_step ((first|(go_at_call 87;first|with_reducible exact C1.o _|with_reducible exact C2.o _))))
 refine wpQuiet_nil ?_;intro xw;have bm:=hy' (ba.o.trans (xw.below.mono ba.o.size));go_wp2_with fail;go_ret;exact ah.o 5 _ _ _ aw.o rfl (ap.o.trans (bm.o.mono ap.o.size)) rfl
end Go.Proofs.YtjakbblocbicjaaGreatDoor
