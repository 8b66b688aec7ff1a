/- The document's order of marks (layer 16), by walking its text: exchanging neighbours. -/
import Derived.Test.YtjakbblocbicjaaGreatDoorMdRef4
set_option maxRecDepth 100000
set_option maxHeartbeats 8000000
set_option linter.unusedVariables false
set_option linter.unusedSimpArgs false
namespace Go.Proofs.YtjakbblocbicjaaGreatDoor
open Go.Proofs.Tryz
section
open Go.RowKit
def Nf.At (w:World) (g sz:Nat) (Z:List Int):Prop:=∃R:List Value,Z.length+R.length=sz∧Rw.At w g 3 (Z.map (Value.int .i64)++R)
theorem Nf.At.cell {w:World} {g sz:Nat} {Z:List Int} (h:Nf.At w g sz Z) {i:Nat} {x:Int} (hx:Z[i]?=some x):w.cell? ⟨g,i,none⟩=some (.int .i64 x):=by
 obtain⟨R,hs,h⟩:=h;refine Rw.At.cell h i ?_;rw[ZS (by rw[Ze];exact (List.getElem?_eq_some_iff.1 hx).1),Zo,hx];rfl
theorem Nf.At.fro {w:World} {g sz:Nat} {Z:List Int} (h:Nf.At w g sz Z) (i:Nat):w.frozen? ⟨g,i,none⟩=false:=by
 obtain⟨R,hs,h⟩:=h;exact Rw.At.frozen h i
theorem Nf.At.lt {w:World} {g sz:Nat} {Z:List Int} (h:Nf.At w g sz Z):g<w.heap.size:=by
 obtain⟨R,hs,h⟩:=h;exact Rw.At.lt h
theorem Nf.At.set {w:World} {g sz:Nat} {Z:List Int} (h:Nf.At w g sz Z) (i:Nat) (hi:i<Z.length) (x:Int):Nf.At (w.setCell ⟨g,i,none⟩ (.int .i64 x)) g sz (Z.set i x):=by
 obtain⟨R,hs,h⟩:=h;refine⟨R,by rw[Y0];exact hs,?_⟩;rw[QF,←Js _ _ (by rw[Ze];exact hi)];exact Rw.At.set h i _
theorem Nf.At.swap {w:World} {g sz:Nat} {P Q:List Int} {x y:Int} (h:Nf.At w g sz (P++x::y::Q)):Nf.At ((w.setCell ⟨g,P.length,none⟩ (.int .i64 y)).setCell ⟨g,P.length+1,none⟩ (.int .i64 x)) g sz (P++y::x::Q):=by
 have:=(h.set P.length (by simp) y).set (P.length+1) (by simp) x;have e:=zKA P [] Q x y;simp only[ZK,ZY,YI]at e;rw[e]at this;exact this
theorem Nf.At.below {w w':World} {g sz:Nat} {Z:List Int} (h:Nf.At w g sz Z) (hb:Below w.heap.size w w'):Nf.At w' g sz Z:=by
 obtain⟨R,hs,h⟩:=h;exact⟨R,hs,Rw.At.below h hb⟩
theorem Nf.At.of_own {w:World} {base g n cap:Nat} {l:List Int} (hl:l.length=n) (h:w.ownsRow base 3 1 (.slice (some ⟨g,0,none⟩) n cap) n (l.map (Value.int .i64))):Nf.At w g cap l∧base≤g∧n≤cap∧cap≤maxLen:=by
 rcases h.2 with ⟨hv,_⟩|⟨g',ae,aa,hv,hg,hb,h1,h2,h3,h4⟩
 · cases hv
 simp only[ZZ,Zg,YZ,YQ,Qx]at hv;obtain⟨rfl,rfl⟩:=hv;refine⟨⟨aa.toList.drop n,?_,?_⟩,hg,h1,h2⟩
 · have e:aa.toList.length=aa.size:=XV;rw[ZN,e,h3,hl];omega
 unfold Rw.At;rw[Xj]at h4;rw[←h4,ZI];simpa using hb
theorem Nf.At.own {w:World} {base g n cap:Nat} {Z:List Int} (h:Nf.At w g cap Z) (hl:Z.length=n) (hb:base≤g) (hc:n≤cap) (hm:cap≤maxLen):w.ownsRow base 3 1 (.slice (some ⟨g,0,none⟩) n cap) n (Z.map (Value.int .i64)):=by
 obtain⟨R,hs,ha⟩:=h;refine⟨by rw[Ze,hl,Xj],.inr ⟨g,cap,_,rfl,hb,ha,hc,hm,?_,?_⟩⟩
 · simp;omega
 rw[Xj];simp[hl]
def zBn (l:List Int) (w:World) (e:Ending) (w':World):Prop :=
 ∃A c,e=.returned (.slice A l.length c)∧w'.ownsRow w.heap.size 3 1 (.slice A l.length c) l.length (l.map (Value.int .i64))∧Below w.heap.size w w'
theorem Nf.go_len (f:Int→Int):∀(R:List Int) (x:Int),(zBO f x R).length=R.length+1
 | [],x=>rfl
 | y::R,x=>by
   unfold zBO;split <;> simp[Nf.go_len f R]
theorem zNw (f:Int→Int):∀(n:Nat) (l:List Int),(zBq f n l).length=l.length:=fun n l=>(zBW f n l).length
theorem zPo (v:Value) (T:List Rw.Row) (E:List Int) (A:Option Addr) (n c:Nat) (l:List Int) (w:World) (b7:T.length≤1000000) (h:Md.Doc w v T E) (hl:l.length=n) (hn:n≤100000) (hA:Sl w w.heap.size A (l.map (Value.int .i64))) :
 Calls prog 49 #[v,.slice A n c] w (zBn (Or.of (Md.cls T) l) w):=by
 obtain⟨i0,dk,cw,dl,dt⟩:=Z2 zDT;have hd:=h;obtain⟨AT,cT,XA,xc,rfl,_⟩:=hd;obtain⟨tn,cg⟩:∃k,T.length=k:=⟨_,rfl⟩;obtain⟨xn,hxn⟩:∃k,E.length=k:=⟨_,rfl⟩;rw[cg,hxn]at h ⊢;have av:∀d W,Below w.heap.size w W→Calls prog 21 #[zAX AT tn cT XA xn xc,.int .i64 d] W fun e w'=>e=.returned (.int .i64 (Md.cls T d))∧Below W.heap.size W w':=fun d W hW=>zFW _ T E d W b7 (h.below hW)
 obtain⟨f,hf⟩:∃f,Md.cls T=f:=⟨_,rfl⟩;rw[hf]at av ⊢;unfold zAX at *;obtain⟨wa,bb⟩:∃wa,(w.alloc (.cells #[.slice AT tn cT,.slice XA xn xc] 25)).alloc (.cells #[] 3)=wa:=⟨_,rfl⟩;have bp:Below w.heap.size w wa:=by rw[←bb];exact ((Zc _ _).alloc (Za _) _).alloc (by simp) _
 have bm:Rw.At wa w.heap.size 25 [.slice AT tn cT,.slice XA xn xc]:=by
  rw[←bb];exact (Rw.At.new w 25 [.slice AT tn cT,.slice XA xn xc]).alloc _
 have ba:wa.ownsRow (w.heap.size+1) 3 1 (.slice (some ⟨w.heap.size+1,0,none⟩) 0 0) 0 []:=by
  have:=zDk (w.alloc (.cells #[.slice AT tn cT,.slice XA xn xc] 25)) 3 (by decide);rw[ZJ]at this;rw[←bb];exact this
 have c8:w.heap.size+1≤wa.heap.size:=bm.lt;have cp:=hy' bb;have cr:=hy' bp;have dv:=hy' bm;have bu:=hy' ba;have HL:=hy' hl;have cu:=hy' (hA.below bp (Za _));have bf:=hy' av;have cm:(l.map (Value.int .i64)).length=n*1:=by rw[Ze,hl];omega
 have b6:∀u∈l.map (Value.int .i64),u.oneCell'=true:=zF8 .i64 _;have dw:=hy' b6;have c7:=hy' cm;clear bb bp bm ba hl hA av h cg hxn b7 hf cm b6;go_enter func49,ntmps49;go_wp2_with (first|(at_builtin;(rw[cp.o]);refine zAe _ rfl _ _ _ rfl (w.heap.size+1) 3 i0 _ 1 8 underlying23 dk cw dl dt rfl (by omega) _ 0 _ rfl bu.o _ A n c (l.map (Value.int .i64)) rfl c7.o cu.o dw.o (by simp only[maxLen];omega) (by omega) c8 ?_;intro v1 w1 aa bz ah;have ak:=hy' aa;have bq:=hy' (cr.o.trans (bz.mono (ZW _)));have bs:=hy' (dv.o.below' bz (ZO _));clear aa bz ah)|fail);rw[ZK,Z1]at ak;have aa:=ak.o;rcases aa.2 with ⟨hv,h0⟩|⟨g,cap,ec,hv,hg,c6,k1,k2,k3,k4⟩
 · subst hv;obtain rfl:n=0:=h0;have du:l=[]:=ZG HL.o;subst du;clear aa;go_loopw [6,7,8,9] (fun vi _ _ _ wr=>vi=.int .i64 0∧wr=w1) (fun _ _ _ _ _=>0)
   case round =>
    obtain⟨rfl,dc⟩:=hrel;subst dc;go_wp2_with fail;go_ret;exact⟨none,0,rfl,ZE _ _ _ _,bq.o⟩
   exact⟨rfl,rfl⟩
 subst hv;obtain⟨ch,cx,cf,cn⟩:=Nf.At.of_own HL.o aa;have cc:∀W,w1.grownBy W (some g)→Below w.heap.size w W:=fun W hW=>bq.o.grown hW bq.o.size (by intro k hk;simp only[Zg]at hk;omega)
 have a1:∀W,w1.grownBy W (some g)→W.cell? ⟨w.heap.size,0,none⟩=some (.slice AT tn cT)∧W.cell? ⟨w.heap.size,1,none⟩=some (.slice XA xn xc)∧w.heap.size<W.heap.size:=fun W hW=>by
  have:=bs.o.grown hW (by simp only[QB,Zg];omega);exact⟨this.cell 0 rfl,this.cell 1 rfl,this.lt⟩
 have bk:=hy' cc;have bc:=hy' a1;have b5:=hy' ch;have bj:Hy (w.heap.size≤g∧n≤cap∧cap≤maxLen):=hy' ⟨by omega,cf,cn⟩;have df:=hy' (zNw f);clear aa c6 k1 k2 k3 k4 cc a1 ch cx cf cn hg;go_loopw [6,7,8,9] (fun vi _ _ _ wr=>∃(t:Nat) (Z:List Int),t≤n∧vi=.int .i64 t∧Z.length=n∧zBq f (n-t) Z=Or.of f l∧Nf.At wr g cap Z∧w1.grownBy wr (some g)) (fun vi _ _ _ _=>n-(intOf vi).toNat)
 case atStart=>exact⟨0,l,ZF _,rfl,HL.o,by rw[J0,←HL.o];rfl,b5.o,zAP _ _⟩
 obtain⟨t,Z,ht,rfl,ay,hit,aj,bg⟩:=hrel
 by_cases hlt:t<n
 rotate_left
 · obtain rfl:t=n:=by omega
   have tI:¬(t:Int)<t:=by omega
   rw[Ym]at hit;have hZ:Z=Or.of f l:=hit;subst hZ;have aq:=aj.own (n:=t) (base:=w.heap.size) ay bj.o.1 bj.o.2.1 bj.o.2.2;have HO:=hy' aq;have dn:=hy' (bk.o wr bg);have cq:=hy' ay;clear hit aj aq bg ay;go_wp2_with fail;go_ret;unfold zBn;rw[cq.o];exact⟨_,_,rfl,HO.o,dn.o⟩
 have tI:(t:Int)<n:=by omega
 obtain⟨x0,R0,rfl⟩:∃x R,Z=x::R:=by
  cases Z with
  | nil=>simp at ay;omega
  | cons x R=>exact⟨x,R,rfl⟩
 have dp:=hy' hit;have dm:=hy' ay;have bn:=hy' aj;have ct:=hy' bg;clear hit ay aj bg;go_wp2_with fail;obtain⟨wo,rfl⟩:∃wo:World,wo=wr:=⟨_,rfl⟩;go_loopw [7,8,9] (fun vi _ _ wr=>∃(i:Nat) (P:List Int) (x:Int) (R:List Int),1≤i∧i≤n∧vi=.int .i64 i∧P.length+1=i∧P.length+1+R.length=n∧P++zBO f x R=zBV f (x0::R0)∧Nf.At wr g cap (P++x::R)∧w1.grownBy wr (some g)) (fun vi _ _ _=>n-(intOf vi).toNat)
 case atStart=>exact⟨1,[],x0,R0,Za _,by omega,rfl,rfl,by have:=dm.o;simp at this ⊢;omega,rfl,bn.o,ct.o⟩
 obtain⟨i,P,x,R,ea,dx,rfl,a8,bh,af,ae,aw⟩:=hrel
 by_cases hie:i<n
 rotate_left
 · obtain rfl:i=n:=by omega
   have iI:¬(i:Int)<i:=by omega
   obtain rfl:R=[]:=ZG (by omega);have ck:P++[x]=zBV f (x0::R0):=af;have b8:(P++[x]).length=i:=by simp;omega
   have a6:zBq f (i-(t+1)) (P++[x])=Or.of f l:=by
    have h:=dp.o;rw[show i-t=i-(t+1)+1 by omega]at h;rw[ck];exact h
   have H1:=hy' b8;have H2:=hy' a6;have H3:=hy' ae;have H4:=hy' aw;clear ck b8 a6 ae aw af a8 bh;go_wp2_with fail;exact⟨⟨t+1,P++[x],by omega,by first|rfl|go_num,H1.o,H2.o,H3.o,H4.o⟩,by simp[intOf];omega⟩
 have iI:(i:Int)<n:=by omega
 obtain⟨y,R,rfl⟩:∃y R',R=y::R':=by
  cases R with
  | nil=>simp at bh;omega
  | cons y R'=>exact⟨y,R',rfl⟩
 have c1:=ae.cell (zC1 _ _ _);have c2:=ae.cell (zBp P [] R x y);rw[ZY,YI,a8]at c2;have ar:P.length=i-1:=by omega
 rw[ar]at c1;have f1:=ae.fro (i-1);have f2:=ae.fro i;have gl:=ae.lt;have ap:=ae.swap;rw[a8,ar]at ap;obtain⟨b1,b2,b3⟩:=bc.o wr aw;have bl:=Ext.cells b1 b3;have br:=Ext.cells b2 b3;have cv:=Ext.cells c1 gl;have xc2:=Ext.cells c2 gl;obtain⟨u,hu⟩:∃u,f x=u:=⟨_,rfl⟩;obtain⟨q,hq⟩:∃q,f y=q:=⟨_,rfl⟩
 have C1:=hy' (Ext.call (w:=wr) fun W hW=>by
  have:=bf.o x W (bk.o W (zA0 aw (Ss.grown_below hW)));rw[hu]at this;exact this)
 have C2:=hy' (fun (wq:World) (cy:w1.grownBy wq (some g))=>Ext.call (w:=wq) fun W hW=>by
  have:=bf.o y W (bk.o W (zA0 cy (Ss.grown_below hW)));rw[hq]at this;exact this)
 have HU:=hy' hu;have HQ:=hy' hq;have ao:=hy' af;have au:=hy' a8;have bo:=hy' bh;have bt:=hy' ae;have dr:=hy' aw;have j0:(0:Int)≤(i:Int)-1:=by omega
 have j1:(i:Int)-1<n:=by omega
 have jt:((i:Int)-1).toNat=i-1:=by omega
 clear hu hq af a8 bh ae aw ap ar;go_wp2_with fail;refine zA7 (by kernel_rfl) (by kernel_rfl) ?_
 repeat (go_big_quiet_step ((go_at_call 21;with_reducible exact C1.o _)))
 refine wpQuiet_nil ?_;intro xw;obtain⟨wx,b9⟩:∃wx,xw.val=wx:=⟨_,rfl⟩;have ai:=xw.below;rw[b9]at ai ⊢;have ah:=zA0 dr.o (Ss.grown_below (row:=some g) ai);have ag:=bt.o.below ai;clear bl br cv xc2 b1 b2 b3 c1 c2 f1 f2 gl b9 xw ai;have c2:=ag.cell (zBp P [] R x y);rw[ZY,YI,au.o]at c2;have gl:=ag.lt;obtain⟨b1,b2,b3⟩:=bc.o wx ah;have bl:=Ext.cells b1 b3;have br:=Ext.cells b2 b3;have xc2:=Ext.cells c2 gl;have C3:=hy' (C2.o wx ah);have dh:=hy' ag;have di:=hy' ah;have dz:(0:Int)≤(i:Int):=by omega
 clear ag ah;go_wp2_with fail;refine zA7 (by kernel_rfl) (by kernel_rfl) ?_
 repeat (go_big_quiet_step ((go_at_call 21;with_reducible exact C3.o _)))
 refine wpQuiet_nil ?_;intro xw;obtain⟨wy,cj⟩:∃wy,xw.val=wy:=⟨_,rfl⟩;have ai:=xw.below;rw[cj]at ai ⊢;have ah:=zA0 di.o (Ss.grown_below (row:=some g) ai);have ag:=dh.o.below ai;clear bl br xc2 b1 b2 b3 c2 gl cj xw ai;have ar:P.length=i-1:=by have:=au.o;omega
 have bw:=hy' ah
 by_cases ap:0<q∧q<u
 · obtain⟨ax,cd⟩:=ap;have a7:q > 0:=ax;have bx:u > q:=cd
   have az:P++zBO f x (y::R)=(P++[y])++zBO f x R:=by
    rw[zBO,Zm (by rw[HU.o,HQ.o];exact⟨ax,cd⟩)];simp
   have c1:=ag.cell (zC1 P (y::R) x);have c2:=ag.cell (zBp P [] R x y);rw[ZY,YI,au.o]at c2;rw[ar]at c1;have f1:=ag.fro (i-1);have f2:=ag.fro i;have gl:=ag.lt;have b4:=ag.swap;rw[au.o,ar]at b4;have dy:¬i-1=i:=by omega
   have eb:¬i=i-1:=by omega
   have cz:Hy (Nf.At ((wy.setCell ⟨g,i-1,none⟩ (.int .i64 y)).setCell ⟨g,i,none⟩ (.int .i64 x)) g cap ((P++[y])++x::R)):=hy' (by simpa using b4);have bi:Hy ((P++[y])++zBO f x R=zBV f (x0::R0)):=hy' (az.symm.trans ao.o);clear ag ah az b4 ar;go_wp2_with fail;go_region;go_wp2;exact⟨⟨i+1,P++[y],x,R,by omega,by omega,by first|rfl|go_num,by have:=au.o;simp;omega,by have:=bo.o;simp at this ⊢;omega,bi.o,cz.o,Ss.grown_drew (Ss.grown_set (Ss.grown_set bw.o _ _) _ _)⟩,by simp[intOf];omega⟩
 have az:P++zBO f x (y::R)=(P++[x])++zBO f y R:=by
  rw[zBO,Zk (by rw[HU.o,HQ.o];exact ap)];simp
 have bi:Hy ((P++[x])++zBO f y R=zBV f (x0::R0)):=hy' (az.symm.trans ao.o);have cb:Hy (Nf.At wy g cap ((P++[x])++y::R)):=hy' (by simpa using ag);clear ag ah az ar
 by_cases ax:0<q
 · have a7:q > 0:=ax;have bx:¬u > q:=fun h=>ap ⟨ax,h⟩
   clear ap;go_wp2_with fail;exact⟨⟨i+1,P++[x],y,R,by omega,by omega,by first|rfl|go_num,by have:=au.o;simp;omega,by have:=bo.o;simp at this ⊢;omega,bi.o,cb.o,bw.o⟩,by simp[intOf];omega⟩
 have a7:¬q > 0:=ax;clear ap;go_wp2_with fail;exact⟨⟨i+1,P++[x],y,R,by omega,by omega,by first|rfl|go_num,by have:=au.o;simp;omega,by have:=bo.o;simp at this ⊢;omega,bi.o,cb.o,bw.o⟩,by simp[intOf];omega⟩
end
def U.isC (c:Int):Bool:=decide (0≤c∧c≤1114111∧(c<55296∨57343<c))
def zAA (c:Int):Nat:=if U.isC c then (if c<128 then 1 else if c<2048 then 2 else if c<65536 then 3 else 4) else 0
def U.u8 (c:Int):UInt8:=UInt8.ofNat c.toNat
def zAn (c:Int):List UInt8 :=
 if c<128 then [U.u8 c] else if c<2048 then [U.u8 (192+c/64),U.u8 (128+c%64)]
 else if c<65536 then [U.u8 (224+c/4096),U.u8 (128+c/64%64),U.u8 (128+c%64)]
 else [U.u8 (240+c/262144),U.u8 (128+c/4096%64),U.u8 (128+c/64%64),U.u8 (128+c%64)]
def zB5 (l:List UInt8) (i:Nat):Int:=((l.getD i 0).toNat:Int)
def zAb (b:Int):Nat:=if b<128 then 1 else if b<192 then 0 else if b<224 then 2 else if b<240 then 3 else if b<248 then 4 else 0
def zCZ:Nat→Int|1=>0|2=>192|3=>224|_=>240
def zAl (l:List UInt8) (n:Nat):Nat→Int|0=>zB5 l 0-zCZ n|i+1=>zAl l n i*64+(zB5 l (i+1)-128)
def zNx (l:List UInt8) (n:Nat):Prop:=∀j,j<n→1≤j→128≤zB5 l j∧zB5 l j<192
instance (l:List UInt8) (n:Nat):Decidable (zNx l n):=by unfold zNx;exact inferInstance
def zAy (l:List UInt8):Option (Int × Nat) :=
 if l=[] then none else
 if zAb (zB5 l 0)=0∨l.length<zAb (zB5 l 0) then none else
 if zNx l (zAb (zB5 l 0))∧zAA (zAl l (zAb (zB5 l 0)) (zAb (zB5 l 0)-1))=zAb (zB5 l 0)
 then some (zAl l (zAb (zB5 l 0)) (zAb (zB5 l 0)-1),zAb (zB5 l 0)) else none
theorem zBQ (l:List UInt8) (i:Nat):0≤zB5 l i∧zB5 l i<256:=by
 unfold zB5;have:=(l.getD i 0).toNat_lt;omega
theorem zB3 (c:Int) (h0:0≤c) (h1:c<256):((U.u8 c).toNat:Int)=c:=by
 unfold U.u8;rw[XC];omega
theorem zDu (b:UInt8) (c:Int) (h:c=(b.toNat:Int)):U.u8 c=b:=by
 subst h;unfold U.u8;simp
theorem U.bv0 (b:UInt8) (t:List UInt8):zB5 (b::t) 0=(b.toNat:Int):=rfl
theorem U.isC_iff (c:Int):U.isC c=true↔(0≤c∧c≤1114111∧(c<55296∨57343<c)):=by unfold U.isC;simp
theorem zIO (c:Int):0<zAA c↔U.isC c=true:=by unfold zAA;grind
theorem zMg (c:Int) (h:U.isC c=true):(zAn c).length=zAA c:=by
 unfold zAn zAA;rw[if_pos h];grind
theorem zKa (c:Int):zAA c≤4:=by unfold zAA;grind
theorem zGZ (c:Int) (hc:U.isC c=true) (l:List UInt8):zAy (zAn c++l)=some (c,(zAn c).length):=by
 have h:=(U.isC_iff c).1 hc;have hw:=zMg c hc
 by_cases h1:c<128
 · have e:zAn c=[U.u8 c]:=by unfold zAn;rw[if_pos h1]
   have hb:zB5 ([U.u8 c]++l) 0=c:=zB3 c (by omega) (by omega);have hs:zAb c=1:=by unfold zAb;rw[if_pos h1]
   rw[e]at hw ⊢;unfold zAy;rw[hb,hs,Zk (by simp),Zk (by simp)];have ha:zAl ([U.u8 c]++l) 1 (1-1)=c:=by show zB5 _ 0-0=c;rw[hb];omega
   rw[ha,if_pos ⟨fun j h1 h2=>by omega,by simpa using hw.symm⟩];simp
 by_cases h2:c<2048
 · have e:zAn c=[U.u8 (192+c/64),U.u8 (128+c%64)]:=by unfold zAn;rw[if_neg h1,if_pos h2]
   have hb:zB5 ([U.u8 (192+c/64),U.u8 (128+c%64)]++l) 0=192+c/64:=zB3 _ (by omega) (by omega);have aa:zB5 ([U.u8 (192+c/64),U.u8 (128+c%64)]++l) 1=128+c%64:=zB3 _ (by omega) (by omega);have hs:zAb (192+c/64)=2:=by unfold zAb;rw[if_neg (by omega),if_neg (by omega),if_pos (by omega)]
   rw[e]at hw ⊢;unfold zAy;rw[hb,hs,Zk (by simp),Zk (by simp)];have ha:zAl ([U.u8 (192+c/64),U.u8 (128+c%64)]++l) 2 (2-1)=c:=by show (zB5 _ 0-192)*64+(zB5 _ 1-128)=c;rw[hb,aa];omega
   rw[ha,Zm ⟨fun j h1 h2=>by
    obtain rfl:j=1:=by omega
    rw[aa];omega,by simpa using hw.symm⟩]
   simp
 by_cases h3:c<65536
 · have e:zAn c=[U.u8 (224+c/4096),U.u8 (128+c/64%64),U.u8 (128+c%64)]:=by unfold zAn;rw[if_neg h1,if_neg h2,if_pos h3]
   generalize hL:[U.u8 (224+c/4096),U.u8 (128+c/64%64),U.u8 (128+c%64)]=L at e;have hb:zB5 (L++l) 0=224+c/4096:=by rw[←hL];exact zB3 _ (by omega) (by omega)
   have aa:zB5 (L++l) 1=128+c/64%64:=by rw[←hL];exact zB3 _ (by omega) (by omega)
   have ae:zB5 (L++l) 2=128+c%64:=by rw[←hL];exact zB3 _ (by omega) (by omega)
   have hs:zAb (224+c/4096)=3:=by unfold zAb;rw[if_neg (by omega),if_neg (by omega),if_neg (by omega),if_pos (by omega)]
   have hl:L.length=3:=by rw[←hL];rfl
   rw[e]at hw ⊢;unfold zAy;rw[hb,hs,Zk (fun h=>by have:=Z6 List.length h;simp[hl]at this),Zk (by simp[hl])];have ha:zAl (L++l) 3 (3-1)=c:=by show ((zB5 _ 0-224)*64+(zB5 _ 1-128))*64+(zB5 _ 2-128)=c;rw[hb,aa,ae];omega
   rw[ha,Zm ⟨fun j h1 h2=>by
    have hj:j=1∨j=2:=by omega
    rcases hj with rfl|rfl
    · rw[aa];omega
    rw[ae];omega,by rw[←hw,hl]⟩,hl]
 have e:zAn c=[U.u8 (240+c/262144),U.u8 (128+c/4096%64),U.u8 (128+c/64%64),U.u8 (128+c%64)]:=by unfold zAn;rw[if_neg h1,if_neg h2,if_neg h3]
 generalize hL:[U.u8 (240+c/262144),U.u8 (128+c/4096%64),U.u8 (128+c/64%64),U.u8 (128+c%64)]=L at e;have hb:zB5 (L++l) 0=240+c/262144:=by rw[←hL];exact zB3 _ (by omega) (by omega)
 have aa:zB5 (L++l) 1=128+c/4096%64:=by rw[←hL];exact zB3 _ (by omega) (by omega)
 have ae:zB5 (L++l) 2=128+c/64%64:=by rw[←hL];exact zB3 _ (by omega) (by omega)
 have af:zB5 (L++l) 3=128+c%64:=by rw[←hL];exact zB3 _ (by omega) (by omega)
 have hs:zAb (240+c/262144)=4:=by unfold zAb;rw[if_neg (by omega),if_neg (by omega),if_neg (by omega),if_neg (by omega),if_pos (by omega)]
 have hl:L.length=4:=by rw[←hL];rfl
 rw[e]at hw ⊢;unfold zAy;rw[hb,hs,Zk (fun h=>by have:=Z6 List.length h;simp[hl]at this),Zk (by simp[hl])]
 have ha:zAl (L++l) 4 (4-1)=c:=by
  show (((zB5 _ 0-240)*64+(zB5 _ 1-128))*64+(zB5 _ 2-128))*64+(zB5 _ 3-128)=c;rw[hb,aa,ae,af];omega
 rw[ha,Zm ⟨fun j h1 h2=>by
  have hj:j=1∨j=2∨j=3:=by omega
  rcases hj with rfl|rfl|rfl
  · rw[aa];omega
  · rw[ae];omega
  rw[af];omega,by rw[←hw,hl]⟩,hl]
theorem zHr (l:List UInt8) (c:Int) (n:Nat) (h:zAy l=some (c,n)):U.isC c=true∧n=zAA c∧∃t,l=zAn c++t:=by
 unfold zAy at h;split at h
 · cases h
 split at h
 · cases h
 split at h
 rotate_left
 · cases h
 rename_i hl hn hh;obtain⟨ht,hw⟩:=hh;simp only[Zg,Yx]at h;obtain⟨h1,h2⟩:=h;rw[h2]at hw hn ht;rw[h2,]at h1;rw[h1]at hw;have hc:U.isC c=true:=(zIO c).1 (by omega);have hb:=zBQ l 0;refine⟨hc,hw.symm,?_⟩;have ag:=hw;unfold zAA at ag;rw[Zm hc]at ag;have ak:=(U.isC_iff c).1 hc;have ah:=h2;unfold zAb at ah;rcases l with _|⟨b0,t0⟩
 · exact absurd rfl hl
 rw[U.bv0]at *;have ai:n=1∨n=2∨n=3∨n=4:=by have:=zKa c;omega
 rcases ai with rfl|rfl|rfl|rfl
 · refine⟨t0,?_⟩;have ae:(b0.toNat:Int)-0=c:=h1;unfold zAn;rw[Zm (by grind)];rw[zDu b0 c (by omega)];rfl
 · rcases t0 with _|⟨b1,t1⟩
   · simp at hn
   have aa:=ht 1 (by omega) (by omega);have ae:((b0.toNat:Int)-192)*64+((b1.toNat:Int)-128)=c:=h1;change 128≤(b1.toNat:Int)∧(b1.toNat:Int)<192 at aa;refine⟨t1,?_⟩;unfold zAn;rw[Zk (by grind),Zm (by grind)];rw[zDu b0 (192+c/64) (by omega),zDu b1 (128+c%64) (by omega)];rfl
 · rcases t0 with _|⟨b1,t1⟩
   · simp at hn
   rcases t1 with _|⟨b2,t2⟩
   · simp at hn
   have aa:=ht 1 (by omega) (by omega);have af:=ht 2 (by omega) (by omega);have ae:(((b0.toNat:Int)-224)*64+((b1.toNat:Int)-128))*64+((b2.toNat:Int)-128)=c:=h1;change 128≤(b1.toNat:Int)∧(b1.toNat:Int)<192 at aa;change 128≤(b2.toNat:Int)∧(b2.toNat:Int)<192 at af;refine⟨t2,?_⟩;unfold zAn;rw[Zk (by grind),Zk (by grind),Zm (by grind)];rw[zDu b0 (224+c/4096) (by omega),zDu b1 (128+c/64%64) (by omega),zDu b2 (128+c%64) (by omega)];rfl
 rcases t0 with _|⟨b1,t1⟩
 · simp at hn
 rcases t1 with _|⟨b2,t2⟩
 · simp at hn
 rcases t2 with _|⟨b3,t3⟩
 · simp at hn
 have aa:=ht 1 (by omega) (by omega);have af:=ht 2 (by omega) (by omega);have aj:=ht 3 (by omega) (by omega);have ae:((((b0.toNat:Int)-240)*64+((b1.toNat:Int)-128))*64+((b2.toNat:Int)-128))*64+((b3.toNat:Int)-128)=c:=h1;change 128≤(b1.toNat:Int)∧(b1.toNat:Int)<192 at aa;change 128≤(b2.toNat:Int)∧(b2.toNat:Int)<192 at af;change 128≤(b3.toNat:Int)∧(b3.toNat:Int)<192 at aj;refine⟨t3,?_⟩;unfold zAn;rw[Zk (by grind),Zk (by grind),Zk (by grind)];rw[zDu b0 (240+c/262144) (by omega),zDu b1 (128+c/4096%64) (by omega),zDu b2 (128+c/64%64) (by omega),zDu b3 (128+c%64) (by omega)];rfl
section
open Go.RowKit
def U.row:Array Value := #[.int .u8 0,.int .u8 127,.int .i32 0,.int .u8 192,.int .u8 31,.int .i32 128,.int .u8 224,.int .u8 15,.int .i32 2048,.int .u8 240,.int .u8 7,.int .i32 65536]
def Heads (w:World):Prop:=∃t fr,w.heap[0]?=some (.cells U.row t fr)
theorem Heads.lt {w:World} (h:Heads w):0<w.heap.size:=by
 obtain⟨t,fr,h⟩:=h;rcases Z0 0 w.heap.size with aa|hge
 · exact aa
 rw[YS hge]at h;cases h
theorem Heads.below {w w':World} {B:Nat} (h:Heads w) (hb:Below B w w') (hB:0<B):Heads w':=by
 obtain⟨t,fr,h⟩:=h;exact⟨t,fr,(hb.block _ hB).trans h⟩
theorem Heads.next {w w':World} (h:Heads w) (hb:Below w.heap.size w w'):Heads w':=h.below hb h.lt
theorem Heads.cell {w:World} (h:Heads w) (i:Nat):w.cell? ⟨0,i,none⟩=U.row[i]?:=by
 obtain⟨t,fr,h⟩:=h;simp[World.cell?,h]
theorem U.is_any (c:Int) (w:World) (h1 : -2147483648≤c) (h2:c≤2147483647) :
 Calls prog 50 #[.int .i32 c] w fun e w'=>e=.returned (.bool (U.isC c))∧w=w':=by
 have hd:∀x:Bool,(x=true↔(0≤c∧c≤1114111∧(c<55296∨57343<c)))→U.isC c=x:=by
  intro x hx;rw[Yf,U.isC_iff,hx]
 have HD:=hy' hd;clear hd;go_enter func50,ntmps50;go_wp2
 all_goals
  go_ret;refine⟨zB9 (HD.o _ ?_).symm,rfl⟩;simp
  try omega
theorem zSD:∀n:Fin 256,bits BinOp.andNot IntKind.u8 ((n.val:Nat):Int) 127=(if ((n.val:Nat):Int)<128 then 0 else 128):=by decide +kernel
theorem zSE:∀n:Fin 256,(bits BinOp.andNot IntKind.u8 ((n.val:Nat):Int) 31=192)↔(192≤((n.val:Nat):Int)∧((n.val:Nat):Int)<224):=by decide +kernel
theorem zSF:∀n:Fin 256,(bits BinOp.andNot IntKind.u8 ((n.val:Nat):Int) 15=224)↔(224≤((n.val:Nat):Int)∧((n.val:Nat):Int)<240):=by decide +kernel
theorem zSG:∀n:Fin 256,(bits BinOp.andNot IntKind.u8 ((n.val:Nat):Int) 7=240)↔(240≤((n.val:Nat):Int)∧((n.val:Nat):Int)<248):=by decide +kernel
theorem zSH (b:Int) (h1:0≤b) (h2:b<256):(bits BinOp.andNot IntKind.u8 b 127 == 0)=decide (b<128)∧(bits BinOp.andNot IntKind.u8 b 31 == 192)=decide (192≤b∧b<224) ∧
 (bits BinOp.andNot IntKind.u8 b 15 == 224)=decide (224≤b∧b<240)∧(bits BinOp.andNot IntKind.u8 b 7 == 240)=decide (240≤b∧b<248):=by
 obtain⟨n,rfl⟩:=YP h1;have hn:n<256:=by omega
 refine⟨?_,?_,?_,?_⟩
 · have:=zSD ⟨n,hn⟩;simp only[]at this;rw[this]
   by_cases h:(n:Int)<128 <;> simp[h]
 · rw[Yf,YT,Zn];exact zSE ⟨n,hn⟩
 · rw[Yf,YT,Zn];exact zSF ⟨n,hn⟩
 rw[Yf,YT,Zn];exact zSG ⟨n,hn⟩
theorem zCN (b:Int) (w:World) (h1:0≤b) (h2:b<256) (hH:Heads w) :
 Calls prog 114 #[.int .u8 b] w fun e w'=>e=.returned (.int .i64 (zAb b))∧Below w.heap.size w w':=by
 obtain⟨e0,e1,e2,e3⟩:=zSH b h1 h2;obtain⟨t,fr,hg⟩:=hH;have i0:∀w,(Instr.index 182 (.agg U.row) (.int .i64 0)).run prog w=.ok (.agg #[.int .u8 0,.int .u8 127,.int .i32 0]) w:=fun _=>by kernel_rfl
 have i1:∀w,(Instr.index 182 (.agg U.row) (.int .i64 1)).run prog w=.ok (.agg #[.int .u8 192,.int .u8 31,.int .i32 128]) w:=fun _=>by kernel_rfl
 have i2:∀w,(Instr.index 182 (.agg U.row) (.int .i64 2)).run prog w=.ok (.agg #[.int .u8 224,.int .u8 15,.int .i32 2048]) w:=fun _=>by kernel_rfl
 have i3:∀w,(Instr.index 182 (.agg U.row) (.int .i64 3)).run prog w=.ok (.agg #[.int .u8 240,.int .u8 7,.int .i32 65536]) w:=fun _=>by kernel_rfl
 go_enter func114,ntmps114;go_wp2_with (refine wpList_load_row rfl _ _ rfl 0 rfl t _ fr _ hg underlying182 rfl (by kernel_rfl) ?_);clear hg;go_loopw [6] (fun i wr=>Below w.heap.size w wr∧(i=.int .i64 0∨(i=.int .i64 1∧128≤b)∨(i=.int .i64 2∧128≤b∧¬(192≤b∧b<224))∨(i=.int .i64 3∧128≤b∧¬(192≤b∧b<240))∨(i=.int .i64 4∧128≤b∧¬(192≤b∧b<248)))) (fun i _=>4-(intOf i).toNat)
 case atStart=>exact⟨Zc _ _,.inl rfl⟩
 obtain⟨hb,hr⟩:=hrel;have ae:=hb.size;rcases hr with rfl|⟨rfl,hr⟩|⟨rfl,hr,aa⟩|⟨rfl,hr,aa⟩|⟨rfl,hr,aa⟩
 · by_cases hlt:b<128
   · go_wp2;go_ret;exact⟨zBN (by unfold zAb;rw[if_pos hlt];rfl),hb.alloc ae _⟩
   go_wp2;exact⟨⟨hb.alloc ae _,.inr (.inl ⟨rfl,by omega⟩)⟩,by simp[intOf]⟩
 · by_cases hlt:192≤b∧b<224
   · have hd:decide (192≤b∧b<224)=true:=Zp hlt;obtain⟨_,_⟩:=hlt;go_wp2;go_ret;exact⟨zBN (by unfold zAb;rw[if_neg (by omega),if_neg (by omega),if_pos (by omega)];rfl),hb.alloc ae _⟩
   have hd:decide (192≤b∧b<224)=false:=Zq hlt;rw[hd]at e1;have HL:=hy' hlt;clear hd hlt;go_wp2;exact⟨⟨hb.alloc ae _,.inr (.inr (.inl ⟨rfl,hr,HL.o⟩))⟩,by simp[intOf]⟩
 · by_cases hlt:224≤b∧b<240
   · have hd:decide (224≤b∧b<240)=true:=Zp hlt;obtain⟨_,_⟩:=hlt;clear aa;go_wp2;go_ret;exact⟨zBN (by unfold zAb;rw[if_neg (by omega),if_neg (by omega),if_neg (by omega),if_pos (by omega)];rfl),hb.alloc ae _⟩
   have hd:decide (224≤b∧b<240)=false:=Zq hlt;rw[hd]at e2;have HL:=hy' hlt;have HR:=hy' aa;clear hd hlt aa;go_wp2;exact⟨⟨hb.alloc ae _,.inr (.inr (.inr (.inl ⟨rfl,hr,by have h1:=HL.o;have h2:=HR.o;omega⟩)))⟩,by simp[intOf]⟩
 · by_cases hlt:240≤b∧b<248
   · have hd:decide (240≤b∧b<248)=true:=Zp hlt;obtain⟨_,_⟩:=hlt;clear aa;go_wp2;go_ret;exact⟨zBN (by unfold zAb;rw[if_neg (by omega),if_neg (by omega),if_neg (by omega),if_neg (by omega),if_pos (by omega)];rfl),hb.alloc ae _⟩
   have hd:decide (240≤b∧b<248)=false:=Zq hlt;rw[hd]at e3;have HL:=hy' hlt;have HR:=hy' aa;clear hd hlt aa;go_wp2;exact⟨⟨hb.alloc ae _,.inr (.inr (.inr (.inr ⟨rfl,hr,by have h1:=HL.o;have h2:=HR.o;omega⟩)))⟩,by simp[intOf]⟩
 have HR:=hy' aa;clear aa;go_wp2;go_ret;refine⟨zBN ?_,hb⟩;have h1:=HR.o;unfold zAb
 by_cases hb:b<192
 · rw[Zk (by omega),Zm hb];rfl
 rw[Zk (by omega),Zk (by omega),Zk (by omega),Zk (by omega),Zk (by omega)];rfl
theorem zAT (c:Int) (w:World) (h1 : -2147483648≤c) (h2:c≤2147483647) (hH:Heads w) :
 Calls prog 115 #[.int .i32 c] w fun e w'=>e=.returned (.int .i64 (zAA c))∧w=w':=by
 have c1:=hH.cell 5;have c2:=hH.cell 8;have c3:=hH.cell 11;change _=some (Value.int .i32 128) at c1;change _=some (Value.int .i32 2048) at c2;change _=some (Value.int .i32 65536) at c3;clear hH
 by_cases hc:U.isC c=true
 rotate_left
 · have aa:U.isC c=false:=by simpa using hc
   have HC:=hy' hc;clear hc;go_enter func115,ntmps115;go_wp2_with (go_at_call 50;refine (U.is_any _ _ h1 h2).mono ?_;rintro e w' ⟨rfl,rfl⟩);go_ret;exact⟨zBN (by unfold zAA;rw[if_neg HC.o];rfl),rfl⟩
 have HC:=hy' hc
 have hw:∀n:Nat,n=(if c<128 then 1 else if c<2048 then 2 else if c<65536 then 3 else 4)→zAA c=n:=by
  intro n hn;unfold zAA;rw[Zm HC.o,hn]
 have HW:=hy' hw;clear hw;go_enter func115,ntmps115;go_wp2_with (go_at_call 50;refine (U.is_any _ _ h1 h2).mono ?_;rintro e w' ⟨rfl,rfl⟩);go_loop [3] (fun n=>n=.int .i64 1∨(n=.int .i64 2∧128≤c)∨(n=.int .i64 3∧2048≤c)∨(n=.int .i64 4∧65536≤c)) (fun n=>5-(intOf n).toNat)
 case atStart=>exact .inl rfl
 rcases hrel with rfl|⟨rfl,hr⟩|⟨rfl,hr⟩|⟨rfl,hr⟩
 · by_cases hlt:128≤c
   · go_wp2;exact⟨.inr (.inl ⟨rfl,hlt⟩),by simp[intOf]⟩
   go_wp2;go_ret;exact⟨zBN (by rw[HW.o 1 (by rw[Zm (by omega)])];rfl),rfl⟩
 · by_cases hlt:2048≤c
   · go_wp2;exact⟨.inr (.inr (.inl ⟨rfl,hlt⟩)),by simp[intOf]⟩
   go_wp2;go_ret;exact⟨zBN (by rw[HW.o 2 (by rw[Zk (by omega),Zm (by omega)])];rfl),rfl⟩
 · by_cases hlt:65536≤c
   · go_wp2;exact⟨.inr (.inr (.inr ⟨rfl,hlt⟩)),by simp[intOf]⟩
   go_wp2;go_ret;exact⟨zBN (by rw[HW.o 3 (by rw[Zk (by omega),Zk (by omega),Zm (by omega)])];rfl),rfl⟩
 go_wp2;go_ret;exact⟨zBN (by rw[HW.o 4 (by rw[Zk (by omega),Zk (by omega),Zk (by omega)])];rfl),rfl⟩
end
end Go.Proofs.YtjakbblocbicjaaGreatDoor
