/- The document's order of marks (layer 16), by walking its text: exchanging neighbours. -/
import Derived.Test.YtddbccflcekdpaaGreatDoorMdRef4
set_option maxRecDepth 100000
set_option maxHeartbeats 8000000
set_option linter.unusedVariables false
set_option linter.unusedSimpArgs false
namespace Go.Proofs.YtddbccflcekdpaaGreatDoor
open Go.Proofs.Tryz
section
open Go.RowKit
def Nf.At (w:World) (g sz:Nat) (Z:List Int):Prop:=∃R:List Value,Z.length+R.length=sz∧Rw.At w g 3 (Z.map (Value.int .i64)++R)
theorem Nf.At.cell {w:World} {g sz:Nat} {Z:List Int} (h:Nf.At w g sz Z) {i:Nat} {x:Int} (hx:Z[i]?=some x):w.cell? ⟨g,i,none⟩=some (.int .i64 x):=by
 obtain⟨R,hs,h⟩:=h;refine Rw.At.cell h i ?_;rw[ZT (by rw[Ze];exact (List.getElem?_eq_some_iff.1 hx).1),Zs,hx];rfl
theorem Nf.At.fro {w:World} {g sz:Nat} {Z:List Int} (h:Nf.At w g sz Z) (i:Nat):w.frozen? ⟨g,i,none⟩=false:=by
 obtain⟨R,hs,h⟩:=h;exact Rw.At.frozen h i
theorem Nf.At.lt {w:World} {g sz:Nat} {Z:List Int} (h:Nf.At w g sz Z):g<w.heap.size:=by
 obtain⟨R,hs,h⟩:=h;exact Rw.At.lt h
theorem Nf.At.set {w:World} {g sz:Nat} {Z:List Int} (h:Nf.At w g sz Z) (i:Nat) (hi:i<Z.length) (x:Int):Nf.At (w.setCell ⟨g,i,none⟩ (.int .i64 x)) g sz (Z.set i x):=by
 obtain⟨R,hs,h⟩:=h;refine⟨R,by rw[Xc];exact hs,?_⟩;rw[Jj,←JD _ _ (by rw[Ze];exact hi)];exact Rw.At.set h i _
theorem Nf.At.swap {w:World} {g sz:Nat} {P Q:List Int} {x y:Int} (h:Nf.At w g sz (P++x::y::Q)):Nf.At ((w.setCell ⟨g,P.length,none⟩ (.int .i64 y)).setCell ⟨g,P.length+1,none⟩ (.int .i64 x)) g sz (P++y::x::Q):=by
 have:=(h.set P.length (by simp) y).set (P.length+1) (by simp) x;have e:=zKI P [] Q x y;simp only[ZH,Z2,YV]at e;rw[e]at this;exact this
theorem Nf.At.below {w w':World} {g sz:Nat} {Z:List Int} (h:Nf.At w g sz Z) (hb:Below w.heap.size w w'):Nf.At w' g sz Z:=by
 obtain⟨R,hs,h⟩:=h;exact⟨R,hs,Rw.At.below h hb⟩
theorem Nf.At.of_own {w:World} {base g n cap:Nat} {l:List Int} (hl:l.length=n) (h:w.ownsRow base 3 1 (.slice (some ⟨g,0,none⟩) n cap) n (l.map (Value.int .i64))):Nf.At w g cap l∧base≤g∧n≤cap∧cap≤maxLen:=by
 rcases h.2 with ⟨hv,_⟩|⟨g',ae,aa,hv,hg,hb,h1,h2,h3,h4⟩
 · cases hv
 simp only[Z3,Zh,YT,Xd,QG]at hv;obtain⟨rfl,rfl⟩:=hv;refine⟨⟨aa.toList.drop n,?_,?_⟩,hg,h1,h2⟩
 · have e:aa.toList.length=aa.size:=XX;rw[ZO,e,h3,hl];omega
 unfold Rw.At;rw[Xm]at h4;rw[←h4,ZF];simpa using hb
theorem Nf.At.own {w:World} {base g n cap:Nat} {Z:List Int} (h:Nf.At w g cap Z) (hl:Z.length=n) (hb:base≤g) (hc:n≤cap) (hm:cap≤maxLen):w.ownsRow base 3 1 (.slice (some ⟨g,0,none⟩) n cap) n (Z.map (Value.int .i64)):=by
 obtain⟨R,hs,ha⟩:=h;refine⟨by rw[Ze,hl,Xm],.inr ⟨g,cap,_,rfl,hb,ha,hc,hm,?_,?_⟩⟩
 · simp;omega
 rw[Xm];simp[hl]
def zDV (l:List Int) (w:World) (e:Ending) (w':World):Prop :=
 ∃A c,e=.returned (.slice A l.length c)∧w'.ownsRow w.heap.size 3 1 (.slice A l.length c) l.length (l.map (Value.int .i64))∧Below w.heap.size w w'
theorem Nf.go_len (f:Int→Int):∀(R:List Int) (x:Int),(zBP f x R).length=R.length+1
 | [],x=>rfl
 | y::R,x=>by
   unfold zBP;split <;> simp[Nf.go_len f R]
theorem zNC (f:Int→Int):∀(n:Nat) (l:List Int),(zBq f n l).length=l.length:=fun n l=>(zBX f n l).length
theorem zKo (v:Value) (T:List Rw.Row) (E:List Int) (A:Option Addr) (n c:Nat) (l:List Int) (w:World) (cc:T.length≤1000000) (h:Md.Doc w v T E) (hl:l.length=n) (hn:n≤100000) (hA:Sl w w.heap.size A (l.map (Value.int .i64))) :
 Calls prog 16 #[v,.slice A n c] w (zDV (Or.of (Md.cls T) l) w):=by
 obtain⟨i0,dr,dk,di,dm⟩:=Z7 zDE;have hd:=h;obtain⟨AT,cT,XA,xc,rfl,_⟩:=hd;obtain⟨tn,ch⟩:∃k,T.length=k:=⟨_,rfl⟩;obtain⟨xn,hxn⟩:∃k,E.length=k:=⟨_,rfl⟩;rw[ch,hxn]at h ⊢;have au:∀d W,Below w.heap.size w W→Calls prog 43 #[zBs AT tn cT XA xn xc,.int .i64 d] W fun e w'=>e=.returned (.int .i64 (Md.cls T d))∧Below W.heap.size W w':=fun d W hW=>zFY _ T E d W cc (h.below hW)
 obtain⟨f,hf⟩:∃f,Md.cls T=f:=⟨_,rfl⟩;rw[hf]at au ⊢;unfold zBs at *;obtain⟨wa,a7⟩:∃wa,(w.alloc (.cells #[.slice AT tn cT,.slice XA xn xc] 25)).alloc (.cells #[] 3)=wa:=⟨_,rfl⟩;have bs:Below w.heap.size w wa:=by rw[←a7];exact ((Zc _ _).alloc (Za _) _).alloc (by simp) _
 have bq:Rw.At wa w.heap.size 25 [.slice AT tn cT,.slice XA xn xc]:=by
  rw[←a7];exact (Rw.At.new w 25 [.slice AT tn cT,.slice XA xn xc]).alloc _
 have bf:wa.ownsRow (w.heap.size+1) 3 1 (.slice (some ⟨w.heap.size+1,0,none⟩) 0 0) 0 []:=by
  have:=Md.own_empty (w.alloc (.cells #[.slice AT tn cT,.slice XA xn xc] 25)) 3 (by decide);rw[ZL]at this;rw[←a7];exact this
 have c8:w.heap.size+1≤wa.heap.size:=bq.lt;have cy:=hy' a7;have cz:=hy' bs;have dn:=hy' bq;have bz:=hy' bf;have HL:=hy' hl;have dl:=hy' (hA.below bs (Za _));have az:=hy' au;have cg:(l.map (Value.int .i64)).length=n*1:=by rw[Ze,hl];omega
 have b7:∀u∈l.map (Value.int .i64),u.oneCell'=true:=zBN .i64 _;have du:=hy' b7;have cr:=hy' cg;clear a7 bs bq bf hl hA au h ch hxn cc hf cg b7;go_enter func16,ntmps16;go_wp2_with (first|(at_builtin;(rw[cy.o]);refine zAc _ rfl _ _ _ rfl (w.heap.size+1) 3 i0 _ 1 8 underlying23 dr dk di dm rfl (by omega) _ 0 _ rfl bz.o _ A n c (l.map (Value.int .i64)) rfl cr.o dl.o du.o (by simp only[maxLen];omega) (by omega) c8 ?_;intro v1 w1 aa bu ah;have ar:=hy' aa;have b4:=hy' (cz.o.trans (bu.mono (ZX _)));have bp:=hy' (dn.o.below' bu (ZP _));clear aa bu ah)|fail);rw[ZH,ZU]at ar;have aa:=ar.o;rcases aa.2 with ⟨hv,h0⟩|⟨g,cap,dy,hv,hg,cw,k1,k2,k3,k4⟩
 · subst hv;obtain rfl:n=0:=h0;have c7:l=[]:=Zz HL.o;subst c7;clear aa;go_loopw [6,7,8,9] (fun vi _ _ _ wr=>vi=.int .i64 0∧wr=w1) (fun _ _ _ _ _=>0)
   case round =>
    obtain⟨rfl,cp⟩:=hrel;subst cp;go_wp2_with fail;go_ret;exact⟨none,0,rfl,ZI _ _ _ _,b4.o⟩
   exact⟨rfl,rfl⟩
 subst hv;obtain⟨cj,cv,cf,b9⟩:=Nf.At.of_own HL.o aa;have cn:∀W,w1.grownBy W (some g)→Below w.heap.size w W:=fun W hW=>b4.o.grown hW b4.o.size (by intro k hk;simp only[Zh]at hk;omega)
 have a6:∀W,w1.grownBy W (some g)→W.cell? ⟨w.heap.size,0,none⟩=some (.slice AT tn cT)∧W.cell? ⟨w.heap.size,1,none⟩=some (.slice XA xn xc)∧w.heap.size<W.heap.size:=fun W hW=>by
  have:=bp.o.grown hW (by simp only[QK,Zh];omega);exact⟨this.cell 0 rfl,this.cell 1 rfl,this.lt⟩
 have bt:=hy' cn;have bc:=hy' a6;have bm:=hy' cj;have bl:Hy (w.heap.size≤g∧n≤cap∧cap≤maxLen):=hy' ⟨by omega,cf,b9⟩;have ct:=hy' (zNC f);clear aa cw k1 k2 k3 k4 cn a6 cj cv cf b9 hg;go_loopw [6,7,8,9] (fun vi _ _ _ wr=>∃(t:Nat) (Z:List Int),t≤n∧vi=.int .i64 t∧Z.length=n∧zBq f (n-t) Z=Or.of f l∧Nf.At wr g cap Z∧w1.grownBy wr (some g)) (fun vi _ _ _ _=>n-(intOf vi).toNat)
 case atStart=>exact⟨0,l,ZG _,rfl,HL.o,by rw[J8,←HL.o];rfl,bm.o,zAU _ _⟩
 obtain⟨t,Z,ht,rfl,aw,hit,aj,bh⟩:=hrel
 by_cases hlt:t<n
 rotate_left
 · obtain rfl:t=n:=by omega
   have tI:¬(t:Int)<t:=by omega
   rw[Yo]at hit;have hZ:Z=Or.of f l:=hit;subst hZ;have ak:=aj.own (n:=t) (base:=w.heap.size) aw bl.o.1 bl.o.2.1 bl.o.2.2;have HO:=hy' ak;have dh:=hy' (bt.o wr bh);have dv:=hy' aw;clear hit aj ak bh aw;go_wp2_with fail;go_ret;unfold zDV;rw[dv.o];exact⟨_,_,rfl,HO.o,dh.o⟩
 have tI:(t:Int)<n:=by omega
 obtain⟨x0,R0,rfl⟩:∃x R,Z=x::R:=by
  cases Z with
  | nil=>simp at aw;omega
  | cons x R=>exact⟨x,R,rfl⟩
 have cx:=hy' hit;have c6:=hy' aw;have bn:=hy' aj;have dt:=hy' bh;clear hit aw aj bh;go_wp2_with fail;obtain⟨wo,rfl⟩:∃wo:World,wo=wr:=⟨_,rfl⟩;go_loopw [7,8,9] (fun vi _ _ wr=>∃(i:Nat) (P:List Int) (x:Int) (R:List Int),1≤i∧i≤n∧vi=.int .i64 i∧P.length+1=i∧P.length+1+R.length=n∧P++zBP f x R=zBW f (x0::R0)∧Nf.At wr g cap (P++x::R)∧w1.grownBy wr (some g)) (fun vi _ _ _=>n-(intOf vi).toNat)
 case atStart=>exact⟨1,[],x0,R0,Za _,by omega,rfl,rfl,by have:=c6.o;simp at this ⊢;omega,rfl,bn.o,dt.o⟩
 obtain⟨i,P,x,R,ea,dz,rfl,bb,bi,ag,ae,ax⟩:=hrel
 by_cases hie:i<n
 rotate_left
 · obtain rfl:i=n:=by omega
   have iI:¬(i:Int)<i:=by omega
   obtain rfl:R=[]:=Zz (by omega);have cd:P++[x]=zBW f (x0::R0):=ag;have cb:(P++[x]).length=i:=by simp;omega
   have a1:zBq f (i-(t+1)) (P++[x])=Or.of f l:=by
    have h:=cx.o;rw[show i-t=i-(t+1)+1 by omega]at h;rw[cd];exact h
   have H1:=hy' cb;have H2:=hy' a1;have H3:=hy' ae;have H4:=hy' ax;clear cd cb a1 ae ax ag bb bi;go_wp2_with fail;exact⟨⟨t+1,P++[x],by omega,by first|rfl|go_num,H1.o,H2.o,H3.o,H4.o⟩,by simp[intOf];omega⟩
 have iI:(i:Int)<n:=by omega
 obtain⟨y,R,rfl⟩:∃y R',R=y::R':=by
  cases R with
  | nil=>simp at bi;omega
  | cons y R'=>exact⟨y,R',rfl⟩
 have c1:=ae.cell (zC3 _ _ _);have c2:=ae.cell (zBp P [] R x y);rw[Z2,YV,bb]at c2;have aq:P.length=i-1:=by omega
 rw[aq]at c1;have f1:=ae.fro (i-1);have f2:=ae.fro i;have gl:=ae.lt;have ap:=ae.swap;rw[bb,aq]at ap;obtain⟨b1,b2,b3⟩:=bc.o wr ax;have bk:=Ext.cells b1 b3;have bj:=Ext.cells b2 b3;have cq:=Ext.cells c1 gl;have xc2:=Ext.cells c2 gl;obtain⟨u,hu⟩:∃u,f x=u:=⟨_,rfl⟩;obtain⟨q,hq⟩:∃q,f y=q:=⟨_,rfl⟩
 have C1:=hy' (Ext.call (w:=wr) fun W hW=>by
  have:=az.o x W (bt.o W (zA0 ax (Ss.grown_below hW)));rw[hu]at this;exact this)
 have C2:=hy' (fun (wq:World) (dw:w1.grownBy wq (some g))=>Ext.call (w:=wq) fun W hW=>by
  have:=az.o y W (bt.o W (zA0 dw (Ss.grown_below hW)));rw[hq]at this;exact this)
 have HU:=hy' hu;have HQ:=hy' hq;have ao:=hy' ag;have av:=hy' bb;have bx:=hy' bi;have bw:=hy' ae;have dp:=hy' ax;have j0:(0:Int)≤(i:Int)-1:=by omega
 have j1:(i:Int)-1<n:=by omega
 have jt:((i:Int)-1).toNat=i-1:=by omega
 clear hu hq ag bb bi ae ax ap aq;go_wp2_with fail;refine zAa (by kernel_rfl) (by kernel_rfl) ?_
 repeat (go_big_quiet_step ((go_at_call 43;with_reducible exact C1.o _)))
 refine wpQuiet_nil ?_;intro xw;obtain⟨wx,ck⟩:∃wx,xw.val=wx:=⟨_,rfl⟩;have ai:=xw.below;rw[ck]at ai ⊢;have ah:=zA0 dp.o (Ss.grown_below (row:=some g) ai);have af:=bw.o.below ai;clear bk bj cq xc2 b1 b2 b3 c1 c2 f1 f2 gl ck xw ai;have c2:=af.cell (zBp P [] R x y);rw[Z2,YV,av.o]at c2;have gl:=af.lt;obtain⟨b1,b2,b3⟩:=bc.o wx ah;have bk:=Ext.cells b1 b3;have bj:=Ext.cells b2 b3;have xc2:=Ext.cells c2 gl;have C3:=hy' (C2.o wx ah);have cu:=hy' af;have dc:=hy' ah;have eb:(0:Int)≤(i:Int):=by omega
 clear af ah;go_wp2_with fail;refine zAa (by kernel_rfl) (by kernel_rfl) ?_
 repeat (go_big_quiet_step ((go_at_call 43;with_reducible exact C3.o _)))
 refine wpQuiet_nil ?_;intro xw;obtain⟨wy,cm⟩:∃wy,xw.val=wy:=⟨_,rfl⟩;have ai:=xw.below;rw[cm]at ai ⊢;have ah:=zA0 dc.o (Ss.grown_below (row:=some g) ai);have af:=cu.o.below ai;clear bk bj xc2 b1 b2 b3 c2 gl cm xw ai;have aq:P.length=i-1:=by have:=av.o;omega
 have bo:=hy' ah
 by_cases ap:0<q∧q<u
 · obtain⟨ay,b8⟩:=ap;have ba:q > 0:=ay;have b5:u > q:=b8
   have a8:P++zBP f x (y::R)=(P++[y])++zBP f x R:=by
    rw[zBP,Zo (by rw[HU.o,HQ.o];exact⟨ay,b8⟩)];simp
   have c1:=af.cell (zC3 P (y::R) x);have c2:=af.cell (zBp P [] R x y);rw[Z2,YV,av.o]at c2;rw[aq]at c1;have f1:=af.fro (i-1);have f2:=af.fro i;have gl:=af.lt;have br:=af.swap;rw[av.o,aq]at br;have dx:¬i-1=i:=by omega
   have ec:¬i=i-1:=by omega
   have df:Hy (Nf.At ((wy.setCell ⟨g,i-1,none⟩ (.int .i64 y)).setCell ⟨g,i,none⟩ (.int .i64 x)) g cap ((P++[y])++x::R)):=hy' (by simpa using br);have bg:Hy ((P++[y])++zBP f x R=zBW f (x0::R0)):=hy' (a8.symm.trans ao.o);clear af ah a8 br aq;go_wp2_with fail;go_region;go_wp2;exact⟨⟨i+1,P++[y],x,R,by omega,by omega,by first|rfl|go_num,by have:=av.o;simp;omega,by have:=bx.o;simp at this ⊢;omega,bg.o,df.o,Ss.grown_drew (Ss.grown_set (Ss.grown_set bo.o _ _) _ _)⟩,by simp[intOf];omega⟩
 have a8:P++zBP f x (y::R)=(P++[x])++zBP f y R:=by
  rw[zBP,Zl (by rw[HU.o,HQ.o];exact ap)];simp
 have bg:Hy ((P++[x])++zBP f y R=zBW f (x0::R0)):=hy' (a8.symm.trans ao.o);have b6:Hy (Nf.At wy g cap ((P++[x])++y::R)):=hy' (by simpa using af);clear af ah a8 aq
 by_cases ay:0<q
 · have ba:q > 0:=ay;have b5:¬u > q:=fun h=>ap ⟨ay,h⟩
   clear ap;go_wp2_with fail;exact⟨⟨i+1,P++[x],y,R,by omega,by omega,by first|rfl|go_num,by have:=av.o;simp;omega,by have:=bx.o;simp at this ⊢;omega,bg.o,b6.o,bo.o⟩,by simp[intOf];omega⟩
 have ba:¬q > 0:=ay;clear ap;go_wp2_with fail;exact⟨⟨i+1,P++[x],y,R,by omega,by omega,by first|rfl|go_num,by have:=av.o;simp;omega,by have:=bx.o;simp at this ⊢;omega,bg.o,b6.o,bo.o⟩,by simp[intOf];omega⟩
end
def U.isC (c:Int):Bool:=decide (0≤c∧c≤1114111∧(c<55296∨57343<c))
def zAB (c:Int):Nat:=if U.isC c then (if c<128 then 1 else if c<2048 then 2 else if c<65536 then 3 else 4) else 0
def U.u8 (c:Int):UInt8:=UInt8.ofNat c.toNat
def zAl (c:Int):List UInt8 :=
 if c<128 then [U.u8 c] else if c<2048 then [U.u8 (192+c/64),U.u8 (128+c%64)]
 else if c<65536 then [U.u8 (224+c/4096),U.u8 (128+c/64%64),U.u8 (128+c%64)]
 else [U.u8 (240+c/262144),U.u8 (128+c/4096%64),U.u8 (128+c/64%64),U.u8 (128+c%64)]
def zB7 (l:List UInt8) (i:Nat):Int:=((l.getD i 0).toNat:Int)
def zAd (b:Int):Nat:=if b<128 then 1 else if b<192 then 0 else if b<224 then 2 else if b<240 then 3 else if b<248 then 4 else 0
def zDa:Nat→Int|1=>0|2=>192|3=>224|_=>240
def zAn (l:List UInt8) (n:Nat):Nat→Int|0=>zB7 l 0-zDa n|i+1=>zAn l n i*64+(zB7 l (i+1)-128)
def zND (l:List UInt8) (n:Nat):Prop:=∀j,j<n→1≤j→128≤zB7 l j∧zB7 l j<192
instance (l:List UInt8) (n:Nat):Decidable (zND l n):=by unfold zND;exact inferInstance
def zAz (l:List UInt8):Option (Int × Nat) :=
 if l=[] then none else
 if zAd (zB7 l 0)=0∨l.length<zAd (zB7 l 0) then none else
 if zND l (zAd (zB7 l 0))∧zAB (zAn l (zAd (zB7 l 0)) (zAd (zB7 l 0)-1))=zAd (zB7 l 0)
 then some (zAn l (zAd (zB7 l 0)) (zAd (zB7 l 0)-1),zAd (zB7 l 0)) else none
theorem zBR (l:List UInt8) (i:Nat):0≤zB7 l i∧zB7 l i<256:=by
 unfold zB7;have:=(l.getD i 0).toNat_lt;omega
theorem zB3 (c:Int) (h0:0≤c) (h1:c<256):((U.u8 c).toNat:Int)=c:=by
 unfold U.u8;rw[XF];omega
theorem zDF (b:UInt8) (c:Int) (h:c=(b.toNat:Int)):U.u8 c=b:=by
 subst h;unfold U.u8;simp
theorem U.bv0 (b:UInt8) (t:List UInt8):zB7 (b::t) 0=(b.toNat:Int):=rfl
theorem U.isC_iff (c:Int):U.isC c=true↔(0≤c∧c≤1114111∧(c<55296∨57343<c)):=by unfold U.isC;simp
theorem zJ2 (c:Int):0<zAB c↔U.isC c=true:=by unfold zAB;grind
theorem zMm (c:Int) (h:U.isC c=true):(zAl c).length=zAB c:=by
 unfold zAl zAB;rw[if_pos h];grind
theorem zKp (c:Int):zAB c≤4:=by unfold zAB;grind
theorem zH4 (c:Int) (hc:U.isC c=true) (l:List UInt8):zAz (zAl c++l)=some (c,(zAl c).length):=by
 have h:=(U.isC_iff c).1 hc;have hw:=zMm c hc
 by_cases h1:c<128
 · have e:zAl c=[U.u8 c]:=by unfold zAl;rw[if_pos h1]
   have hb:zB7 ([U.u8 c]++l) 0=c:=zB3 c (by omega) (by omega);have hs:zAd c=1:=by unfold zAd;rw[if_pos h1]
   rw[e]at hw ⊢;unfold zAz;rw[hb,hs,Zl (by simp),Zl (by simp)];have ha:zAn ([U.u8 c]++l) 1 (1-1)=c:=by show zB7 _ 0-0=c;rw[hb];omega
   rw[ha,if_pos ⟨fun j h1 h2=>by omega,by simpa using hw.symm⟩];simp
 by_cases h2:c<2048
 · have e:zAl c=[U.u8 (192+c/64),U.u8 (128+c%64)]:=by unfold zAl;rw[if_neg h1,if_pos h2]
   have hb:zB7 ([U.u8 (192+c/64),U.u8 (128+c%64)]++l) 0=192+c/64:=zB3 _ (by omega) (by omega);have aa:zB7 ([U.u8 (192+c/64),U.u8 (128+c%64)]++l) 1=128+c%64:=zB3 _ (by omega) (by omega);have hs:zAd (192+c/64)=2:=by unfold zAd;rw[if_neg (by omega),if_neg (by omega),if_pos (by omega)]
   rw[e]at hw ⊢;unfold zAz;rw[hb,hs,Zl (by simp),Zl (by simp)];have ha:zAn ([U.u8 (192+c/64),U.u8 (128+c%64)]++l) 2 (2-1)=c:=by show (zB7 _ 0-192)*64+(zB7 _ 1-128)=c;rw[hb,aa];omega
   rw[ha,Zo ⟨fun j h1 h2=>by
    obtain rfl:j=1:=by omega
    rw[aa];omega,by simpa using hw.symm⟩]
   simp
 by_cases h3:c<65536
 · have e:zAl c=[U.u8 (224+c/4096),U.u8 (128+c/64%64),U.u8 (128+c%64)]:=by unfold zAl;rw[if_neg h1,if_neg h2,if_pos h3]
   generalize hL:[U.u8 (224+c/4096),U.u8 (128+c/64%64),U.u8 (128+c%64)]=L at e;have hb:zB7 (L++l) 0=224+c/4096:=by rw[←hL];exact zB3 _ (by omega) (by omega)
   have aa:zB7 (L++l) 1=128+c/64%64:=by rw[←hL];exact zB3 _ (by omega) (by omega)
   have ae:zB7 (L++l) 2=128+c%64:=by rw[←hL];exact zB3 _ (by omega) (by omega)
   have hs:zAd (224+c/4096)=3:=by unfold zAd;rw[if_neg (by omega),if_neg (by omega),if_neg (by omega),if_pos (by omega)]
   have hl:L.length=3:=by rw[←hL];rfl
   rw[e]at hw ⊢;unfold zAz;rw[hb,hs,Zl (fun h=>by have:=Yb List.length h;simp[hl]at this),Zl (by simp[hl])];have ha:zAn (L++l) 3 (3-1)=c:=by show ((zB7 _ 0-224)*64+(zB7 _ 1-128))*64+(zB7 _ 2-128)=c;rw[hb,aa,ae];omega
   rw[ha,Zo ⟨fun j h1 h2=>by
    have hj:j=1∨j=2:=by omega
    rcases hj with rfl|rfl
    · rw[aa];omega
    rw[ae];omega,by rw[←hw,hl]⟩,hl]
 have e:zAl c=[U.u8 (240+c/262144),U.u8 (128+c/4096%64),U.u8 (128+c/64%64),U.u8 (128+c%64)]:=by unfold zAl;rw[if_neg h1,if_neg h2,if_neg h3]
 generalize hL:[U.u8 (240+c/262144),U.u8 (128+c/4096%64),U.u8 (128+c/64%64),U.u8 (128+c%64)]=L at e;have hb:zB7 (L++l) 0=240+c/262144:=by rw[←hL];exact zB3 _ (by omega) (by omega)
 have aa:zB7 (L++l) 1=128+c/4096%64:=by rw[←hL];exact zB3 _ (by omega) (by omega)
 have ae:zB7 (L++l) 2=128+c/64%64:=by rw[←hL];exact zB3 _ (by omega) (by omega)
 have af:zB7 (L++l) 3=128+c%64:=by rw[←hL];exact zB3 _ (by omega) (by omega)
 have hs:zAd (240+c/262144)=4:=by unfold zAd;rw[if_neg (by omega),if_neg (by omega),if_neg (by omega),if_neg (by omega),if_pos (by omega)]
 have hl:L.length=4:=by rw[←hL];rfl
 rw[e]at hw ⊢;unfold zAz;rw[hb,hs,Zl (fun h=>by have:=Yb List.length h;simp[hl]at this),Zl (by simp[hl])]
 have ha:zAn (L++l) 4 (4-1)=c:=by
  show (((zB7 _ 0-240)*64+(zB7 _ 1-128))*64+(zB7 _ 2-128))*64+(zB7 _ 3-128)=c;rw[hb,aa,ae,af];omega
 rw[ha,Zo ⟨fun j h1 h2=>by
  have hj:j=1∨j=2∨j=3:=by omega
  rcases hj with rfl|rfl|rfl
  · rw[aa];omega
  · rw[ae];omega
  rw[af];omega,by rw[←hw,hl]⟩,hl]
theorem zHC (l:List UInt8) (c:Int) (n:Nat) (h:zAz l=some (c,n)):U.isC c=true∧n=zAB c∧∃t,l=zAl c++t:=by
 unfold zAz at h;split at h
 · cases h
 split at h
 · cases h
 split at h
 rotate_left
 · cases h
 rename_i hl hn hh;obtain⟨ht,hw⟩:=hh;simp only[Zh,YE]at h;obtain⟨h1,h2⟩:=h;rw[h2]at hw hn ht;rw[h2,]at h1;rw[h1]at hw;have hc:U.isC c=true:=(zJ2 c).1 (by omega);have hb:=zBR l 0;refine⟨hc,hw.symm,?_⟩;have ag:=hw;unfold zAB at ag;rw[Zo hc]at ag;have ak:=(U.isC_iff c).1 hc;have ah:=h2;unfold zAd at ah;rcases l with _|⟨b0,t0⟩
 · exact absurd rfl hl
 rw[U.bv0]at *;have ai:n=1∨n=2∨n=3∨n=4:=by have:=zKp c;omega
 rcases ai with rfl|rfl|rfl|rfl
 · refine⟨t0,?_⟩;have af:(b0.toNat:Int)-0=c:=h1;unfold zAl;rw[Zo (by grind)];rw[zDF b0 c (by omega)];rfl
 · rcases t0 with _|⟨b1,t1⟩
   · simp at hn
   have aa:=ht 1 (by omega) (by omega);have af:((b0.toNat:Int)-192)*64+((b1.toNat:Int)-128)=c:=h1;change 128≤(b1.toNat:Int)∧(b1.toNat:Int)<192 at aa;refine⟨t1,?_⟩;unfold zAl;rw[Zl (by grind),Zo (by grind)];rw[zDF b0 (192+c/64) (by omega),zDF b1 (128+c%64) (by omega)];rfl
 · rcases t0 with _|⟨b1,t1⟩
   · simp at hn
   rcases t1 with _|⟨b2,t2⟩
   · simp at hn
   have aa:=ht 1 (by omega) (by omega);have ae:=ht 2 (by omega) (by omega);have af:(((b0.toNat:Int)-224)*64+((b1.toNat:Int)-128))*64+((b2.toNat:Int)-128)=c:=h1;change 128≤(b1.toNat:Int)∧(b1.toNat:Int)<192 at aa;change 128≤(b2.toNat:Int)∧(b2.toNat:Int)<192 at ae;refine⟨t2,?_⟩;unfold zAl;rw[Zl (by grind),Zl (by grind),Zo (by grind)];rw[zDF b0 (224+c/4096) (by omega),zDF b1 (128+c/64%64) (by omega),zDF b2 (128+c%64) (by omega)];rfl
 rcases t0 with _|⟨b1,t1⟩
 · simp at hn
 rcases t1 with _|⟨b2,t2⟩
 · simp at hn
 rcases t2 with _|⟨b3,t3⟩
 · simp at hn
 have aa:=ht 1 (by omega) (by omega);have ae:=ht 2 (by omega) (by omega);have aj:=ht 3 (by omega) (by omega);have af:((((b0.toNat:Int)-240)*64+((b1.toNat:Int)-128))*64+((b2.toNat:Int)-128))*64+((b3.toNat:Int)-128)=c:=h1;change 128≤(b1.toNat:Int)∧(b1.toNat:Int)<192 at aa;change 128≤(b2.toNat:Int)∧(b2.toNat:Int)<192 at ae;change 128≤(b3.toNat:Int)∧(b3.toNat:Int)<192 at aj;refine⟨t3,?_⟩;unfold zAl;rw[Zl (by grind),Zl (by grind),Zl (by grind)];rw[zDF b0 (240+c/262144) (by omega),zDF b1 (128+c/4096%64) (by omega),zDF b2 (128+c/64%64) (by omega),zDF b3 (128+c%64) (by omega)];rfl
section
open Go.RowKit
def U.row:Array Value := #[.int .u8 0,.int .u8 127,.int .i32 0,.int .u8 192,.int .u8 31,.int .i32 128,.int .u8 224,.int .u8 15,.int .i32 2048,.int .u8 240,.int .u8 7,.int .i32 65536]
def Heads (w:World):Prop:=∃t fr,w.heap[0]?=some (.cells U.row t fr)
theorem Heads.lt {w:World} (h:Heads w):0<w.heap.size:=by
 obtain⟨t,fr,h⟩:=h;rcases ZY 0 w.heap.size with aa|hge
 · exact aa
 rw[YU hge]at h;cases h
theorem Heads.below {w w':World} {B:Nat} (h:Heads w) (hb:Below B w w') (hB:0<B):Heads w':=by
 obtain⟨t,fr,h⟩:=h;exact⟨t,fr,(hb.block _ hB).trans h⟩
theorem Heads.next {w w':World} (h:Heads w) (hb:Below w.heap.size w w'):Heads w':=h.below hb h.lt
theorem Heads.cell {w:World} (h:Heads w) (i:Nat):w.cell? ⟨0,i,none⟩=U.row[i]?:=by
 obtain⟨t,fr,h⟩:=h;simp[World.cell?,h]
theorem U.is_any (c:Int) (w:World) (h1 : -2147483648≤c) (h2:c≤2147483647) :
 Calls prog 61 #[.int .i32 c] w fun e w'=>e=.returned (.bool (U.isC c))∧w=w':=by
 have hd:∀x:Bool,(x=true↔(0≤c∧c≤1114111∧(c<55296∨57343<c)))→U.isC c=x:=by
  intro x hx;rw[Z9,U.isC_iff,hx]
 have HD:=hy' hd;clear hd;go_enter func61,ntmps61;go_wp2
 all_goals
  go_ret;refine⟨zBb (HD.o _ ?_).symm,rfl⟩;simp
  try omega
theorem zSx:∀n:Fin 256,bits BinOp.andNot IntKind.u8 ((n.val:Nat):Int) 127=(if ((n.val:Nat):Int)<128 then 0 else 128):=by decide +kernel
theorem zSy:∀n:Fin 256,(bits BinOp.andNot IntKind.u8 ((n.val:Nat):Int) 31=192)↔(192≤((n.val:Nat):Int)∧((n.val:Nat):Int)<224):=by decide +kernel
theorem zSz:∀n:Fin 256,(bits BinOp.andNot IntKind.u8 ((n.val:Nat):Int) 15=224)↔(224≤((n.val:Nat):Int)∧((n.val:Nat):Int)<240):=by decide +kernel
theorem zSA:∀n:Fin 256,(bits BinOp.andNot IntKind.u8 ((n.val:Nat):Int) 7=240)↔(240≤((n.val:Nat):Int)∧((n.val:Nat):Int)<248):=by decide +kernel
theorem zSB (b:Int) (h1:0≤b) (h2:b<256):(bits BinOp.andNot IntKind.u8 b 127 == 0)=decide (b<128)∧(bits BinOp.andNot IntKind.u8 b 31 == 192)=decide (192≤b∧b<224) ∧
 (bits BinOp.andNot IntKind.u8 b 15 == 224)=decide (224≤b∧b<240)∧(bits BinOp.andNot IntKind.u8 b 7 == 240)=decide (240≤b∧b<248):=by
 obtain⟨n,rfl⟩:=YO h1;have hn:n<256:=by omega
 refine⟨?_,?_,?_,?_⟩
 · have:=zSx ⟨n,hn⟩;simp only[]at this;rw[this]
   by_cases h:(n:Int)<128 <;> simp[h]
 · rw[Z9,YP,Zp];exact zSy ⟨n,hn⟩
 · rw[Z9,YP,Zp];exact zSz ⟨n,hn⟩
 rw[Z9,YP,Zp];exact zSA ⟨n,hn⟩
theorem zD0 (b:Int) (w:World) (h1:0≤b) (h2:b<256) (hH:Heads w) :
 Calls prog 86 #[.int .u8 b] w fun e w'=>e=.returned (.int .i64 (zAd b))∧Below w.heap.size w w':=by
 obtain⟨e0,e1,e2,e3⟩:=zSB b h1 h2;obtain⟨t,fr,hg⟩:=hH;have i0:∀w,(Instr.index 144 (.agg U.row) (.int .i64 0)).run prog w=.ok (.agg #[.int .u8 0,.int .u8 127,.int .i32 0]) w:=fun _=>by kernel_rfl
 have i1:∀w,(Instr.index 144 (.agg U.row) (.int .i64 1)).run prog w=.ok (.agg #[.int .u8 192,.int .u8 31,.int .i32 128]) w:=fun _=>by kernel_rfl
 have i2:∀w,(Instr.index 144 (.agg U.row) (.int .i64 2)).run prog w=.ok (.agg #[.int .u8 224,.int .u8 15,.int .i32 2048]) w:=fun _=>by kernel_rfl
 have i3:∀w,(Instr.index 144 (.agg U.row) (.int .i64 3)).run prog w=.ok (.agg #[.int .u8 240,.int .u8 7,.int .i32 65536]) w:=fun _=>by kernel_rfl
 go_enter func86,ntmps86;go_wp2_with (refine wpList_load_row rfl _ _ rfl 0 rfl t _ fr _ hg underlying144 rfl (by kernel_rfl) ?_);clear hg;go_loopw [6] (fun i wr=>Below w.heap.size w wr∧(i=.int .i64 0∨(i=.int .i64 1∧128≤b)∨(i=.int .i64 2∧128≤b∧¬(192≤b∧b<224))∨(i=.int .i64 3∧128≤b∧¬(192≤b∧b<240))∨(i=.int .i64 4∧128≤b∧¬(192≤b∧b<248)))) (fun i _=>4-(intOf i).toNat)
 case atStart=>exact⟨Zc _ _,.inl rfl⟩
 obtain⟨hb,hr⟩:=hrel;have ae:=hb.size;rcases hr with rfl|⟨rfl,hr⟩|⟨rfl,hr,aa⟩|⟨rfl,hr,aa⟩|⟨rfl,hr,aa⟩
 · by_cases hlt:b<128
   · go_wp2;go_ret;exact⟨zBO (by unfold zAd;rw[if_pos hlt];rfl),hb.alloc ae _⟩
   go_wp2;exact⟨⟨hb.alloc ae _,.inr (.inl ⟨rfl,by omega⟩)⟩,by simp[intOf]⟩
 · by_cases hlt:192≤b∧b<224
   · have hd:decide (192≤b∧b<224)=true:=Zr hlt;obtain⟨_,_⟩:=hlt;go_wp2;go_ret;exact⟨zBO (by unfold zAd;rw[if_neg (by omega),if_neg (by omega),if_pos (by omega)];rfl),hb.alloc ae _⟩
   have hd:decide (192≤b∧b<224)=false:=Zu hlt;rw[hd]at e1;have HL:=hy' hlt;clear hd hlt;go_wp2;exact⟨⟨hb.alloc ae _,.inr (.inr (.inl ⟨rfl,hr,HL.o⟩))⟩,by simp[intOf]⟩
 · by_cases hlt:224≤b∧b<240
   · have hd:decide (224≤b∧b<240)=true:=Zr hlt;obtain⟨_,_⟩:=hlt;clear aa;go_wp2;go_ret;exact⟨zBO (by unfold zAd;rw[if_neg (by omega),if_neg (by omega),if_neg (by omega),if_pos (by omega)];rfl),hb.alloc ae _⟩
   have hd:decide (224≤b∧b<240)=false:=Zu hlt;rw[hd]at e2;have HL:=hy' hlt;have HR:=hy' aa;clear hd hlt aa;go_wp2;exact⟨⟨hb.alloc ae _,.inr (.inr (.inr (.inl ⟨rfl,hr,by have h1:=HL.o;have h2:=HR.o;omega⟩)))⟩,by simp[intOf]⟩
 · by_cases hlt:240≤b∧b<248
   · have hd:decide (240≤b∧b<248)=true:=Zr hlt;obtain⟨_,_⟩:=hlt;clear aa;go_wp2;go_ret;exact⟨zBO (by unfold zAd;rw[if_neg (by omega),if_neg (by omega),if_neg (by omega),if_neg (by omega),if_pos (by omega)];rfl),hb.alloc ae _⟩
   have hd:decide (240≤b∧b<248)=false:=Zu hlt;rw[hd]at e3;have HL:=hy' hlt;have HR:=hy' aa;clear hd hlt aa;go_wp2;exact⟨⟨hb.alloc ae _,.inr (.inr (.inr (.inr ⟨rfl,hr,by have h1:=HL.o;have h2:=HR.o;omega⟩)))⟩,by simp[intOf]⟩
 have HR:=hy' aa;clear aa;go_wp2;go_ret;refine⟨zBO ?_,hb⟩;have h1:=HR.o;unfold zAd
 by_cases hb:b<192
 · rw[Zl (by omega),Zo hb];rfl
 rw[Zl (by omega),Zl (by omega),Zl (by omega),Zl (by omega),Zl (by omega)];rfl
theorem zAW (c:Int) (w:World) (h1 : -2147483648≤c) (h2:c≤2147483647) (hH:Heads w) :
 Calls prog 87 #[.int .i32 c] w fun e w'=>e=.returned (.int .i64 (zAB c))∧w=w':=by
 have c1:=hH.cell 5;have c2:=hH.cell 8;have c3:=hH.cell 11;change _=some (Value.int .i32 128) at c1;change _=some (Value.int .i32 2048) at c2;change _=some (Value.int .i32 65536) at c3;clear hH
 by_cases hc:U.isC c=true
 rotate_left
 · have aa:U.isC c=false:=by simpa using hc
   have HC:=hy' hc;clear hc;go_enter func87,ntmps87;go_wp2_with (go_at_call 61;refine (U.is_any _ _ h1 h2).mono ?_;rintro e w' ⟨rfl,rfl⟩);go_ret;exact⟨zBO (by unfold zAB;rw[if_neg HC.o];rfl),rfl⟩
 have HC:=hy' hc
 have hw:∀n:Nat,n=(if c<128 then 1 else if c<2048 then 2 else if c<65536 then 3 else 4)→zAB c=n:=by
  intro n hn;unfold zAB;rw[Zo HC.o,hn]
 have HW:=hy' hw;clear hw;go_enter func87,ntmps87;go_wp2_with (go_at_call 61;refine (U.is_any _ _ h1 h2).mono ?_;rintro e w' ⟨rfl,rfl⟩);go_loop [3] (fun n=>n=.int .i64 1∨(n=.int .i64 2∧128≤c)∨(n=.int .i64 3∧2048≤c)∨(n=.int .i64 4∧65536≤c)) (fun n=>5-(intOf n).toNat)
 case atStart=>exact .inl rfl
 rcases hrel with rfl|⟨rfl,hr⟩|⟨rfl,hr⟩|⟨rfl,hr⟩
 · by_cases hlt:128≤c
   · go_wp2;exact⟨.inr (.inl ⟨rfl,hlt⟩),by simp[intOf]⟩
   go_wp2;go_ret;exact⟨zBO (by rw[HW.o 1 (by rw[Zo (by omega)])];rfl),rfl⟩
 · by_cases hlt:2048≤c
   · go_wp2;exact⟨.inr (.inr (.inl ⟨rfl,hlt⟩)),by simp[intOf]⟩
   go_wp2;go_ret;exact⟨zBO (by rw[HW.o 2 (by rw[Zl (by omega),Zo (by omega)])];rfl),rfl⟩
 · by_cases hlt:65536≤c
   · go_wp2;exact⟨.inr (.inr (.inr ⟨rfl,hlt⟩)),by simp[intOf]⟩
   go_wp2;go_ret;exact⟨zBO (by rw[HW.o 3 (by rw[Zl (by omega),Zl (by omega),Zo (by omega)])];rfl),rfl⟩
 go_wp2;go_ret;exact⟨zBO (by rw[HW.o 4 (by rw[Zl (by omega),Zl (by omega),Zl (by omega)])];rfl),rfl⟩
end
end Go.Proofs.YtddbccflcekdpaaGreatDoor
