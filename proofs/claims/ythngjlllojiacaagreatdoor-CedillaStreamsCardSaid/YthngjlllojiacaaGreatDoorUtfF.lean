/- The document's order of marks (layer 16), by walking its text: exchanging neighbours. -/
import Derived.Test.YthngjlllojiacaaGreatDoorMdRef4
import Derived.Test.YthngjlllojiacaaGreatDoorUtfD
set_option maxRecDepth 100000
set_option maxHeartbeats 8000000
set_option linter.unusedVariables false
set_option linter.unusedSimpArgs false
namespace Go.Proofs.YthngjlllojiacaaGreatDoor
open Go.Proofs.Tryz
open Go.RowKit
def Nf.At (w:World) (g sz:Nat) (Z:List Int):Prop:=∃R:List Value,Z.length+R.length=sz∧Rw.At w g 3 (Z.map (Value.int .i64)++R)
theorem Nf.At.cell {w:World} {g sz:Nat} {Z:List Int} (h:Nf.At w g sz Z) {i:Nat} {x:Int} (hx:Z[i]?=some x):w.cell? ⟨g,i,none⟩=some (.int .i64 x):=by
 obtain⟨R,hs,h⟩:=h;refine Rw.At.cell h i ?_;rw[ZS (by rw[Ze];exact (List.getElem?_eq_some_iff.1 hx).1),Zw,hx];rfl
theorem Nf.At.fro {w:World} {g sz:Nat} {Z:List Int} (h:Nf.At w g sz Z) (i:Nat):w.frozen? ⟨g,i,none⟩=false:=by
 obtain⟨R,hs,h⟩:=h;exact Rw.At.frozen h i
theorem Nf.At.lt {w:World} {g sz:Nat} {Z:List Int} (h:Nf.At w g sz Z):g<w.heap.size:=by
 obtain⟨R,hs,h⟩:=h;exact Rw.At.lt h
theorem Nf.At.set {w:World} {g sz:Nat} {Z:List Int} (h:Nf.At w g sz Z) (i:Nat) (hi:i<Z.length) (x:Int):Nf.At (w.setCell ⟨g,i,none⟩ (.int .i64 x)) g sz (Z.set i x):=by
 obtain⟨R,hs,h⟩:=h;refine⟨R,by rw[Y3];exact hs,?_⟩;rw[Qz,←Jq _ _ (by rw[Ze];exact hi)];exact Rw.At.set h i _
theorem Nf.At.swap {w:World} {g sz:Nat} {P Q:List Int} {x y:Int} (h:Nf.At w g sz (P++x::y::Q)):Nf.At ((w.setCell ⟨g,P.length,none⟩ (.int .i64 y)).setCell ⟨g,P.length+1,none⟩ (.int .i64 x)) g sz (P++y::x::Q):=by
 have:=(h.set P.length (by simp) y).set (P.length+1) (by simp) x;have e:=zKc P [] Q x y;simp only[ZH,Z0,YT]at e;rw[e]at this;exact this
theorem Nf.At.below {w w':World} {g sz:Nat} {Z:List Int} (h:Nf.At w g sz Z) (hb:Below w.heap.size w w'):Nf.At w' g sz Z:=by
 obtain⟨R,hs,h⟩:=h;exact⟨R,hs,Rw.At.below h hb⟩
theorem Nf.At.of_own {w:World} {base g n cap:Nat} {l:List Int} (hl:l.length=n) (h:w.ownsRow base 3 1 (.slice (some ⟨g,0,none⟩) n cap) n (l.map (Value.int .i64))):Nf.At w g cap l∧base≤g∧n≤cap∧cap≤maxLen:=by
 rcases h.2 with ⟨hv,_⟩|⟨g',ae,aa,hv,hg,hb,h1,h2,h3,h4⟩
 · cases hv
 simp only[Z2,Zg,YR,YH,Qr]at hv;obtain⟨rfl,rfl⟩:=hv;refine⟨⟨aa.toList.drop n,?_,?_⟩,hg,h1,h2⟩
 · have e:aa.toList.length=aa.size:=XW;rw[ZM,e,h3,hl];omega
 unfold Rw.At;rw[Xi]at h4;rw[←h4,ZE];simpa using hb
theorem Nf.At.own {w:World} {base g n cap:Nat} {Z:List Int} (h:Nf.At w g cap Z) (hl:Z.length=n) (hb:base≤g) (hc:n≤cap) (hm:cap≤maxLen):w.ownsRow base 3 1 (.slice (some ⟨g,0,none⟩) n cap) n (Z.map (Value.int .i64)):=by
 obtain⟨R,hs,ha⟩:=h;refine⟨by rw[Ze,hl,Xi],.inr ⟨g,cap,_,rfl,hb,ha,hc,hm,?_,?_⟩⟩
 · simp;omega
 rw[Xi];simp[hl]
def zBJ (l:List Int) (w:World) (e:Ending) (w':World):Prop :=
 ∃A c,e=.returned (.slice A l.length c)∧w'.ownsRow w.heap.size 3 1 (.slice A l.length c) l.length (l.map (Value.int .i64))∧Below w.heap.size w w'
theorem Nf.go_len (f:Int→Int):∀(R:List Int) (x:Int),(zBM f x R).length=R.length+1
 | [],x=>rfl
 | y::R,x=>by
   unfold zBM;split <;> simp[Nf.go_len f R]
theorem zN8 (f:Int→Int):∀(n:Nat) (l:List Int),(zBn f n l).length=l.length:=fun n l=>(zBS f n l).length
theorem zOY (v:Value) (T:List Rw.Row) (E:List Int) (A:Option Addr) (n c:Nat) (l:List Int) (w:World) (cf:T.length≤1000000) (h:Md.Doc w v T E) (hl:l.length=n) (hn:n≤100000) (hA:Sl w w.heap.size A (l.map (Value.int .i64))) :
 Calls prog 37 #[v,.slice A n c] w (zBJ (Or.of (Md.cls T) l) w):=by
 obtain⟨i0,dn,cp,cu,c7⟩:=Z7 zFy;have hd:=h;obtain⟨AT,cT,XA,xc,rfl,_⟩:=hd;obtain⟨tn,cd⟩:∃k,T.length=k:=⟨_,rfl⟩;obtain⟨xn,hxn⟩:∃k,E.length=k:=⟨_,rfl⟩;rw[cd,hxn]at h ⊢;have au:∀d W,Below w.heap.size w W→Calls prog 71 #[zBd AT tn cT XA xn xc,.int .i64 d] W fun e w'=>e=.returned (.int .i64 (Md.cls T d))∧Below W.heap.size W w':=fun d W hW=>zFN _ T E d W cf (h.below hW)
 obtain⟨f,hf⟩:∃f,Md.cls T=f:=⟨_,rfl⟩;rw[hf]at au ⊢;unfold zBd at *;obtain⟨wa,a6⟩:∃wa,(w.alloc (.cells #[.slice AT tn cT,.slice XA xn xc] 38)).alloc (.cells #[] 3)=wa:=⟨_,rfl⟩;have bm:Below w.heap.size w wa:=by rw[←a6];exact ((Zc _ _).alloc (Za _) _).alloc (by simp) _
 have bu:Rw.At wa w.heap.size 38 [.slice AT tn cT,.slice XA xn xc]:=by
  rw[←a6];exact (Rw.At.new w 38 [.slice AT tn cT,.slice XA xn xc]).alloc _
 have bf:wa.ownsRow (w.heap.size+1) 3 1 (.slice (some ⟨w.heap.size+1,0,none⟩) 0 0) 0 []:=by
  have:=zDk (w.alloc (.cells #[.slice AT tn cT,.slice XA xn xc] 38)) 3 (by decide);rw[ZK]at this;rw[←a6];exact this
 have c6:w.heap.size+1≤wa.heap.size:=bu.lt;have dl:=hy' a6;have dh:=hy' bm;have cx:=hy' bu;have br:=hy' bf;have HL:=hy' hl;have cq:=hy' (hA.below bm (Za _));have a1:=hy' au;have cg:(l.map (Value.int .i64)).length=n*1:=by rw[Ze,hl];omega
 have b9:∀u∈l.map (Value.int .i64),u.oneCell'=true:=zF0 .i64 _;have dk:=hy' b9;have di:=hy' cg;clear a6 bm bu bf hl hA au h cd hxn cf hf cg b9;go_enter func37,ntmps37;go_wp2_with (first|(at_builtin;(rw[dl.o]);refine zAd _ rfl _ _ _ rfl (w.heap.size+1) 3 i0 _ 1 8 underlying36 dn cp cu c7 rfl (by omega) _ 0 _ rfl br.o _ A n c (l.map (Value.int .i64)) rfl di.o cq.o dk.o (by simp only[maxLen];omega) (by omega) c6 ?_;intro v1 w1 aa bw ah;have ar:=hy' aa;have bj:=hy' (dh.o.trans (bw.mono (ZW _)));have bq:=hy' (cx.o.below' bw (ZN _));clear aa bw ah)|fail);rw[ZH,Z1]at ar;have aa:=ar.o;rcases aa.2 with ⟨hv,h0⟩|⟨g,cap,ea,hv,hg,du,k1,k2,k3,k4⟩
 · subst hv;obtain rfl:n=0:=h0;have dv:l=[]:=ZD HL.o;subst dv;clear aa;go_loopw [6,7,8,9] (fun vi _ _ _ wr=>vi=.int .i64 0∧wr=w1) (fun _ _ _ _ _=>0)
   case round =>
    obtain⟨rfl,cw⟩:=hrel;subst cw;go_wp2_with fail;go_ret;exact⟨none,0,rfl,ZI _ _ _ _,bj.o⟩
   exact⟨rfl,rfl⟩
 subst hv;obtain⟨cm,dw,cc,b8⟩:=Nf.At.of_own HL.o aa;have b7:∀W,w1.grownBy W (some g)→Below w.heap.size w W:=fun W hW=>bj.o.grown hW bj.o.size (by intro k hk;simp only[Zg]at hk;omega)
 have bb:∀W,w1.grownBy W (some g)→W.cell? ⟨w.heap.size,0,none⟩=some (.slice AT tn cT)∧W.cell? ⟨w.heap.size,1,none⟩=some (.slice XA xn xc)∧w.heap.size<W.heap.size:=fun W hW=>by
  have:=bq.o.grown hW (by simp only[Qv,Zg];omega);exact⟨this.cell 0 rfl,this.cell 1 rfl,this.lt⟩
 have bp:=hy' b7;have bc:=hy' bb;have bo:=hy' cm;have b5:Hy (w.heap.size≤g∧n≤cap∧cap≤maxLen):=hy' ⟨by omega,cc,b8⟩;have c8:=hy' (zN8 f);clear aa du k1 k2 k3 k4 b7 bb cm dw cc b8 hg;go_loopw [6,7,8,9] (fun vi _ _ _ wr=>∃(t:Nat) (Z:List Int),t≤n∧vi=.int .i64 t∧Z.length=n∧zBn f (n-t) Z=Or.of f l∧Nf.At wr g cap Z∧w1.grownBy wr (some g)) (fun vi _ _ _ _=>n-(intOf vi).toNat)
 case atStart=>exact⟨0,l,ZG _,rfl,HL.o,by rw[JW,←HL.o];rfl,bo.o,zAO _ _⟩
 obtain⟨t,Z,ht,rfl,ay,hit,aj,bh⟩:=hrel
 by_cases hlt:t<n
 rotate_left
 · obtain rfl:t=n:=by omega
   have tI:¬(t:Int)<t:=by omega
   rw[Ye]at hit;have hZ:Z=Or.of f l:=hit;subst hZ;have ak:=aj.own (n:=t) (base:=w.heap.size) ay b5.o.1 b5.o.2.1 b5.o.2.2;have HO:=hy' ak;have dr:=hy' (bp.o wr bh);have ct:=hy' ay;clear hit aj ak bh ay;go_wp2_with fail;go_ret;unfold zBJ;rw[ct.o];exact⟨_,_,rfl,HO.o,dr.o⟩
 have tI:(t:Int)<n:=by omega
 obtain⟨x0,R0,rfl⟩:∃x R,Z=x::R:=by
  cases Z with
  | nil=>simp at ay;omega
  | cons x R=>exact⟨x,R,rfl⟩
 have cr:=hy' hit;have df:=hy' ay;have bk:=hy' aj;have cy:=hy' bh;clear hit ay aj bh;go_wp2_with fail;obtain⟨wo,rfl⟩:∃wo:World,wo=wr:=⟨_,rfl⟩;go_loopw [7,8,9] (fun vi _ _ wr=>∃(i:Nat) (P:List Int) (x:Int) (R:List Int),1≤i∧i≤n∧vi=.int .i64 i∧P.length+1=i∧P.length+1+R.length=n∧P++zBM f x R=zBR f (x0::R0)∧Nf.At wr g cap (P++x::R)∧w1.grownBy wr (some g)) (fun vi _ _ _=>n-(intOf vi).toNat)
 case atStart=>exact⟨1,[],x0,R0,Za _,by omega,rfl,rfl,by have:=df.o;simp at this ⊢;omega,rfl,bk.o,cy.o⟩
 obtain⟨i,P,x,R,ec,dz,rfl,az,bi,af,ae,ax⟩:=hrel
 by_cases hie:i<n
 rotate_left
 · obtain rfl:i=n:=by omega
   have iI:¬(i:Int)<i:=by omega
   obtain rfl:R=[]:=ZD (by omega);have cb:P++[x]=zBR f (x0::R0):=af;have ch:(P++[x]).length=i:=by simp;omega
   have ba:zBn f (i-(t+1)) (P++[x])=Or.of f l:=by
    have h:=cr.o;rw[show i-t=i-(t+1)+1 by omega]at h;rw[cb];exact h
   have H1:=hy' ch;have H2:=hy' ba;have H3:=hy' ae;have H4:=hy' ax;clear cb ch ba ae ax af az bi;go_wp2_with fail;exact⟨⟨t+1,P++[x],by omega,by first|rfl|go_num,H1.o,H2.o,H3.o,H4.o⟩,by simp[intOf];omega⟩
 have iI:(i:Int)<n:=by omega
 obtain⟨y,R,rfl⟩:∃y R',R=y::R':=by
  cases R with
  | nil=>simp at bi;omega
  | cons y R'=>exact⟨y,R',rfl⟩
 have c1:=ae.cell (zBY _ _ _);have c2:=ae.cell (zBm P [] R x y);rw[Z0,YT,az]at c2;have ao:P.length=i-1:=by omega
 rw[ao]at c1;have f1:=ae.fro (i-1);have f2:=ae.fro i;have gl:=ae.lt;have ap:=ae.swap;rw[az,ao]at ap;obtain⟨b1,b2,b3⟩:=bc.o wr ax;have bt:=Ext.cells b1 b3;have bs:=Ext.cells b2 b3;have cv:=Ext.cells c1 gl;have xc2:=Ext.cells c2 gl;obtain⟨u,hu⟩:∃u,f x=u:=⟨_,rfl⟩;obtain⟨q,hq⟩:∃q,f y=q:=⟨_,rfl⟩
 have C1:=hy' (Ext.call (w:=wr) fun W hW=>by
  have:=a1.o x W (bp.o W (zA0 ax (Ss.grown_below hW)));rw[hu]at this;exact this)
 have C2:=hy' (fun (wq:World) (dm:w1.grownBy wq (some g))=>Ext.call (w:=wq) fun W hW=>by
  have:=a1.o y W (bp.o W (zA0 dm (Ss.grown_below hW)));rw[hq]at this;exact this)
 have HU:=hy' hu;have HQ:=hy' hq;have aq:=hy' af;have av:=hy' az;have bz:=hy' bi;have bn:=hy' ae;have dt:=hy' ax;have j0:(0:Int)≤(i:Int)-1:=by omega
 have j1:(i:Int)-1<n:=by omega
 have jt:((i:Int)-1).toNat=i-1:=by omega
 clear hu hq af az bi ae ax ap ao;go_wp2_with fail;refine zA7 (by kernel_rfl) (by kernel_rfl) ?_
 repeat (go_big_quiet_step ((go_at_call 71;with_reducible exact C1.o _)))
 refine wpQuiet_nil ?_;intro xw;obtain⟨wx,ck⟩:∃wx,xw.val=wx:=⟨_,rfl⟩;have ai:=xw.below;rw[ck]at ai ⊢;have ah:=zA0 dt.o (Ss.grown_below (row:=some g) ai);have ag:=bn.o.below ai;clear bt bs cv xc2 b1 b2 b3 c1 c2 f1 f2 gl ck xw ai;have c2:=ag.cell (zBm P [] R x y);rw[Z0,YT,av.o]at c2;have gl:=ag.lt;obtain⟨b1,b2,b3⟩:=bc.o wx ah;have bt:=Ext.cells b1 b3;have bs:=Ext.cells b2 b3;have xc2:=Ext.cells c2 gl;have C3:=hy' (C2.o wx ah);have cz:=hy' ag;have dc:=hy' ah;have dy:(0:Int)≤(i:Int):=by omega
 clear ag ah;go_wp2_with fail;refine zA7 (by kernel_rfl) (by kernel_rfl) ?_
 repeat (go_big_quiet_step ((go_at_call 71;with_reducible exact C3.o _)))
 refine wpQuiet_nil ?_;intro xw;obtain⟨wy,cn⟩:∃wy,xw.val=wy:=⟨_,rfl⟩;have ai:=xw.below;rw[cn]at ai ⊢;have ah:=zA0 dc.o (Ss.grown_below (row:=some g) ai);have ag:=cz.o.below ai;clear bt bs xc2 b1 b2 b3 c2 gl cn xw ai;have ao:P.length=i-1:=by have:=av.o;omega
 have bl:=hy' ah
 by_cases ap:0<q∧q<u
 · obtain⟨aw,b6⟩:=ap;have a7:q > 0:=aw;have b4:u > q:=b6
   have a8:P++zBM f x (y::R)=(P++[y])++zBM f x R:=by
    rw[zBM,Zl (by rw[HU.o,HQ.o];exact⟨aw,b6⟩)];simp
   have c1:=ag.cell (zBY P (y::R) x);have c2:=ag.cell (zBm P [] R x y);rw[Z0,YT,av.o]at c2;rw[ao]at c1;have f1:=ag.fro (i-1);have f2:=ag.fro i;have gl:=ag.lt;have bx:=ag.swap;rw[av.o,ao]at bx;have dx:¬i-1=i:=by omega
   have eb:¬i=i-1:=by omega
   have dp:Hy (Nf.At ((wy.setCell ⟨g,i-1,none⟩ (.int .i64 y)).setCell ⟨g,i,none⟩ (.int .i64 x)) g cap ((P++[y])++x::R)):=hy' (by simpa using bx);have bg:Hy ((P++[y])++zBM f x R=zBR f (x0::R0)):=hy' (a8.symm.trans aq.o);clear ag ah a8 bx ao;go_wp2_with fail;go_region;go_wp2;exact⟨⟨i+1,P++[y],x,R,by omega,by omega,by first|rfl|go_num,by have:=av.o;simp;omega,by have:=bz.o;simp at this ⊢;omega,bg.o,dp.o,Ss.grown_drew (Ss.grown_set (Ss.grown_set bl.o _ _) _ _)⟩,by simp[intOf];omega⟩
 have a8:P++zBM f x (y::R)=(P++[x])++zBM f y R:=by
  rw[zBM,Zj (by rw[HU.o,HQ.o];exact ap)];simp
 have bg:Hy ((P++[x])++zBM f y R=zBR f (x0::R0)):=hy' (a8.symm.trans aq.o);have cj:Hy (Nf.At wy g cap ((P++[x])++y::R)):=hy' (by simpa using ag);clear ag ah a8 ao
 by_cases aw:0<q
 · have a7:q > 0:=aw;have b4:¬u > q:=fun h=>ap ⟨aw,h⟩
   clear ap;go_wp2_with fail;exact⟨⟨i+1,P++[x],y,R,by omega,by omega,by first|rfl|go_num,by have:=av.o;simp;omega,by have:=bz.o;simp at this ⊢;omega,bg.o,cj.o,bl.o⟩,by simp[intOf];omega⟩
 have a7:¬q > 0:=aw;clear ap;go_wp2_with fail;exact⟨⟨i+1,P++[x],y,R,by omega,by omega,by first|rfl|go_num,by have:=av.o;simp;omega,by have:=bz.o;simp at this ⊢;omega,bg.o,cj.o,bl.o⟩,by simp[intOf];omega⟩
def RetOwn2 (el:TypeId) (k:IntKind) (l:List Int) (n:Int) (w:World) (e:Ending) (w':World):Prop :=
 ∃A c,e=.returned (.tuple #[.slice A l.length c,.int .i64 n])∧w'.ownsRow w.heap.size el 1 (.slice A l.length c) l.length (l.map (Value.int k))∧Below w.heap.size w w'
theorem RetOwn2.mk {el:TypeId} {k:IntKind} {l:List Int} {n:Int} {w w':World} {v:Value} {m:Nat} {xs:List Value} (h:w'.ownsRow w.heap.size el 1 v m xs) (hm:m=l.length) (hx:xs=l.map (Value.int k)) (hb:Below w.heap.size w w') :
 RetOwn2 el k l n w (.returned (.tuple #[v,.int .i64 n])) w':=by
 subst hm hx;obtain⟨A,c,rfl⟩:=zA3 h;exact⟨A,c,rfl,h,hb⟩
def zO9 (r:List UInt8):Int:=if r=[] then 0 else 6
def zJQ (cs:List Int) (r:List UInt8):List Int:=if r=[] then cs else []
theorem zIy (a:UInt8) (r:List UInt8):zO9 (a::r)=6:=rfl
theorem zIz (cs:List Int) (a:UInt8) (r:List UInt8):zJQ cs (a::r)=[]:=rfl
theorem zHf (s:ByteArray) (w:World) (hs:s.size≤1000000000000) (hH:Heads w) (cs:List Int) (r:List UInt8) (hd:zKa s.data.toList cs r) :
 Calls prog 47 #[.string s] w (RetOwn2 21 .i32 (zJQ cs r) (zO9 r) w):=by
 obtain⟨d1,d2,d3⟩:=hd;have hlen:s.size=(zAx cs).length+r.length:=by rw[←zL9,d1,Zd]
 have D1:=hy' d1;have D2:=hy' d2;have D3:=hy' d3;have HL:=hy' hlen;clear d1 d2 d3 hlen;obtain⟨i0,hi,a6,a1,a7⟩:=Z7 zCl;go_enter func47,ntmps47;go_wp2;go_loopw [0,4] (fun x v wr=>∃a b y,cs=a++b∧x=.string y∧y.data.toList=zAx b++r∧y.size≤s.size∧wr.ownsRow w.heap.size 21 1 v a.length (a.map (Value.int .i32))∧Below w.heap.size w wr) (fun x _ _=>match x with | .string y=>y.size|_=>0)
 case atStart=>exact⟨[],cs,s,rfl,rfl,D1.o,Za _,ZI _ _ _ _,Zc _ _⟩
 obtain⟨a,b,y,ak,rfl,hy,bf,af,ae⟩:=hrel;have au:=ae.size;have av:=hH.next ae;have bc:(zAx a).length≤s.size:=by rw[HL.o,ak,zDT,Zd];omega
 have ba:=zOl a;have aj:=hy' ak;have HY:=hy' hy;have ar:y.size≤maxLen:=by unfold maxLen;omega
 clear ak hy;rcases b with _|⟨c,b⟩
 · have ha:cs=a:=by rw[aj.o,Z3]
   rcases r with _|⟨r0,r'⟩
   · have he:y.toList.isEmpty=true:=by rw[zEp,HY.o];rfl
     have aq:=hy' ha;clear ha;go_wp2;go_ret2;exact RetOwn2.mk af (by rw[show zJQ cs []=cs from rfl,aq.o]) (by rw[show zJQ cs []=cs from rfl,aq.o]) ae
   have he:y.toList.isEmpty=false:=by rw[zEp,HY.o];rfl
   have h3:zAz y.data.toList=(0,0,false):=by rw[HY.o];exact zLb D3.o
   have H3:=hy' h3;clear h3 ha;go_wp2_with fail;refine (zJi _ _ ar av).mono ?_;rintro e w1 ⟨rfl,aa⟩;rw[H3.o];go_wp2;go_ret2;rw[zIz,zIy];exact RetOwn2.mk (ZI _ _ _ _) rfl rfl (ae.trans (aa.mono au))
 have hc:=D2.o c (by rw[aj.o];simp);obtain⟨l1,l2⟩:=zCq c;have ap:y.size=(zAk c).length+((zAx b).length+r.length):=by rw[←zL9,HY.o,zAA,Zd,Zd,Yi]
 have h3:zAz y.data.toList=(c,(zAk c).length,true):=by rw[HY.o];exact zLa (zDx hc)
 have he:y.toList.isEmpty=false:=zCd y (by omega);obtain⟨k,hk⟩:∃k,(zAk c).length=k:=⟨_,rfl⟩;obtain⟨z,hz⟩:∃z:ByteArray,y.extract k y.size=z:=⟨_,rfl⟩
 have ao:z.data.toList=zAx b++r:=by
  rw[←hz,zRo,HY.o,zAA,Zz,←hk,Ji]
 have a8:z.size<y.size:=by
  rw[ap,←zL9,ao,Zd];omega
 have H3:=hy' h3;have ax:=hy' ao;rw[hk]at l1 l2 H3 ap;have bg:k≤y.size:=by omega
 have bb:=(U.isC_iff c).1 hc;obtain⟨c1,c2,-⟩:=bb;clear hk h3 ao ap;have aw:a.length+1≤1000000000001:=by omega
 go_wp2_with fail;refine (zJi _ _ ar av).mono ?_;rintro e w1 ⟨rfl,aa⟩;rw[H3.o];have ag:=zA4 af aa (Za _);have ai:=ae.trans (aa.mono au);have ay:=ai.size;clear af aa;go_wp2_with (at_builtin;refine zAi _ rfl _ _ _ rfl w.heap.size 21 i0 _ 4 underlying80 hi a6 a1 a7 rfl _ a.length _ rfl ag _ rfl rfl (by simp only[maxLen];omega) (by omega) ay ?_;intro v1 w2 ah az);exact⟨⟨a++[c],b,z,by rw[aj.o,Zz];rfl,rfl,ax.o,by omega,by rw[Zd,ZO];exact ah,ai.trans az⟩,a8⟩
theorem zRw:∀x:Fin 32,bits BinOp.or IntKind.u8 192 ((x.val:Nat):Int)=192+((x.val:Nat):Int):=by decide +kernel
theorem zRx:∀x:Fin 16,bits BinOp.or IntKind.u8 224 ((x.val:Nat):Int)=224+((x.val:Nat):Int):=by decide +kernel
theorem zRy:∀x:Fin 8,bits BinOp.or IntKind.u8 240 ((x.val:Nat):Int)=240+((x.val:Nat):Int):=by decide +kernel
theorem U.or0:∀x:Fin 128,bits BinOp.or IntKind.u8 0 ((x.val:Nat):Int)=((x.val:Nat):Int):=by decide +kernel
theorem zQS (x:Int) (h1:0≤x) (h2:x<32):bits BinOp.or IntKind.u8 192 x=192+x:=by
 obtain⟨n,rfl⟩:=YL h1;exact zRw ⟨n,by omega⟩
theorem zQT (x:Int) (h1:0≤x) (h2:x<16):bits BinOp.or IntKind.u8 224 x=224+x:=by
 obtain⟨n,rfl⟩:=YL h1;exact zRx ⟨n,by omega⟩
theorem zQU (x:Int) (h1:0≤x) (h2:x<8):bits BinOp.or IntKind.u8 240 x=240+x:=by
 obtain⟨n,rfl⟩:=YL h1;exact zRy ⟨n,by omega⟩
theorem zSd (x:Int) (h1:0≤x) (h2:x<128):bits BinOp.or IntKind.u8 0 x=x:=by
 obtain⟨n,rfl⟩:=YL h1;exact U.or0 ⟨n,by omega⟩
theorem zKx (x:Int) (h1:0≤x) (h2:x<256):IntKind.u8.wrap x=x:=by
 exact IntWalk.u8_in x (by omega)
def zFq (l:List UInt8):List Value:=l.map fun b=>Value.int .u8 (b.toNat:Int)
theorem zRz (c:Int) (v:Value) (n base:Nat) (xs:List Value) (w:World) (h1:0≤c) (h2:c<128) (hc:U.isC c=true) (hH:Heads w) (aj:w.ownsRow base 5 1 v n xs) (hn:n≤1000000000000) (ag:base≤w.heap.size) :
 Calls prog 81 #[v,.int .i32 c] w fun e w'=>∃v',e=.returned v'∧w'.ownsRow base 5 1 v' (n+1) (xs++[.int .u8 (c)])∧Below base w w':=by
 have hw:zAw c=1:=by unfold zAw;grind
 have HW:=hy' hw;clear hw hc;have m0:=hH.cell 0;have m1:=hH.cell 1;have m2:=hH.cell 2;simp[U.row]at m0 m1 m2;obtain⟨i0,hi,ar,aq,av⟩:=Z7 infoByte;go_enter func81,ntmps81;go_wp2_with fail;refine (zAQ _ _ (by omega) (by omega) hH).mono ?_;rintro e w' ⟨rfl,rfl⟩;rw[HW.o];go_wp2;have au:=zKx (c) (by omega) (by omega);have ao:=zSd (c) (by omega) (by omega);have ap:IntKind.i64.wrap 0=0:=by decide
 have aw:IntKind.i64.wrap 0=0:=by decide
 have hne:v.ownBlock≠some w.heap.size:=fun h=>by have:=(aj.lt _ h).2;omega
 go_region_held3 (fun w'=>w'.cell? ⟨w.heap.size,0,none⟩=some (.int .u8 0)) (first|go_keep|(rw[ae.cell_far _ (by simp;omega) (Z9 hne)];assumption))
  ((refine zCH _ rfl _ _ _ rfl base 5 i0 _ 1 underlying30 hi ar aq av rfl v n xs rfl (((aj.alloc _).alloc _).drew) _ rfl (w.heap.size+1) rfl (zOw _ _ _ _ (zDY _ _)) (by simp only[maxLen];omega) (by omega) (by simp;omega) ?_;intro v1 w1 ah aa ae))
 have ak:Below base w w1:=(((Zc _ _).alloc ag _).alloc (by simp;omega) _).drew.trans aa;have ax:=ak.size;clear ae aa au ao ap aw;go_wp2;go_loopw [7,0] (fun i v wr=>Below base w wr∧((i=.int .i64 (-1)∧wr.ownsRow base 5 1 v (n+1) (xs++[.int .u8 (c)])))) (fun i _ _=>(intOf i+1).toNat)
 case atStart=>exact⟨ak,⟨rfl,ah⟩⟩
 obtain⟨ai,hrel⟩:=hrel;have ay:=ai.size;rcases hrel with ⟨rfl,af⟩
 go_wp2;go_ret;exact⟨_,rfl,af,ai⟩
theorem zRA (c:Int) (v:Value) (n base:Nat) (xs:List Value) (w:World) (h1:128≤c) (h2:c<2048) (hc:U.isC c=true) (hH:Heads w) (ak:w.ownsRow base 5 1 v n xs) (hn:n≤1000000000000) (ai:base≤w.heap.size) :
 Calls prog 81 #[v,.int .i32 c] w fun e w'=>∃v',e=.returned v'∧w'.ownsRow base 5 1 v' (n+2) (xs++[.int .u8 (192+c/64),.int .u8 (128+c%64)])∧Below base w w':=by
 have hw:zAw c=2:=by unfold zAw;grind
 have HW:=hy' hw;clear hw hc;have m0:=hH.cell 3;have m1:=hH.cell 4;have m2:=hH.cell 5;simp[U.row]at m0 m1 m2;obtain⟨i0,hi,ap,ao,ar⟩:=Z7 infoByte;go_enter func81,ntmps81;go_wp2_with fail;refine (zAQ _ _ (by omega) (by omega) hH).mono ?_;rintro e w' ⟨rfl,rfl⟩;rw[HW.o];go_wp2;have ax:=zKx (c/64) (by omega) (by omega);have au:=zQS (c/64) (by omega) (by omega);have av:IntKind.i64.wrap 1=1:=by decide
 have ay:IntKind.i64.wrap 6=6:=by decide
 have hne:v.ownBlock≠some w.heap.size:=fun h=>by have:=(ak.lt _ h).2;omega
 go_region_held3 (fun w'=>w'.cell? ⟨w.heap.size,0,none⟩=some (.int .u8 192)) (first|go_keep|(rw[ag.cell_far _ (by simp;omega) (Z9 hne)];assumption))
  ((refine zCH _ rfl _ _ _ rfl base 5 i0 _ 1 underlying30 hi ap ao ar rfl v n xs rfl (((ak.alloc _).alloc _).drew) _ rfl (w.heap.size+1) rfl (zOw _ _ _ _ (zDY _ _)) (by simp only[maxLen];omega) (by omega) (by simp;omega) ?_;intro v1 w1 aj af ag))
 have aq:Below base w w1:=(((Zc _ _).alloc ai _).alloc (by simp;omega) _).drew.trans af;have az:=aq.size;clear ag af ax au av ay;go_wp2;go_loopw [7,0] (fun i v wr=>Below base w wr∧((i=.int .i64 0∧wr.ownsRow base 5 1 v (n+1) (xs++[.int .u8 (192+c/64)]))∨(i=.int .i64 (-1)∧wr.ownsRow base 5 1 v (n+2) (xs++[.int .u8 (192+c/64),.int .u8 (128+c%64)])))) (fun i _ _=>(intOf i+1).toNat)
 case atStart=>exact⟨aq,.inl ⟨rfl,aj⟩⟩
 obtain⟨ah,hrel⟩:=hrel;have a1:=ah.size;rcases hrel with ⟨rfl,aa⟩|⟨rfl,aa⟩
 · go_wp2_with (at_builtin;refine zAi _ rfl _ _ _ rfl base 5 i0 _ 1 underlying30 hi ap ao ar rfl _ (n+1) _ rfl aa _ rfl rfl (by simp only[maxLen];omega) (by omega) (by omega) ?_;intro v1 w2 ae aw);rw[Zz]at ae;exact⟨⟨ah.trans aw,.inr (⟨rfl,ae⟩)⟩,by simp[intOf]⟩
 go_wp2;go_ret;exact⟨_,rfl,aa,ah⟩
theorem zRB (c:Int) (v:Value) (n base:Nat) (xs:List Value) (w:World) (h1:2048≤c) (h2:c<65536) (hc:U.isC c=true) (hH:Heads w) (ak:w.ownsRow base 5 1 v n xs) (hn:n≤1000000000000) (ai:base≤w.heap.size) :
 Calls prog 81 #[v,.int .i32 c] w fun e w'=>∃v',e=.returned v'∧w'.ownsRow base 5 1 v' (n+3) (xs++[.int .u8 (224+c/4096),.int .u8 (128+c/64%64),.int .u8 (128+c%64)])∧Below base w w':=by
 have hw:zAw c=3:=by unfold zAw;grind
 have HW:=hy' hw;clear hw hc;have m0:=hH.cell 6;have m1:=hH.cell 7;have m2:=hH.cell 8;simp[U.row]at m0 m1 m2;obtain⟨i0,hi,aq,ao,ar⟩:=Z7 infoByte;go_enter func81,ntmps81;go_wp2_with fail;refine (zAQ _ _ (by omega) (by omega) hH).mono ?_;rintro e w' ⟨rfl,rfl⟩;rw[HW.o];go_wp2;have ax:=zKx (c/4096) (by omega) (by omega);have av:=zQT (c/4096) (by omega) (by omega);have aw:IntKind.i64.wrap 2=2:=by decide
 have ay:IntKind.i64.wrap 12=12:=by decide
 have hne:v.ownBlock≠some w.heap.size:=fun h=>by have:=(ak.lt _ h).2;omega
 go_region_held3 (fun w'=>w'.cell? ⟨w.heap.size,0,none⟩=some (.int .u8 224)) (first|go_keep|(rw[ah.cell_far _ (by simp;omega) (Z9 hne)];assumption))
  ((refine zCH _ rfl _ _ _ rfl base 5 i0 _ 1 underlying30 hi aq ao ar rfl v n xs rfl (((ak.alloc _).alloc _).drew) _ rfl (w.heap.size+1) rfl (zOw _ _ _ _ (zDY _ _)) (by simp only[maxLen];omega) (by omega) (by simp;omega) ?_;intro v1 w1 aj ag ah))
 have au:Below base w w1:=(((Zc _ _).alloc ai _).alloc (by simp;omega) _).drew.trans ag;have az:=au.size;clear ah ag ax av aw ay;go_wp2;go_loopw [7,0] (fun i v wr=>Below base w wr∧((i=.int .i64 1∧wr.ownsRow base 5 1 v (n+1) (xs++[.int .u8 (224+c/4096)]))∨(i=.int .i64 0∧wr.ownsRow base 5 1 v (n+2) (xs++[.int .u8 (224+c/4096),.int .u8 (128+c/64%64)]))∨(i=.int .i64 (-1)∧wr.ownsRow base 5 1 v (n+3) (xs++[.int .u8 (224+c/4096),.int .u8 (128+c/64%64),.int .u8 (128+c%64)])))) (fun i _ _=>(intOf i+1).toNat)
 case atStart=>exact⟨au,.inl ⟨rfl,aj⟩⟩
 obtain⟨af,hrel⟩:=hrel;have a1:=af.size;rcases hrel with ⟨rfl,aa⟩|⟨rfl,aa⟩|⟨rfl,aa⟩
 · go_wp2_with (at_builtin;refine zAi _ rfl _ _ _ rfl base 5 i0 _ 1 underlying30 hi aq ao ar rfl _ (n+1) _ rfl aa _ rfl rfl (by simp only[maxLen];omega) (by omega) (by omega) ?_;intro v1 w2 ae ap);rw[Zz]at ae;exact⟨⟨af.trans ap,.inr (.inl ⟨rfl,ae⟩)⟩,by simp[intOf]⟩
 · go_wp2_with (at_builtin;refine zAi _ rfl _ _ _ rfl base 5 i0 _ 1 underlying30 hi aq ao ar rfl _ (n+2) _ rfl aa _ rfl rfl (by simp only[maxLen];omega) (by omega) (by omega) ?_;intro v1 w2 ae ap);rw[Zz]at ae;exact⟨⟨af.trans ap,.inr (.inr (⟨rfl,ae⟩))⟩,by simp[intOf]⟩
 go_wp2;go_ret;exact⟨_,rfl,aa,af⟩
theorem zRC (c:Int) (v:Value) (n base:Nat) (xs:List Value) (w:World) (h1:65536≤c) (h2:c≤1114111) (hc:U.isC c=true) (hH:Heads w) (ao:w.ownsRow base 5 1 v n xs) (hn:n≤1000000000000) (ai:base≤w.heap.size) :
 Calls prog 81 #[v,.int .i32 c] w fun e w'=>∃v',e=.returned v'∧w'.ownsRow base 5 1 v' (n+4) (xs++[.int .u8 (240+c/262144),.int .u8 (128+c/4096%64),.int .u8 (128+c/64%64),.int .u8 (128+c%64)])∧Below base w w':=by
 have hw:zAw c=4:=by unfold zAw;grind
 have HW:=hy' hw;clear hw hc;have m0:=hH.cell 9;have m1:=hH.cell 10;have m2:=hH.cell 11;simp[U.row]at m0 m1 m2;obtain⟨i0,hi,aq,ap,ar⟩:=Z7 infoByte;go_enter func81,ntmps81;go_wp2_with fail;refine (zAQ _ _ (by omega) (by omega) hH).mono ?_;rintro e w' ⟨rfl,rfl⟩;rw[HW.o];go_wp2;have ax:=zKx (c/262144) (by omega) (by omega);have av:=zQU (c/262144) (by omega) (by omega);have aw:IntKind.i64.wrap 3=3:=by decide
 have ay:IntKind.i64.wrap 18=18:=by decide
 have hne:v.ownBlock≠some w.heap.size:=fun h=>by have:=(ao.lt _ h).2;omega
 go_region_held3 (fun w'=>w'.cell? ⟨w.heap.size,0,none⟩=some (.int .u8 240)) (first|go_keep|(rw[ah.cell_far _ (by simp;omega) (Z9 hne)];assumption))
  ((refine zCH _ rfl _ _ _ rfl base 5 i0 _ 1 underlying30 hi aq ap ar rfl v n xs rfl (((ao.alloc _).alloc _).drew) _ rfl (w.heap.size+1) rfl (zOw _ _ _ _ (zDY _ _)) (by simp only[maxLen];omega) (by omega) (by simp;omega) ?_;intro v1 w1 aj ag ah))
 have au:Below base w w1:=(((Zc _ _).alloc ai _).alloc (by simp;omega) _).drew.trans ag;have az:=au.size;clear ah ag ax av aw ay;go_wp2;go_loopw [7,0] (fun i v wr=>Below base w wr∧((i=.int .i64 2∧wr.ownsRow base 5 1 v (n+1) (xs++[.int .u8 (240+c/262144)]))∨(i=.int .i64 1∧wr.ownsRow base 5 1 v (n+2) (xs++[.int .u8 (240+c/262144),.int .u8 (128+c/4096%64)]))∨(i=.int .i64 0∧wr.ownsRow base 5 1 v (n+3) (xs++[.int .u8 (240+c/262144),.int .u8 (128+c/4096%64),.int .u8 (128+c/64%64)]))∨(i=.int .i64 (-1)∧wr.ownsRow base 5 1 v (n+4) (xs++[.int .u8 (240+c/262144),.int .u8 (128+c/4096%64),.int .u8 (128+c/64%64),.int .u8 (128+c%64)])))) (fun i _ _=>(intOf i+1).toNat)
 case atStart=>exact⟨au,.inl ⟨rfl,aj⟩⟩
 obtain⟨af,hrel⟩:=hrel;have a1:=af.size;rcases hrel with ⟨rfl,ae⟩|⟨rfl,ae⟩|⟨rfl,ae⟩|⟨rfl,ae⟩
 · go_wp2_with (at_builtin;refine zAi _ rfl _ _ _ rfl base 5 i0 _ 1 underlying30 hi aq ap ar rfl _ (n+1) _ rfl ae _ rfl rfl (by simp only[maxLen];omega) (by omega) (by omega) ?_;intro v1 w2 aa ak);rw[Zz]at aa;exact⟨⟨af.trans ak,.inr (.inl ⟨rfl,aa⟩)⟩,by simp[intOf]⟩
 · go_wp2_with (at_builtin;refine zAi _ rfl _ _ _ rfl base 5 i0 _ 1 underlying30 hi aq ap ar rfl _ (n+2) _ rfl ae _ rfl rfl (by simp only[maxLen];omega) (by omega) (by omega) ?_;intro v1 w2 aa ak);rw[Zz]at aa;exact⟨⟨af.trans ak,.inr (.inr (.inl ⟨rfl,aa⟩))⟩,by simp[intOf]⟩
 · go_wp2_with (at_builtin;refine zAi _ rfl _ _ _ rfl base 5 i0 _ 1 underlying30 hi aq ap ar rfl _ (n+3) _ rfl ae _ rfl rfl (by simp only[maxLen];omega) (by omega) (by omega) ?_;intro v1 w2 aa ak);rw[Zz]at aa;exact⟨⟨af.trans ak,.inr (.inr (.inr (⟨rfl,aa⟩)))⟩,by simp[intOf]⟩
 go_wp2;go_ret;exact⟨_,rfl,ae,af⟩
theorem zJ9 (x:Int) (h0:0≤x) (h1:x<256):Value.int .u8 (((U.u8 x).toNat:Nat):Int)=.int .u8 x:=by rw[zAY x h0 h1]
theorem U.put_any (c:Int) (v:Value) (n base:Nat) (xs:List Value) (w:World) (hc:U.isC c=true) (hH:Heads w) (ae:w.ownsRow base 5 1 v n xs) (hn:n≤1000000000000) (aa:base≤w.heap.size) :
 Calls prog 81 #[v,.int .i32 c] w fun e w'=>∃v',e=.returned v'∧w'.ownsRow base 5 1 v' (n+(zAk c).length) (xs++zFq (zAk c))∧Below base w w':=by
 obtain⟨h1,h2,h3⟩:=(U.isC_iff c).1 hc;unfold zAk zFq
 by_cases c1:c<128
 · rw[Zl c1];simp only[ZX,Yq,ZF,Z0];rw[zJ9 c (by omega) (by omega)];exact zRz c v n base xs w h1 c1 hc hH ae hn aa
 by_cases c2:c<2048
 · rw[Zj c1,Zl c2];simp only[ZX,Yq,ZF,Z0];rw[zJ9 (192+c/64) (by omega) (by omega),zJ9 (128+c%64) (by omega) (by omega)];exact zRA c v n base xs w (by omega) c2 hc hH ae hn aa
 by_cases c3:c<65536
 · rw[Zj c1,Zj c2,Zl c3];simp only[ZX,Yq,ZF,Z0];rw[zJ9 (224+c/4096) (by omega) (by omega),zJ9 (128+c/64%64) (by omega) (by omega),zJ9 (128+c%64) (by omega) (by omega)];exact zRB c v n base xs w (by omega) c3 hc hH ae hn aa
 rw[Zj c1,Zj c2,Zj c3];simp only[ZX,Yq,ZF,Z0];rw[zJ9 (240+c/262144) (by omega) (by omega),zJ9 (128+c/4096%64) (by omega) (by omega),zJ9 (128+c/64%64) (by omega) (by omega),zJ9 (128+c%64) (by omega) (by omega)];exact zRC c v n base xs w (by omega) h2 hc hH ae hn aa
end Go.Proofs.YthngjlllojiacaaGreatDoor
