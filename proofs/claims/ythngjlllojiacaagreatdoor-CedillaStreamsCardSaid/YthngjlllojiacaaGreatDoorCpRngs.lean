/- The layer cpset: what its walks share. -/
import Derived.Test.YthngjlllojiacaaGreatDoorMdTable
set_option maxRecDepth 100000
set_option maxHeartbeats 4000000
set_option linter.unusedVariables false
set_option linter.unusedSimpArgs false
namespace Go.Proofs.YthngjlllojiacaaGreatDoor
open Go.Proofs.Tryz
section
open Go.RowKit
def zS9 (l:List Int) (w:World) (e:Ending) (w':World):Prop :=
 ∃A c,e=.returned (.agg #[.slice A l.length c])∧w'.ownsRow w.heap.size 21 1 (.slice A l.length c) l.length (l.map (Value.int .i32))∧Below w.heap.size w w'
theorem zRp {w wr:World} {cs:Array Value} {t:TypeId} (h:Below (w.heap.size+1) (w.alloc (.cells cs t)) wr):wr.heap[w.heap.size]?=some (.cells cs t (0,0))∧Below w.heap.size w wr:=by
 refine⟨(h.block w.heap.size (by omega)).trans (ZV _ _),?_⟩;exact ((Zc _ _).alloc (Za _) _).trans (h.mono (by omega))
theorem zHP {w:World} {g:Nat} {cs:Array Value} {t:TypeId} (h:w.heap[g]?=some (.cells cs t (0,0))) (i:Nat):w.cell? ⟨g,i,none⟩=cs[i]?∧w.frozen? ⟨g,i,none⟩=false:=by
 constructor
 · simp[World.cell?,h]
 simp[World.frozen?,h]
theorem own_base {w:World} {base aa:Nat} {e:TypeId} {size n:Nat} {v:Value} {xs:List Value} (h:w.ownsRow base e size v n xs) (hb:aa≤base):w.ownsRow aa e size v n xs:=by
 obtain⟨h1,h2⟩:=h;refine⟨h1,?_⟩;rcases h2 with h2|⟨g,cap,ae,hv,hg,r⟩
 · exact .inl h2
 exact .inr ⟨g,cap,ae,hv,by omega,r⟩
theorem zQL {w:World} {g:Nat} {u v:Value} {t:TypeId} (h:w.heap[g]?=some (.cells #[u] t (0,0))):(w.setCell ⟨g,0,none⟩ v).heap[g]?=some (.cells #[v] t (0,0)):=by
 simp[World.setCell,YY,h]
def C.par (i:Nat):Bool:=((i:Int)%2 == 1)
theorem zPR (i:Nat) (hi:i<9223372036854775808):bits BinOp.and IntKind.i64 (i:Int) 1=((i%2:Nat):Int):=by
 have aa:(2:Int) ^ 63=9223372036854775808:=by decide
 have h:=bits_mask .i64 63 (by decide) (fun n h0 h1=>by rw[aa]at h1;rw[Z5];omega) 1 (by decide) (i:Int) (by omega) (by rw[aa];omega);have e:((2:Int) ^ 1-1)=1:=by decide
 rw[e]at h;rw[h];omega
theorem Sl.ints {w:World} {B:Nat} {A:Option Addr} {k:IntKind} {l:List Int} (h:Sl w B A (l.map (Value.int k))) {i:Nat} {x:Int} (hx:l[i]?=some x):∃b o,A=some ⟨b,o,none⟩∧b<B∧w.cell? ⟨b,o+i,none⟩=some (.int k x)∧∀j y,l[j]?=some y→w.cell? ⟨b,o+j,none⟩=some (.int k y):=by
 have hi:i<l.length:=(List.getElem?_eq_some_iff.1 hx).1;obtain⟨b,o,hA,hb,hc⟩:=h (by rw[Ze];omega)
 have hj:∀j y,l[j]?=some y→w.cell? ⟨b,o+j,none⟩=some (.int k y):=by
  intro j y hy;have hj:j<l.length:=(List.getElem?_eq_some_iff.1 hy).1;rw[hc j (by rw[Ze];omega),Zw,hy];rfl
 exact⟨b,o,hA,hb,hj i x hx,hj⟩
theorem C.enter {P:Program} {f:FuncId} {fn:Func} {c:Code} (hf:P.funcs[f]?=some fn) (aa:(fn.name == "runtime.NumGoroutine")=false) (hb:fn.body=some c) (args:Array Value) (w:World) :
 (callFunc f args).run P w=.ok (.enter f args) w:=by
 have h1:fn.name ≠ "runtime.NumGoroutine" := by simpa using aa
 simp[callFunc,hf,h1,hb]
theorem zBU (A:Option Addr) (n c B:Nat) (l:List Int) (w:World) (hn:l.length=n) (ao:n≤1000000) (hB:B≤w.heap.size) (hA:Sl w B A (l.map (Value.int .i32))) :
 Calls prog 75 #[.slice A n c] w fun r w'=>∃A' c',r=.returned (.slice A' n c')∧w'.ownsRow w.heap.size 21 1 (.slice A' n c') n (l.map (Value.int .i32))∧Go.RowKit.Below w.heap.size w w':=by
 obtain⟨j0,hj0,ai,ak,aj⟩:=Z7 zCl;have HN:=hy' hn;clear hn;rcases A with _|ad
 · have hl:l=[]:=by
    rcases l with _|⟨x,t⟩
    · rfl
    obtain⟨b,o,h,_⟩:=hA (by simp);cases h
   subst hl;obtain rfl:0=n:=HN.o;have ag:∀w,(binOp .eql 80 (.slice none 0 c) (.slice none 0 0)).run prog w=.ok (.bool true) w:=fun w=>by kernel_rfl
   go_enter func75,ntmps75;go_wp2;go_ret;exact⟨none,0,rfl,ZI _ _ _ _,Zc _ _⟩
 have af:Go.RowKit.Below w.heap.size w (w.alloc (.cells #[] 21)):=(Zc _ _).alloc (Za _) _;have hS:=hy' (hA.belowN af hB (Za _));have ag:∀w,(binOp .eql 80 (.slice (some ad) n c) (.slice none 0 0)).run prog w=.ok (.bool false) w:=fun w=>by first|exact Lib.run_eql_slice_nil w _ _ _ _ _ underlying80|kernel_rfl|simp[binOp,Op.equal,Op.maxDepth,Op.equalIn,Y6 underlying80]
 have ae:(w.alloc (.cells #[] 21)).ownsRow w.heap.size 21 1 (.slice (some ⟨w.heap.size,0,none⟩) 0 0) 0 []:=⟨rfl,.inr ⟨w.heap.size,0,#[],rfl,Za _,ZV w _,Za _,by decide,rfl,rfl⟩⟩;go_enter func75,ntmps75;go_wp2_with (at_builtin;refine zAd _ rfl _ _ _ rfl w.heap.size 21 j0 _ 1 4 underlying80 hj0 ai ak aj rfl (by omega) _ 0 _ rfl ae _ (some ad) n c (l.map (Value.int .i32)) rfl (by rw[Ze,HN.o];omega) hS.out (zF0 _ _) (by simp only[maxLen];omega) (by omega) (by simp) ?_;intro v1 w2 aa ah _);obtain⟨A5,c5,rfl⟩:=zA3 aa;go_wp2;go_ret;rw[Z1]at aa;exact⟨A5,c5,by simp,by simpa using aa,af.trans ah⟩
def Md.Ok (T:List Rw.Row):Prop:=T.length≤1000000∧Md.rises T∧Md.bd T∧∀r∈T,r.2.2.length≤1000000
def Md.Is (w:World) (v:Value) (T:List Rw.Row) (S:List Int):Prop:=∃A c XA xc,v=zBd A T.length c XA S.length xc∧Rw.Sees w A T∧Sl w w.heap.size XA (S.map (Value.int .i32))
theorem Md.Is.below {w w':World} {v:Value} {T:List Rw.Row} {S:List Int} (h:Md.Is w v T S) (hb:Below w.heap.size w w'):Md.Is w' v T S:=by
 obtain⟨A,c,XA,xc,h1,h2,h3⟩:=h;exact⟨A,c,XA,xc,h1,h2.below hb,h3.below hb hb.size⟩
theorem zGE {v:Value} {T:List Rw.Row} {S:List Int} {w:World} (d:Int) (ok:Md.Ok T) (h:Md.Is w v T S) (h3 : -2147483648≤d) (h4:d≤2147483647) :
 Calls prog 132 #[v,.int .i32 d] w (Md.RetFind T d w):=by
 obtain⟨A,c,XA,xc,rfl,h2,_⟩:=h;exact Md.find_any A T.length c XA S.length xc T d w rfl ok.1 ok.2.1 ok.2.2.1 h3 h4 h2
theorem Md.class_any (v:Value) (T:List Rw.Row) (S:List Int) (d:Int) (w:World) (ok:Md.Ok T) (h:Md.Is w v T S) (h3 : -2147483648≤d) (h4:d≤2147483647) :
 Calls prog 169 #[v,.int .i32 d] w fun e w'=>e=.returned (.int .i64 (Md.cls T d))∧Below w.heap.size w w':=by
 rw[zPP];have hv:=h;obtain⟨A,c,XA,xc,rfl,h2,hX⟩:=hv;obtain⟨xn,hxn⟩:∃k,S.length=k:=⟨_,rfl⟩;obtain⟨n,hn⟩:∃k,T.length=k:=⟨_,rfl⟩;rw[hn,hxn]at h ⊢;have aa:Below w.heap.size w (w.alloc (.cells #[.slice A n c,.slice XA xn xc] 101)):=(Zc _ _).alloc (Za _) _;have ae:Rw.At (w.alloc (.cells #[.slice A n c,.slice XA xn xc] 101)) w.heap.size 101 [.slice A n c,.slice XA xn xc]:=Rw.At.new w 101 [.slice A n c,.slice XA xn xc];have hF:=zGE d ok (h.below aa) h3 h4;have z0:=ae.cell 0 rfl;have z1:=ae.cell 1 rfl;have HB:=hy' aa;clear h h2 hX hn hxn aa ae ok;unfold zBd at hF ⊢;go_enter func169,ntmps169;go_wp2_with fail;refine hF.mono ?_;rintro e w1 ⟨a,rfl,_,ag⟩;have af:=hy' (HB.o.trans (ag.mono HB.o.size));clear ag z0 z1 hF;unfold zHD;obtain⟨r,hr⟩:∃r,Md.rowOf T d=r:=⟨_,rfl⟩;rw[hr];have HR:=hy' hr;clear hr;go_wp2_with fail;go_ret;rw[HR.o];exact⟨rfl,af.o.alloc af.o.size _⟩
def Md.RetOwn (l:List Int) (w:World) (e:Ending) (w':World):Prop :=
 ∃A c,e=.returned (.slice A l.length c)∧w'.ownsRow w.heap.size 21 1 (.slice A l.length c) l.length (l.map (Value.int .i32))∧Below w.heap.size w w'
theorem zOD (v:Value) (T:List Rw.Row) (S:List Int) (d:Int) (w:World) (ok:Md.Ok T) (h:Md.Is w v T S) (h3 : -2147483648≤d) (h4:d≤2147483647) :
 Calls prog 168 #[v,.int .i32 d] w (Md.RetOwn (Md.mp T d) w):=by
 have hv:=h;obtain⟨A,c,XA,xc,rfl,h2,hX⟩:=hv;obtain⟨xn,hxn⟩:∃k,S.length=k:=⟨_,rfl⟩;obtain⟨n,hn⟩:∃k,T.length=k:=⟨_,rfl⟩;rw[hn,hxn]at h ⊢;have ai:Below w.heap.size w (w.alloc (.cells #[.slice A n c,.slice XA xn xc] 101)):=(Zc _ _).alloc (Za _) _;have ak:Rw.At (w.alloc (.cells #[.slice A n c,.slice XA xn xc] 101)) w.heap.size 101 [.slice A n c,.slice XA xn xc]:=Rw.At.new w 101 [.slice A n c,.slice XA xn xc];have hF:=zGE d ok (h.below ai) h3 h4;have z0:=ak.cell 0 rfl;have z1:=ak.cell 1 rfl;have HB:=hy' ai;have hmb:=zHO ok.2.2.1 d
 have hlen:(Md.rowOf T d).2.2.length≤1000000:=by
  unfold Md.rowOf;cases hf:Md.find T d with
  | none=>exact ZG _
  | some r=>exact ok.2.2.2 r (zAq hf).1
 have HP:=hy' (zBT d (w.alloc (.cells #[.slice A n c,.slice XA xn xc] 101)) h3 h4);obtain⟨m,hm⟩:∃m,Md.mp T d=m:=⟨_,rfl⟩;rw[hm]at hmb ⊢;have HM:=hy' hm;rcases hpk:zAg d with ⟨x,y,is⟩
 have hp:=HP.o;rw[hpk]at hp;have ah:=hy' hpk;clear h h2 hX hn hxn ai ak ok hm hpk HP;unfold zBd at hF ⊢;cases is
 · have af:m=(Md.rowOf T d).2.2:=by
    rw[←HM.o,←zPQ];unfold Md.mp;rw[ah.o,Zj (by simp)]
   obtain⟨r,hr⟩:∃r,Md.rowOf T d=r:=⟨_,rfl⟩;unfold Md.RetFind at hF;rw[hr]at af hlen hF;subst af;clear hr HM ah hmb;go_enter func168,ntmps168;go_wp2_with fail;refine hp.mono ?_;rintro e w0 ⟨rfl,rfl⟩;go_wp2_with fail;refine hF.mono ?_;rintro e w1 ⟨a,rfl,ar,aq⟩;have ao:=hy' (HB.o.trans (aq.mono HB.o.size));have ag:Below w1.heap.size w1 (w1.alloc (.cells #[.int .i32 r.1,.int .i64 r.2.1,.slice a.1 r.2.2.length a.2] 109)):=(Zc _ _).alloc (Za _) _;have hC:=zBU a.1 r.2.2.length a.2 _ r.2.2 _ rfl hlen (Za _) (ar.below ag ag.size);have aj:=hy' (ao.o.trans (ag.mono ao.o.size));clear aq z0 z1 hF ar ag hp;unfold zHD;go_wp2_with fail;refine hC.mono ?_;rintro e w2 ⟨A',c',rfl,aa,ap⟩;have HO:=hy' (own_base aa aj.o.size);have au:=hy' (aj.o.trans (ap.mono aj.o.size));clear aa ap hC;go_wp2_with fail;go_ret;exact⟨A',c',rfl,HO.o,au.o⟩
 have af:m=[x,y]:=by
  rw[←HM.o];unfold Md.mp;rw[ah.o,Zl rfl]
 subst af;clear HM ah hF hlen;go_enter func168,ntmps168;go_wp2_with fail;refine hp.mono ?_;rintro e w0 ⟨rfl,rfl⟩;go_wp2_with fail;go_ret;have ae:=ZV (w.alloc (.cells #[.slice A n c,.slice XA xn xc] 101)) (.cells #[.int .i32 x,.int .i32 y] 21);rw[ZK]at ae;exact⟨_,_,rfl,⟨rfl,.inr ⟨_,_,#[.int .i32 x,.int .i32 y],rfl,ZW _,ae,Za _,by decide,rfl,rfl⟩⟩,HB.o.alloc HB.o.size _⟩
theorem Pg.in_any (c:Int) (w:World):Calls prog 111 #[.int .i32 c] w fun e w'=>e=.returned (.bool (decide (0≤c∧c≤1114111)))∧w=w':=by
 go_enter func111,ntmps111
 by_cases h0:0≤c
 · by_cases h1:c≤1114111
   · go_wp2;go_ret;exact⟨zB5 (by simp;omega),rfl⟩
   go_wp2;go_ret;exact⟨zB5 (by simp;omega),rfl⟩
 go_wp2;go_ret;exact⟨zB5 (by simp;omega),rfl⟩
theorem Pg.and_8 (n:Int) (h0:0≤n) (h1:n≤1114111):bits .and .i32 n 255=n%256:=by
 have hm:(BitVec.ofInt 32 255).toNat=2 ^ 8-1:=by decide
 have key:(BitVec.ofInt 32 n &&& BitVec.ofInt 32 255).toNat=(n%((2 ^ 32:Nat):Int)).toNat%2 ^ 8:=by
  rw[Xu,Xk,hm,Yj]
 show IntKind.i32.wrap ((BitVec.ofInt 32 n &&& BitVec.ofInt 32 255).toNat:Nat)=n%256;rw[key,Qi];omega
def Pg.Is (w:World) (v:Value) (idx:List Int) (bl:List (List Int)):Prop :=
 ∃g A c,v=.pointer (some ⟨g,0,none⟩)∧Rw.At w g 206 (idx.map (Value.int .u16)++[.slice A bl.length c])∧Sl w w.heap.size A (bl.flatten.map (Value.int .u16))
def Pg.Of (w:World) (v:Value) (f:Int→Int):Prop:=Pg.Is w v (Pg.idx f 4352) (zAn f 4352)
theorem Pg.Is.below {w w':World} {v:Value} {idx:List Int} {bl:List (List Int)} (h:Pg.Is w v idx bl) (hb:Below w.heap.size w w'):Pg.Is w' v idx bl:=by
 obtain⟨g,A,c,hv,ha,hs⟩:=h;exact⟨g,A,c,hv,ha.below hb,hs.below hb hb.size⟩
theorem zCt {w:World} {g:Nat} {t:TypeId} {xs:List Value} {v:Value} (h:Rw.At w g t (xs++[v])) {n:Nat} (hn:xs.length=n):w.cell? ⟨g,n,none⟩=some v :=
 h.cell n (by rw[ZJ (by omega),hn,Ye];rfl)
theorem zDB {w:World} {g:Nat} {t:TypeId} {xs:List Value} {v u:Value} (h:Rw.At w g t (xs++[v])) {n:Nat} (hn:xs[n]?=some u):w.cell? ⟨g,n,none⟩=some u :=
 h.cell n (by rw[ZS (List.getElem?_eq_some_iff.1 hn).1];exact hn)
def Pg.get (f:Int→Int) (c:Int):Int:=if 0≤c∧c≤1114111 then f c else 0
theorem zJy (v:Value) (f:Int→Int) (c:Int) (w:World) (h:Pg.Of w v f) :
 Calls prog 76 #[v,.int .i32 c] w fun e w'=>e=.returned (.int .u16 (Pg.get f c))∧Below w.heap.size w w':=by
 obtain⟨g,A,cp,rfl,ae,hs⟩:=h;obtain⟨o,ho⟩:∃o,Pg.get f c=o:=⟨_,rfl⟩;rw[ho]
 by_cases hc:0≤c∧c≤1114111
 rotate_left
 · have ag:o=0:=by rw[←ho];unfold Pg.get;rw[if_neg hc]
   subst ag;have hI:=Pg.in_any c w;rw[Zt hc]at hI;have HI:=hy' hI;clear hI ho hc ae hs;go_enter func76,ntmps76;go_wp2_with fail;refine HI.o.mono ?_;rintro e w1 ⟨rfl,rfl⟩;go_wp2_with fail;go_ret;exact⟨rfl,Zc _ _⟩
 obtain⟨N,hN⟩:∃N:Nat,c/256=N:=⟨(c/256).toNat,by omega⟩;obtain⟨M,hM⟩:∃M:Nat,c%256=M:=⟨(c%256).toNat,by omega⟩;have au:N<4352:=by omega
 have aq:M<256:=by omega
 have af:c=256*(N:Int)+M:=by omega
 have hand:=Pg.and_8 c hc.1 hc.2;rw[hM]at hand;have aa:=(zDA f 4352 (zA9 f N)).2 (.inr ⟨N,au,rfl⟩);have ak:=zOx f 4352 au;have ar:=zO1 aa;have aj:=zPM aa;have av:=zGB f 4352;obtain⟨p,hp⟩:∃p,Pg.at (zAn f 4352) (zA9 f N)=p:=⟨_,rfl⟩;rw[hp]at ak ar aj;have ai:=zIb (zAn f 4352) p M _ (zDZ f 4352) aj aq;rw[zGA f N aq]at ai;obtain⟨bn,ah⟩:∃bn,(zAn f 4352).length=bn:=⟨_,rfl⟩;rw[ah]at ar av ae;have z0:=zDB ae (n:=N) (u:=.int .u16 p) (by rw[Zw,ak];rfl);have z1:=zCt ae (n:=4352) (by rw[Ze,zCe]);obtain⟨b,o',rfl,hb,ap⟩:=hs (by rw[Ze,zFE _ (zDZ f 4352),ah];omega);have ao:=ap (p*256+M) (by rw[Ze,zFE _ (zDZ f 4352),ah];omega);rw[Zw,ai,Zx,←af]at ao;have ag:f c=o:=by rw[←ho];unfold Pg.get;rw[if_pos hc]
 rw[ag]at ao;have hI:=Pg.in_any c w;rw[Zu hc]at hI;have HI:=hy' hI;have ax:(N:Int)<4352:=by omega
 have az:(0:Int)≤N:=by omega
 have a6:(M:Int)<256:=by omega
 have a1:(0:Int)≤M:=by omega
 have ay:(p:Int)<bn:=by omega
 have a7:(0:Int)≤p:=by omega
 have aw:=ae.lt;rw[←Yi]at ao;clear hI ho hc hM af aa ak aj hp ai ah hs ap ag av ae;go_enter func76,ntmps76;go_wp2_with fail;refine HI.o.mono ?_;rintro e w1 ⟨rfl,rfl⟩;go_wp2_with fail;go_quiet (fail);go_wp2_with fail;go_ret;exact⟨rfl,below_drewN (Zc _ _) _⟩
open Go.ChangeMaps (setBlock modify_eq_set)
open Go.ChangeMaps
def Mp.Is (P:Program) (k:TypeId) (w:World) (b:Nat) (F:Value→Option Value):Prop :=
 ∃es clock,w.heap[b]?=some (.map es clock)∧(∀e∈es.toList,∃l,keyOf P k e.key=some l)∧(es.toList.Pairwise fun x y=>x.key≠y.key)∧∀x v,F x=some v↔∃e∈es.toList,e.key=x∧e.val=v
section
variable {P:Program} {k:TypeId} {w:World} {b:Nat} {F:Value→Option Value}
theorem Mp.Is.made (w:World) (P:Program) (k:TypeId):Mp.Is P k (w.alloc (.map #[] 0)) w.heap.size fun _=>none :=
 ⟨#[],0,ZV w _,fun e he=>by simp at he,by simp,fun x v=>by simp⟩
theorem Mp.Is.lt (h:Mp.Is P k w b F):b<w.heap.size:=by
 obtain⟨es,c,hb,_⟩:=h;exact zDq hb
theorem Mp.Is.below {w':World} (h:Mp.Is P k w b F) (hb:Below w.heap.size w w'):Mp.Is P k w' b F:=by
 have aa:=h.lt;obtain⟨es,c,hh,r⟩:=h;exact⟨es,c,(hb.block b aa).trans hh,r⟩
theorem Mp.Is.grown {w':World} {row:Option Nat} (h:Mp.Is P k w b F) (hg:w.grownBy w' row) (hne:some b≠row):Mp.Is P k w' b F:=by
 have aa:=h.lt;obtain⟨es,c,hh,r⟩:=h;exact⟨es,c,(hg.block b aa hne).trans hh,r⟩
theorem Mp.Is.look {t e:TypeId} (h:Mp.Is P k w b F) (K:Go.Maps.Keyed P k) (ht:P.underlying t=some (.map k e)) {z:Value} (hz:(zeroValue e).run P w=.ok z w) {x:Value} {l:Lit} (hk:keyOf P k x=some l) (c:Bool) :
 (Instr.lookup t (.map (some b)) x c).run P w=.ok (if c=true then .tuple #[(F x).getD z,.bool (F x).isSome] else (F x).getD z) w:=by
 obtain⟨es,clock,hb,ae,af,hF⟩:=h;rcases K.find w hk es.toList ae with ⟨h1,h2⟩|⟨j,e0,h1,h2,h3⟩
 · have hn:F x=none:=by
    cases hx:F x with
    | none=>rfl
    | some v =>
      obtain⟨e,he,aa,_⟩:=(hF x v).1 hx;exact absurd aa (h2 e he)
   rw[hn];simp[Instr.lookup,Y6 ht,Xz hb,K.check w _ hk,h1,hz,Result.andThen]
 have hn:F x=some e0.val:=(hF x _).2 ⟨e0,Zk h2,h3,rfl⟩;rw[hn];simp[Instr.lookup,Y6 ht,Xz hb,K.check w _ hk,h1,Result.andThen]
theorem Mp.Is.put {t e:TypeId} (h:Mp.Is P k w b F) (K:Go.Maps.Keyed P k) (ht:P.underlying t=some (.map k e)) {x v:Value} {l:Lit} (hk:keyOf P k x=some l) (F':Value→Option Value) (h1:F' x=some v) (h2:∀y,y≠x→F' y=F y) :
 ∃w',(Instr.mapUpdate t (.map (some b)) x v).run P w=.ok () w'∧Mp.Is P k w' b F'∧w.grownBy w' (some b):=by
 obtain⟨es,clock,hb,ah,af,hF⟩:=h;rcases K.find w hk es.toList ah with ⟨g1,g2⟩|⟨j,e0,g1,g2,g3⟩
 · refine⟨setBlock w b (.map (es.push ⟨x,v,clock⟩) (clock+1)),?_,⟨es.push ⟨x,v,clock⟩,clock+1,X7 hb _,?_,?_,?_⟩,⟨rfl,rfl,rfl,by simp[setBlock],fun i _ hi=>X6 hb _ (fun e=>hi (by rw[e]))⟩⟩
   · simp[Instr.mapUpdate,Y6 ht,Xz hb,K.check w false hk,g1,QZ _ hb,Result.andThen,setBlock]
   · intro e he;rw[QJ]at he;rcases List.mem_append.1 he with he|he
     · exact ah e he
     rw[Zp]at he;subst he;exact⟨l,hk⟩
   · rw[QJ,Jj];refine⟨af,by simp,fun a ha c hc=>?_⟩;rw[Zp]at hc;subst hc;exact g2 a ha
   intro y u;rw[QJ]
   by_cases hy:y=x
   · subst hy;rw[h1];constructor
     · intro hu;cases hu
       exact⟨_,XG _ (List.mem_singleton.2 rfl),rfl,rfl⟩
     rintro⟨a,ha,aa,hv⟩;rcases List.mem_append.1 ha with ha|ha
     · exact absurd aa (g2 a ha)
     rw[Zp]at ha;subst ha;exact ZT some hv
   rw[h2 y hy,hF y u];constructor
   · rintro⟨a,ha,r⟩;exact⟨a,YO _ ha,r⟩
   rintro⟨a,ha,aa,hv⟩;rcases List.mem_append.1 ha with ha|ha
   · exact⟨a,ha,aa,hv⟩
   rw[Zp]at ha;subst ha;exact absurd aa.symm hy
 have hj:es[j]?=some e0:=by simpa using g2
 have ag:j<es.toList.length:=(List.getElem?_eq_some_iff.1 g2).1;have ae:(es.modify j (fun e'=>{ e' with key:=x,val:=v })).toList=es.toList.set j { e0 with key:=x,val:=v }:=by rw[Array.toList_modify,modify_eq_set _ _ _ _ g2]
 have who:∀a∈es.toList.set j { e0 with key:=x,val:=v },a={ e0 with key:=x,val:=v }∨(a∈es.toList∧a.key≠x):=by
  intro a ha;obtain⟨i,hi,ex⟩:=Xr ha;rw[Qj]at ex;split at ex
  · exact .inl ex.symm
  rename_i hne;have hi':i<es.toList.length:=by simpa using hi
  refine .inr ⟨ex▸XT hi',?_⟩;have h0:es.toList[j]=e0:=(List.getElem?_eq_some_iff.1 g2).2;rcases ZZ i j with hl|hl
  · have:=List.pairwise_iff_getElem.1 af i j hi' ag hl;rw[ex,h0,g3]at this;exact this
  have:=List.pairwise_iff_getElem.1 af j i ag hi' (by omega);rw[ex,h0,g3]at this;exact this.symm
 have aj:∀a∈es.toList,a.key≠x→a∈es.toList.set j { e0 with key:=x,val:=v }:=by
  intro a ha hne;obtain⟨i,hi,ex⟩:=Xr ha;refine List.mem_iff_getElem.2 ⟨i,by simpa using hi,?_⟩;rw[Qj,Zj,ex];intro e;subst e;have h0:es.toList[j]=e0:=(List.getElem?_eq_some_iff.1 g2).2;rw[h0]at ex;exact hne (by rw[←ex,g3])
 have new:{ e0 with key:=x,val:=v }∈es.toList.set j { e0 with key:=x,val:=v }:=List.mem_iff_getElem.2 ⟨j,by simpa using ag,by simp⟩;refine⟨setBlock w b (.map (es.modify j (fun e'=>{ e' with key:=x,val:=v })) clock),?_,⟨es.modify j (fun e'=>{ e' with key:=x,val:=v }),clock,X7 hb _,?_,?_,?_⟩,⟨rfl,rfl,rfl,by simp[setBlock],fun i _ hi=>X6 hb _ (fun e=>hi (by rw[e]))⟩⟩
 · simp[Instr.mapUpdate,Y6 ht,Xz hb,K.check w false hk,g1,hj,g3,K.stays w hk,QZ _ hb,Result.andThen,setBlock]
 · intro a ha;rw[ae]at ha;rcases who a ha with rfl|⟨ha,_⟩
   · exact⟨l,hk⟩
   exact ah a ha
 · rw[ae];refine List.pairwise_iff_getElem.2 fun i i' hi hi' ai=>?_
   rw[Y3]at hi hi';rw[Qj,Qj];have h0:es.toList[j]=e0:=(List.getElem?_eq_some_iff.1 g2).2;have hp:=List.pairwise_iff_getElem.1 af i i' hi hi' ai
   by_cases hji:j=i
   · subst hji;rw[Zl rfl,Zj (by omega)];rw[h0,g3]at hp;exact hp
   rw[Zj hji]
   by_cases hji':j=i'
   · subst hji';rw[Zl rfl];rw[h0,g3]at hp;exact hp
   rw[Zj hji'];exact hp
 intro y u;rw[ae]
 by_cases hy:y=x
 · subst hy;rw[h1];constructor
   · intro hu;cases hu
     exact⟨_,new,rfl,rfl⟩
   rintro⟨a,ha,aa,hv⟩;rcases who a ha with rfl|⟨_,hne⟩
   · exact ZT some hv
   exact absurd aa hne
 rw[h2 y hy,hF y u];constructor
 · rintro⟨a,ha,aa,hv⟩;exact⟨a,aj a ha (by rw[aa];exact hy),aa,hv⟩
 rintro⟨a,ha,aa,hv⟩;rcases who a ha with rfl|⟨ha,_⟩
 · exact absurd aa.symm hy
 exact⟨a,ha,aa,hv⟩
theorem zH6 {α β:Type} {f:α→Option β}:∀{l:List α},(∀x∈l,∃y,f x=some y)→∃ys,l.mapM f=some ys
 | [],_=>⟨[],rfl⟩
 | x::l,h=>by
   obtain⟨y,hy⟩:=h x Zq;obtain⟨ys,aa⟩:=zH6 fun z hz=>h z (Zv _ hz)
   exact⟨y::ys,by simp[List.mapM_cons,hy,aa]⟩
theorem zLq {e:TypeId} {n:Nat} {q:IntKind} (A:Go.WideMaps.ArrKey P k e n) (he:P.underlying e=some (.int q)) (ai:∃m,P.types.size=m+1) (xs:List Int) (hn:xs.length=n) (hw:∀x∈xs,(Lit.int q x).wf=true) :
 ∃l,keyOf P k (.agg (xs.map (Value.int q)).toArray)=some l:=by
 obtain⟨m,hm⟩:=ai
 have ae:(Value.agg (xs.map (Value.int q)).toArray).formed P k=true:=by
  unfold Value.formed;rw[A.hu];simp[A.size,hn]
 have aa:∃ls,P.keyLits (P.types.size+1) k (xs.map (Value.int q))=some ls:=by
  have af:∃ys,((List.range n).mapM fun i=>P.keyLits P.types.size e (((xs.map (Value.int q)).drop (i*P.cellsOf e)).take (P.cellsOf e)))=some ys:=by
   refine zH6 fun i hi=>?_
   rw[Jk]at hi;have hi':i<xs.length:=by omega
   have hx:(((xs.map (Value.int q)).drop (i*P.cellsOf e)).take (P.cellsOf e))=[.int q xs[i]]:=by
    rw[A.one,Nat.mul_one,List.drop_eq_getElem_cons (by simpa using hi')];simp
   rw[hx,hm];unfold Program.keyLits;rw[he];simp[hw xs[i] (XT hi')]
  obtain⟨ys,ah⟩:=af;unfold Program.keyLits;rw[A.hu];simp only[Ze,hn,A.size,Yv];rw[ah];exact⟨_,rfl⟩
 obtain⟨ls,ag⟩:=aa;unfold keyOf;rw[A.hu];simp only[A.keyType ⟨m,hm⟩,ae,Bool.and_self,Yv,Value.cells];rw[ag];exact⟨_,rfl⟩
end
end
section
open Go.RowKit
theorem zQM {P:Program} {f:FuncId} {fn:Func} (hf:P.funcs[f]?=some fn) (aa:(fn.name == "runtime.NumGoroutine")=false) (hb:fn.body.isNone=false) (args:Array Value) (w:World) :
 (callFunc f args).run P w=.ok (.enter f args) w:=by
 rcases h:fn.body with _|c
 · rw[h]at hb;cases hb
 exact C.enter hf aa h args w
theorem C.fld (v:Value) (w:World):(Instr.field 96 (.agg #[v]) 0).run prog w=.ok v w:=by
 have h1:=underlying96;have h2:=underlying80;simp[Instr.field,Y6 h1,asAgg,Go.part,isAgg,Y6 h2]
theorem zPS:(prog.info? 242).map (fun i=>(i.zero,i.size,i.bytes))=some (some (.agg #[.int .i32 0,.int .i32 0]),2,8):=by kernel_rfl
def C.fl (k:IntKind):List (Int × Int)→List Value
 | []=>[]
 | (x,y)::t=>.int k x::.int k y::C.fl k t
theorem C.fl_len (k:IntKind):∀rs,(C.fl k rs).length=2*rs.length
 | []=>rfl
 | (x,y)::t=>by show (C.fl k t).length+1+1=2*(t.length+1);rw[C.fl_len k t];omega
theorem C.fl_app (k:IntKind):∀a b,C.fl k (a++b)=C.fl k a++C.fl k b
 | [],b=>rfl
 | (x,y)::t,b=>by show _::_::C.fl k (t++b)=_;rw[C.fl_app k t b];rfl
theorem C.fl_get (k:IntKind):∀(rs:List (Int × Int)) (i:Nat) (r:Int × Int),rs[i]?=some r→(C.fl k rs)[2*i]?=some (.int k r.1)∧(C.fl k rs)[2*i+1]?=some (.int k r.2)
 | [],i,r,h=>by simp at h
 | (x,y)::t,0,r,h=>by simp at h;subst h;exact⟨rfl,rfl⟩
 | (x,y)::t,i+1,r,h=>by
  have:=C.fl_get k t i r (by simpa using h);rw[show 2*(i+1)=2*i+1+1 by omega];exact this
theorem own_ne {w:World} {base:Nat} {e:TypeId} {size n:Nat} {v:Value} {xs:List Value} (h:w.ownsRow base e size v n xs) (g:Nat) (hg:g<base):v.ownBlock≠some g:=fun hk=>by have:=(h.lt _ hk).1;omega
def zRq (rs:List (Int × Int)) (w:World) (e:Ending) (w':World):Prop :=
 ∃A c,e=.returned (.slice A rs.length c)∧w'.ownsRow w.heap.size 242 2 (.slice A rs.length c) rs.length (C.fl .i32 rs)∧Below w.heap.size w w'
theorem zLr (A:Option Addr) (c n B:Nat) (l:List Int) (w:World) (hn:l.length=n) (bn:n≤1000000) (bp:n%2=0) (hbd:∀x∈l,0≤x∧x≤1114112) (hB:B≤w.heap.size) (hA:Sl w B A (l.map (Value.int .i32))) :
 Calls prog 138 #[.agg #[.slice A n c]] w (zRq (zAH l) w):=by
 have HN:=hy' hn;have aq:=hy' hbd;have HL:=hy' (zGy l);clear hn hbd;obtain⟨j0,hj0,a1,bb,a7⟩:=Z7 zPS;go_enter func138,ntmps138;go_wp2;go_loopw [4,3] (fun vi v wr=>∃j k:Nat,k≤2*j∧2*j≤k∧k≤n∧vi=.int .i64 (k:Int)∧wr.ownsRow (w.heap.size+1) 242 2 v j (C.fl .i32 ((zAH l).take j))∧Below (w.heap.size+1) (w.alloc (.cells #[.slice A n c] 96)) wr) (fun vi _ _=>n-(intOf vi).toNat)
 case atStart=>exact⟨0,0,by omega,by omega,by omega,rfl,ZI _ _ _ _,Zc _ _⟩
 obtain⟨j,k,bo,bm,hj,rfl,aa,af⟩:=hrel;have ba:w.heap.size+1≤wr.heap.size:=by have:=af.size;simpa using this
 obtain⟨ai,au⟩:=zRp af;obtain⟨bc,bh⟩:=zHP ai 0;simp only[Qg,Y4]at bc;clear ai
 by_cases hlt:k<n
 rotate_left
 · obtain rfl:k=n:=by omega
   have g1:¬(k:Int)<k:=by omega
   have e0:(zAH l).take j=zAH l:=Zi (by rw[HL.o,HN.o];omega);have e1:j=(zAH l).length:=by rw[HL.o,HN.o];omega
   rw[e0]at aa;have E1:=hy' e1;clear e0 e1;obtain⟨A5,c5,rfl⟩:=zA3 aa;go_wp2;go_ret;refine⟨A5,c5,ZT (fun q=>Ending.returned (.slice A5 q c5)) E1.o,?_,au⟩;rw[←E1.o];exact own_base aa (by omega)
 obtain⟨x,hx⟩:∃x,l[k]?=some x:=⟨_,Zb (by rw[HN.o];omega)⟩;obtain⟨y,hy⟩:∃y,l[k+1]?=some y:=⟨_,Zb (by rw[HN.o];omega)⟩;have bg:=aq.o x (Zk hx);have bf:=aq.o y (Zk hy);obtain⟨bl,ar⟩:=bg;obtain⟨bi,bk⟩:=bf;obtain⟨b,o,rfl,bj,a6,aw⟩:=hA.ints hx;have a8:=aw _ _ hy;rw[←(zAP au).1 _ _ (by omega)]at a6 a8;have ao:=own_ne aa w.heap.size (by omega);have ag:=own_ne aa b (by omega);clear aw hA
 have hg:(zAH l)[j]?=some (x,y-1):=by
  obtain rfl:k=2*j:=by omega
  rw[zJt l j (by rw[HN.o];omega)];rw[Zb (by rw[HN.o];omega)]at hx hy;simp only[Zg]at hx hy;rw[hx,hy]
 have HG:=hy' hg;have g1:(k:Int)<n:=by omega
 clear hg hx hy;go_wp2;have ak:=hy' (zCa (w:=(wr.alloc (.cells #[.int .i32 x,.int .i32 (y-1)] 242)).drew) (A:=some ⟨wr.heap.size,0,none⟩) (xs:=[.int .i32 x,.int .i32 (y-1)]) rfl 242 (0,0) (ZV wr _));have aj:=(aa.alloc (.cells #[.int .i32 x,.int .i32 (y-1)] 242)).drew;have ap:Below (w.heap.size+1) (w.alloc (.cells #[.slice (some ⟨b,o,none⟩) n c] 96)) ((wr.alloc (.cells #[.int .i32 x,.int .i32 (y-1)] 242)).drew):=(af.alloc ba _).drew;have ax:=hy' ap;clear ap;have q1:(0:Int)≤(k:Int)+1:=by omega
 have q2:(k:Int)+1<n:=by omega
 have q3:((k:Int)+1).toNat=k+1:=by omega
 have q4:(0:Int)≤(k:Int):=by omega
 have av:w.heap.size+1≤((wr.alloc (.cells #[.int .i32 x,.int .i32 (y-1)] 242)).drew).heap.size:=by have:=ax.o.size;simpa using this
 have az:IntKind.i64.wrap ((k:Int)+1)=(k:Int)+1:=by rw[Z5];omega
 have ay:IntKind.i32.wrap (y-1)=y-1:=by rw[Qi];omega
 go_region_held3 (fun w'=>w'.cell? ⟨w.heap.size,0,none⟩=some (.slice (some ⟨b,o,none⟩) n c)∧w'.cell? ⟨b,o+k,none⟩=some (.int .i32 x)∧w'.cell? ⟨b,o+(k+1),none⟩=some (.int .i32 y)) (first
 | go_keep
 | (go_split_ands
    refine⟨?_,?_,?_⟩
    · (rw[ae.cell_far _ (by simp;omega) (Z9 ao)];assumption)
    · (rw[ae.cell_far _ (by simp;omega) (Z9 ag)];assumption)
    (rw[ae.cell_far _ (by simp;omega) (Z9 ag)];assumption)))
  ((refine zG8 _ (by rfl) _ _ _ (by rfl) (w.heap.size+1) 242 j0 _ 2 8 underlying239 hj0 a1 bb a7 rfl (by omega) _ j _ (by rfl) aj _ (some ⟨wr.heap.size,0,none⟩) 1 1 [.int .i32 x,.int .i32 (y-1)] (by rfl) (by rfl) ak.out (by simp[Value.oneCell']) (by simp only[maxLen];omega) (by omega) av ?_;intro v1 w2 ah ar ae))
 clear q1 q2 q3 q4 az ay av;go_wp2;refine⟨⟨j+1,k+2,by omega,by omega,by omega,by go_num,?_,ax.o.trans ar⟩,by simp[intOf];omega⟩;rw[ZA,HG.o,C.fl_app];exact ah
end
end Go.Proofs.YthngjlllojiacaaGreatDoor
