/- The layer cpset: what its walks share. -/
import Derived.Test.YtddbccflcekdpaaGreatDoorMdTable
set_option maxRecDepth 100000
set_option maxHeartbeats 4000000
set_option linter.unusedVariables false
set_option linter.unusedSimpArgs false
namespace Go.Proofs.YtddbccflcekdpaaGreatDoor
open Go.Proofs.Tryz
section
open Go.RowKit
def zSt (l:List Int) (w:World) (e:Ending) (w':World):Prop :=
 ∃A c,e=.returned (.agg #[.slice A l.length c])∧w'.ownsRow w.heap.size 21 1 (.slice A l.length c) l.length (l.map (Value.int .i32))∧Below w.heap.size w w'
theorem zRT {w wr:World} {cs:Array Value} {t:TypeId} (h:Below (w.heap.size+1) (w.alloc (.cells cs t)) wr):wr.heap[w.heap.size]?=some (.cells cs t (0,0))∧Below w.heap.size w wr:=by
 refine⟨(h.block w.heap.size (by omega)).trans (ZS _ _),?_⟩;exact ((Zc _ _).alloc (Za _) _).trans (h.mono (by omega))
theorem zIe {w:World} {g:Nat} {cs:Array Value} {t:TypeId} (h:w.heap[g]?=some (.cells cs t (0,0))) (i:Nat):w.cell? ⟨g,i,none⟩=cs[i]?∧w.frozen? ⟨g,i,none⟩=false:=by
 constructor
 · simp[World.cell?,h]
 simp[World.frozen?,h]
theorem own_base {w:World} {base aa:Nat} {e:TypeId} {size n:Nat} {v:Value} {xs:List Value} (h:w.ownsRow base e size v n xs) (hb:aa≤base):w.ownsRow aa e size v n xs:=by
 obtain⟨h1,h2⟩:=h;refine⟨h1,?_⟩;rcases h2 with h2|⟨g,cap,ae,hv,hg,r⟩
 · exact .inl h2
 exact .inr ⟨g,cap,ae,hv,by omega,r⟩
theorem zRe {w:World} {g:Nat} {u v:Value} {t:TypeId} (h:w.heap[g]?=some (.cells #[u] t (0,0))):(w.setCell ⟨g,0,none⟩ v).heap[g]?=some (.cells #[v] t (0,0)):=by
 simp[World.setCell,YX,h]
def C.par (i:Nat):Bool:=((i:Int)%2 == 1)
theorem zQc (i:Nat) (hi:i<9223372036854775808):bits BinOp.and IntKind.i64 (i:Int) 1=((i%2:Nat):Int):=by
 have aa:(2:Int) ^ 63=9223372036854775808:=by decide
 have h:=bits_mask .i64 63 (by decide) (fun n h0 h1=>by rw[aa]at h1;rw[Ya];omega) 1 (by decide) (i:Int) (by omega) (by rw[aa];omega);have e:((2:Int) ^ 1-1)=1:=by decide
 rw[e]at h;rw[h];omega
theorem Sl.ints {w:World} {B:Nat} {A:Option Addr} {k:IntKind} {l:List Int} (h:Sl w B A (l.map (Value.int k))) {i:Nat} {x:Int} (hx:l[i]?=some x):∃b o,A=some ⟨b,o,none⟩∧b<B∧w.cell? ⟨b,o+i,none⟩=some (.int k x)∧∀j y,l[j]?=some y→w.cell? ⟨b,o+j,none⟩=some (.int k y):=by
 have hi:i<l.length:=(List.getElem?_eq_some_iff.1 hx).1;obtain⟨b,o,hA,hb,hc⟩:=h (by rw[Ze];omega)
 have hj:∀j y,l[j]?=some y→w.cell? ⟨b,o+j,none⟩=some (.int k y):=by
  intro j y hy;have hj:j<l.length:=(List.getElem?_eq_some_iff.1 hy).1;rw[hc j (by rw[Ze];omega),Zs,hy];rfl
 exact⟨b,o,hA,hb,hj i x hx,hj⟩
theorem C.enter {P:Program} {f:FuncId} {fn:Func} {c:Code} (hf:P.funcs[f]?=some fn) (aa:(fn.name == "runtime.NumGoroutine")=false) (hb:fn.body=some c) (args:Array Value) (w:World) :
 (callFunc f args).run P w=.ok (.enter f args) w:=by
 have h1:fn.name ≠ "runtime.NumGoroutine" := by simpa using aa
 simp[callFunc,hf,h1,hb]
theorem zC0 (A:Option Addr) (n c B:Nat) (l:List Int) (w:World) (hn:l.length=n) (ao:n≤1000000) (hB:B≤w.heap.size) (hA:Sl w B A (l.map (Value.int .i32))) :
 Calls prog 80 #[.slice A n c] w fun r w'=>∃A' c',r=.returned (.slice A' n c')∧w'.ownsRow w.heap.size 21 1 (.slice A' n c') n (l.map (Value.int .i32))∧Go.RowKit.Below w.heap.size w w':=by
 obtain⟨j0,hj0,ak,aj,ag⟩:=Z7 zCw;have HN:=hy' hn;clear hn;rcases A with _|ad
 · have hl:l=[]:=by
    rcases l with _|⟨x,t⟩
    · rfl
    obtain⟨b,o,h,_⟩:=hA (by simp);cases h
   subst hl;obtain rfl:0=n:=HN.o;have ah:∀w,(binOp .eql 70 (.slice none 0 c) (.slice none 0 0)).run prog w=.ok (.bool true) w:=fun w=>by kernel_rfl
   go_enter func80,ntmps80;go_wp2;go_ret;exact⟨none,0,rfl,ZI _ _ _ _,Zc _ _⟩
 have af:Go.RowKit.Below w.heap.size w (w.alloc (.cells #[] 21)):=(Zc _ _).alloc (Za _) _;have hS:=hy' (hA.belowN af hB (Za _));have ah:∀w,(binOp .eql 70 (.slice (some ad) n c) (.slice none 0 0)).run prog w=.ok (.bool false) w:=fun w=>by first|exact Lib.run_eql_slice_nil w _ _ _ _ _ underlying70|kernel_rfl|simp[binOp,Op.equal,Op.maxDepth,Op.equalIn,Y6 underlying70]
 have ae:(w.alloc (.cells #[] 21)).ownsRow w.heap.size 21 1 (.slice (some ⟨w.heap.size,0,none⟩) 0 0) 0 []:=⟨rfl,.inr ⟨w.heap.size,0,#[],rfl,Za _,ZS w _,Za _,by decide,rfl,rfl⟩⟩;go_enter func80,ntmps80;go_wp2_with (at_builtin;refine zAc _ rfl _ _ _ rfl w.heap.size 21 j0 _ 1 4 underlying70 hj0 ak aj ag rfl (by omega) _ 0 _ rfl ae _ (some ad) n c (l.map (Value.int .i32)) rfl (by rw[Ze,HN.o];omega) hS.out (zBN _ _) (by simp only[maxLen];omega) (by omega) (by simp) ?_;intro v1 w2 aa ai _);obtain⟨A5,c5,rfl⟩:=zA2 aa;go_wp2;go_ret;rw[ZU]at aa;exact⟨A5,c5,by simp,by simpa using aa,af.trans ai⟩
def Md.Ok (T:List Rw.Row):Prop:=T.length≤1000000∧Md.rises T∧Md.bd T∧∀r∈T,r.2.2.length≤1000000
def Md.Is (w:World) (v:Value) (T:List Rw.Row) (S:List Int):Prop:=∃A c XA xc,v=zBs A T.length c XA S.length xc∧Rw.Sees w A T∧Sl w w.heap.size XA (S.map (Value.int .i32))
theorem Md.Is.below {w w':World} {v:Value} {T:List Rw.Row} {S:List Int} (h:Md.Is w v T S) (hb:Below w.heap.size w w'):Md.Is w' v T S:=by
 obtain⟨A,c,XA,xc,h1,h2,h3⟩:=h;exact⟨A,c,XA,xc,h1,h2.below hb,h3.below hb hb.size⟩
theorem zGW {v:Value} {T:List Rw.Row} {S:List Int} {w:World} (d:Int) (ok:Md.Ok T) (h:Md.Is w v T S) (h3 : -2147483648≤d) (h4:d≤2147483647) :
 Calls prog 158 #[v,.int .i32 d] w (Md.RetFind T d w):=by
 obtain⟨A,c,XA,xc,rfl,h2,_⟩:=h;exact Md.find_any A T.length c XA S.length xc T d w rfl ok.1 ok.2.1 ok.2.2.1 h3 h4 h2
theorem Md.class_any (v:Value) (T:List Rw.Row) (S:List Int) (d:Int) (w:World) (ok:Md.Ok T) (h:Md.Is w v T S) (h3 : -2147483648≤d) (h4:d≤2147483647) :
 Calls prog 187 #[v,.int .i32 d] w fun e w'=>e=.returned (.int .i64 (Md.cls T d))∧Below w.heap.size w w':=by
 rw[zQa];have hv:=h;obtain⟨A,c,XA,xc,rfl,h2,hX⟩:=hv;obtain⟨xn,hxn⟩:∃k,S.length=k:=⟨_,rfl⟩;obtain⟨n,hn⟩:∃k,T.length=k:=⟨_,rfl⟩;rw[hn,hxn]at h ⊢;have aa:Below w.heap.size w (w.alloc (.cells #[.slice A n c,.slice XA xn xc] 91)):=(Zc _ _).alloc (Za _) _;have ae:Rw.At (w.alloc (.cells #[.slice A n c,.slice XA xn xc] 91)) w.heap.size 91 [.slice A n c,.slice XA xn xc]:=Rw.At.new w 91 [.slice A n c,.slice XA xn xc];have hF:=zGW d ok (h.below aa) h3 h4;have z0:=ae.cell 0 rfl;have z1:=ae.cell 1 rfl;have HB:=hy' aa;clear h h2 hX hn hxn aa ae ok;unfold zBs at hF ⊢;go_enter func187,ntmps187;go_wp2_with fail;refine hF.mono ?_;rintro e w1 ⟨a,rfl,_,af⟩;have ag:=hy' (HB.o.trans (af.mono HB.o.size));clear af z0 z1 hF;unfold zI5;obtain⟨r,hr⟩:∃r,Md.rowOf T d=r:=⟨_,rfl⟩;rw[hr];have HR:=hy' hr;clear hr;go_wp2_with fail;go_ret;rw[HR.o];exact⟨rfl,ag.o.alloc ag.o.size _⟩
def Md.RetOwn (l:List Int) (w:World) (e:Ending) (w':World):Prop :=
 ∃A c,e=.returned (.slice A l.length c)∧w'.ownsRow w.heap.size 21 1 (.slice A l.length c) l.length (l.map (Value.int .i32))∧Below w.heap.size w w'
theorem zP3 (v:Value) (T:List Rw.Row) (S:List Int) (d:Int) (w:World) (ok:Md.Ok T) (h:Md.Is w v T S) (h3 : -2147483648≤d) (h4:d≤2147483647) :
 Calls prog 186 #[v,.int .i32 d] w (Md.RetOwn (Md.mp T d) w):=by
 have hv:=h;obtain⟨A,c,XA,xc,rfl,h2,hX⟩:=hv;obtain⟨xn,hxn⟩:∃k,S.length=k:=⟨_,rfl⟩;obtain⟨n,hn⟩:∃k,T.length=k:=⟨_,rfl⟩;rw[hn,hxn]at h ⊢;have ai:Below w.heap.size w (w.alloc (.cells #[.slice A n c,.slice XA xn xc] 91)):=(Zc _ _).alloc (Za _) _;have ak:Rw.At (w.alloc (.cells #[.slice A n c,.slice XA xn xc] 91)) w.heap.size 91 [.slice A n c,.slice XA xn xc]:=Rw.At.new w 91 [.slice A n c,.slice XA xn xc];have hF:=zGW d ok (h.below ai) h3 h4;have z0:=ak.cell 0 rfl;have z1:=ak.cell 1 rfl;have HB:=hy' ai;have hmb:=zId ok.2.2.1 d
 have hlen:(Md.rowOf T d).2.2.length≤1000000:=by
  unfold Md.rowOf;cases hf:Md.find T d with
  | none=>exact ZG _
  | some r=>exact ok.2.2.2 r (zAp hf).1
 have HP:=hy' (zBZ d (w.alloc (.cells #[.slice A n c,.slice XA xn xc] 91)) h3 h4);obtain⟨m,hm⟩:∃m,Md.mp T d=m:=⟨_,rfl⟩;rw[hm]at hmb ⊢;have HM:=hy' hm;rcases hpk:zAh d with ⟨x,y,is⟩
 have hp:=HP.o;rw[hpk]at hp;have ah:=hy' hpk;clear h h2 hX hn hxn ai ak ok hm hpk HP;unfold zBs at hF ⊢;cases is
 · have ag:m=(Md.rowOf T d).2.2:=by
    rw[←HM.o,←zQb];unfold Md.mp;rw[ah.o,Zl (by simp)]
   obtain⟨r,hr⟩:∃r,Md.rowOf T d=r:=⟨_,rfl⟩;unfold Md.RetFind at hF;rw[hr]at ag hlen hF;subst ag;clear hr HM ah hmb;go_enter func186,ntmps186;go_wp2_with fail;refine hp.mono ?_;rintro e w0 ⟨rfl,rfl⟩;go_wp2_with fail;refine hF.mono ?_;rintro e w1 ⟨a,rfl,ao,aq⟩;have ar:=hy' (HB.o.trans (aq.mono HB.o.size));have af:Below w1.heap.size w1 (w1.alloc (.cells #[.int .i32 r.1,.int .i64 r.2.1,.slice a.1 r.2.2.length a.2] 163)):=(Zc _ _).alloc (Za _) _;have hC:=zC0 a.1 r.2.2.length a.2 _ r.2.2 _ rfl hlen (Za _) (ao.below af af.size);have aj:=hy' (ar.o.trans (af.mono ar.o.size));clear aq z0 z1 hF ao af hp;unfold zI5;go_wp2_with fail;refine hC.mono ?_;rintro e w2 ⟨A',c',rfl,ae,ap⟩;have HO:=hy' (own_base ae aj.o.size);have au:=hy' (aj.o.trans (ap.mono aj.o.size));clear ae ap hC;go_wp2_with fail;go_ret;exact⟨A',c',rfl,HO.o,au.o⟩
 have ag:m=[x,y]:=by
  rw[←HM.o];unfold Md.mp;rw[ah.o,Zo rfl]
 subst ag;clear HM ah hF hlen;go_enter func186,ntmps186;go_wp2_with fail;refine hp.mono ?_;rintro e w0 ⟨rfl,rfl⟩;go_wp2_with fail;go_ret;have aa:=ZS (w.alloc (.cells #[.slice A n c,.slice XA xn xc] 91)) (.cells #[.int .i32 x,.int .i32 y] 21);rw[ZL]at aa;exact⟨_,_,rfl,⟨rfl,.inr ⟨_,_,#[.int .i32 x,.int .i32 y],rfl,ZX _,aa,Za _,by decide,rfl,rfl⟩⟩,HB.o.alloc HB.o.size _⟩
theorem Pg.in_any (c:Int) (w:World):Calls prog 85 #[.int .i32 c] w fun e w'=>e=.returned (.bool (decide (0≤c∧c≤1114111)))∧w=w':=by
 go_enter func85,ntmps85
 by_cases h0:0≤c
 · by_cases h1:c≤1114111
   · go_wp2;go_ret;exact⟨zBb (by simp;omega),rfl⟩
   go_wp2;go_ret;exact⟨zBb (by simp;omega),rfl⟩
 go_wp2;go_ret;exact⟨zBb (by simp;omega),rfl⟩
theorem Pg.and_8 (n:Int) (h0:0≤n) (h1:n≤1114111):bits .and .i32 n 255=n%256:=by
 have hm:(BitVec.ofInt 32 255).toNat=2 ^ 8-1:=by decide
 have key:(BitVec.ofInt 32 n &&& BitVec.ofInt 32 255).toNat=(n%((2 ^ 32:Nat):Int)).toNat%2 ^ 8:=by
  rw[Xw,Xn,hm,Yl]
 show IntKind.i32.wrap ((BitVec.ofInt 32 n &&& BitVec.ofInt 32 255).toNat:Nat)=n%256;rw[key,Qr];omega
def Pg.Is (w:World) (v:Value) (idx:List Int) (bl:List (List Int)):Prop :=
 ∃g A c,v=.pointer (some ⟨g,0,none⟩)∧Rw.At w g 141 (idx.map (Value.int .u16)++[.slice A bl.length c])∧Sl w w.heap.size A (bl.flatten.map (Value.int .u16))
def Pg.Of (w:World) (v:Value) (f:Int→Int):Prop:=Pg.Is w v (Pg.idx f 4352) (zAo f 4352)
theorem Pg.Is.below {w w':World} {v:Value} {idx:List Int} {bl:List (List Int)} (h:Pg.Is w v idx bl) (hb:Below w.heap.size w w'):Pg.Is w' v idx bl:=by
 obtain⟨g,A,c,hv,ha,hs⟩:=h;exact⟨g,A,c,hv,ha.below hb,hs.below hb hb.size⟩
theorem zCC {w:World} {g:Nat} {t:TypeId} {xs:List Value} {v:Value} (h:Rw.At w g t (xs++[v])) {n:Nat} (hn:xs.length=n):w.cell? ⟨g,n,none⟩=some v :=
 h.cell n (by rw[ZJ (by omega),hn,Yo];rfl)
theorem zDM {w:World} {g:Nat} {t:TypeId} {xs:List Value} {v u:Value} (h:Rw.At w g t (xs++[v])) {n:Nat} (hn:xs[n]?=some u):w.cell? ⟨g,n,none⟩=some u :=
 h.cell n (by rw[ZT (List.getElem?_eq_some_iff.1 hn).1];exact hn)
def Pg.get (f:Int→Int) (c:Int):Int:=if 0≤c∧c≤1114111 then f c else 0
theorem zK5 (v:Value) (f:Int→Int) (c:Int) (w:World) (h:Pg.Of w v f) :
 Calls prog 63 #[v,.int .i32 c] w fun e w'=>e=.returned (.int .u16 (Pg.get f c))∧Below w.heap.size w w':=by
 obtain⟨g,A,cp,rfl,ae,hs⟩:=h;obtain⟨o,ho⟩:∃o,Pg.get f c=o:=⟨_,rfl⟩;rw[ho]
 by_cases hc:0≤c∧c≤1114111
 rotate_left
 · have ah:o=0:=by rw[←ho];unfold Pg.get;rw[if_neg hc]
   subst ah;have hI:=Pg.in_any c w;rw[Zu hc]at hI;have HI:=hy' hI;clear hI ho hc ae hs;go_enter func63,ntmps63;go_wp2_with fail;refine HI.o.mono ?_;rintro e w1 ⟨rfl,rfl⟩;go_wp2_with fail;go_ret;exact⟨rfl,Zc _ _⟩
 obtain⟨N,hN⟩:∃N:Nat,c/256=N:=⟨(c/256).toNat,by omega⟩;obtain⟨M,hM⟩:∃M:Nat,c%256=M:=⟨(c%256).toNat,by omega⟩;have ar:N<4352:=by omega
 have av:M<256:=by omega
 have af:c=256*(N:Int)+M:=by omega
 have hand:=Pg.and_8 c hc.1 hc.2;rw[hM]at hand;have aa:=(zDL f 4352 (zAb f N)).2 (.inr ⟨N,ar,rfl⟩);have ao:=zOX f 4352 ar;have aq:=zOx aa;have ak:=zQ7 aa;have au:=zGT f 4352;obtain⟨p,hp⟩:∃p,Pg.at (zAo f 4352) (zAb f N)=p:=⟨_,rfl⟩;rw[hp]at ao aq ak;have aj:=zIE (zAo f 4352) p M _ (zEb f 4352) ak av;rw[zGS f N av]at aj;obtain⟨bn,ag⟩:∃bn,(zAo f 4352).length=bn:=⟨_,rfl⟩;rw[ag]at aq au ae;have z0:=zDM ae (n:=N) (u:=.int .u16 p) (by rw[Zs,ao];rfl);have z1:=zCC ae (n:=4352) (by rw[Ze,zCm]);obtain⟨b,o',rfl,hb,ap⟩:=hs (by rw[Ze,zFO _ (zEb f 4352),ag];omega);have ai:=ap (p*256+M) (by rw[Ze,zFO _ (zEb f 4352),ag];omega);rw[Zs,aj,ZA,←af]at ai;have ah:f c=o:=by rw[←ho];unfold Pg.get;rw[if_pos hc]
 rw[ah]at ai;have hI:=Pg.in_any c w;rw[Zr hc]at hI;have HI:=hy' hI;have ay:(N:Int)<4352:=by omega
 have aw:(0:Int)≤N:=by omega
 have az:(M:Int)<256:=by omega
 have a6:(0:Int)≤M:=by omega
 have a7:(p:Int)<bn:=by omega
 have ax:(0:Int)≤p:=by omega
 have a1:=ae.lt;rw[←Yk]at ai;clear hI ho hc hM af aa ao ak hp aj ag hs ap ah au ae;go_enter func63,ntmps63;go_wp2_with fail;refine HI.o.mono ?_;rintro e w1 ⟨rfl,rfl⟩;go_wp2_with fail;go_quiet (fail);go_wp2_with fail;go_ret;exact⟨rfl,below_drewN (Zc _ _) _⟩
open Go.ChangeMaps (setBlock modify_eq_set)
open Go.ChangeMaps
def Mp.Is (P:Program) (k:TypeId) (w:World) (b:Nat) (F:Value→Option Value):Prop :=
 ∃es clock,w.heap[b]?=some (.map es clock)∧(∀e∈es.toList,∃l,keyOf P k e.key=some l)∧(es.toList.Pairwise fun x y=>x.key≠y.key)∧∀x v,F x=some v↔∃e∈es.toList,e.key=x∧e.val=v
section
variable {P:Program} {k:TypeId} {w:World} {b:Nat} {F:Value→Option Value}
theorem Mp.Is.made (w:World) (P:Program) (k:TypeId):Mp.Is P k (w.alloc (.map #[] 0)) w.heap.size fun _=>none :=
 ⟨#[],0,ZS w _,fun e he=>by simp at he,by simp,fun x v=>by simp⟩
theorem Mp.Is.lt (h:Mp.Is P k w b F):b<w.heap.size:=by
 obtain⟨es,c,hb,_⟩:=h;exact zCI hb
theorem Mp.Is.below {w':World} (h:Mp.Is P k w b F) (hb:Below w.heap.size w w'):Mp.Is P k w' b F:=by
 have aa:=h.lt;obtain⟨es,c,hh,r⟩:=h;exact⟨es,c,(hb.block b aa).trans hh,r⟩
theorem Mp.Is.grown {w':World} {row:Option Nat} (h:Mp.Is P k w b F) (hg:w.grownBy w' row) (hne:some b≠row):Mp.Is P k w' b F:=by
 have aa:=h.lt;obtain⟨es,c,hh,r⟩:=h;exact⟨es,c,(hg.block b aa hne).trans hh,r⟩
theorem Mp.Is.look {t e:TypeId} (h:Mp.Is P k w b F) (K:Go.Maps.Keyed P k) (ht:P.underlying t=some (.map k e)) {z:Value} (hz:(zeroValue e).run P w=.ok z w) {x:Value} {l:Lit} (hk:keyOf P k x=some l) (c:Bool) :
 (Instr.lookup t (.map (some b)) x c).run P w=.ok (if c=true then .tuple #[(F x).getD z,.bool (F x).isSome] else (F x).getD z) w:=by
 obtain⟨es,clock,hb,ae,af,hF⟩:=h;rcases K.find w hk es.toList ae with ⟨h1,h2⟩|⟨j,e0,h1,h2,h3⟩
 · have hn:F x=none:=by
    cases hx:F x with
    | none=>rfl
    | some v =>
      obtain⟨e,he,aa,_⟩:=(hF x v).1 hx;exact absurd aa (h2 e he)
   rw[hn];simp[Instr.lookup,Y6 ht,XE hb,K.check w _ hk,h1,hz,Result.andThen]
 have hn:F x=some e0.val:=(hF x _).2 ⟨e0,Zn h2,h3,rfl⟩;rw[hn];simp[Instr.lookup,Y6 ht,XE hb,K.check w _ hk,h1,Result.andThen]
theorem Mp.Is.put {t e:TypeId} (h:Mp.Is P k w b F) (K:Go.Maps.Keyed P k) (ht:P.underlying t=some (.map k e)) {x v:Value} {l:Lit} (hk:keyOf P k x=some l) (F':Value→Option Value) (h1:F' x=some v) (h2:∀y,y≠x→F' y=F y) :
 ∃w',(Instr.mapUpdate t (.map (some b)) x v).run P w=.ok () w'∧Mp.Is P k w' b F'∧w.grownBy w' (some b):=by
 obtain⟨es,clock,hb,ag,af,hF⟩:=h;rcases K.find w hk es.toList ag with ⟨g1,g2⟩|⟨j,e0,g1,g2,g3⟩
 · refine⟨setBlock w b (.map (es.push ⟨x,v,clock⟩) (clock+1)),?_,⟨es.push ⟨x,v,clock⟩,clock+1,Qf hb _,?_,?_,?_⟩,⟨rfl,rfl,rfl,by simp[setBlock],fun i _ hi=>Qd hb _ (fun e=>hi (by rw[e]))⟩⟩
   · simp[Instr.mapUpdate,Y6 ht,XE hb,K.check w false hk,g1,Jd _ hb,Result.andThen,setBlock]
   · intro e he;rw[QY]at he;rcases List.mem_append.1 he with he|he
     · exact ag e he
     rw[Zw]at he;subst he;exact⟨l,hk⟩
   · rw[QY,Jv];refine⟨af,by simp,fun a ha c hc=>?_⟩;rw[Zw]at hc;subst hc;exact g2 a ha
   intro y u;rw[QY]
   by_cases hy:y=x
   · subst hy;rw[h1];constructor
     · intro hu;cases hu
       exact⟨_,XJ _ (List.mem_singleton.2 rfl),rfl,rfl⟩
     rintro⟨a,ha,aa,hv⟩;rcases List.mem_append.1 ha with ha|ha
     · exact absurd aa (g2 a ha)
     rw[Zw]at ha;subst ha;exact Yb some hv
   rw[h2 y hy,hF y u];constructor
   · rintro⟨a,ha,r⟩;exact⟨a,Y4 _ ha,r⟩
   rintro⟨a,ha,aa,hv⟩;rcases List.mem_append.1 ha with ha|ha
   · exact⟨a,ha,aa,hv⟩
   rw[Zw]at ha;subst ha;exact absurd aa.symm hy
 have hj:es[j]?=some e0:=by simpa using g2
 have ah:j<es.toList.length:=(List.getElem?_eq_some_iff.1 g2).1;have ae:(es.modify j (fun e'=>{ e' with key:=x,val:=v })).toList=es.toList.set j { e0 with key:=x,val:=v }:=by rw[Array.toList_modify,modify_eq_set _ _ _ _ g2]
 have who:∀a∈es.toList.set j { e0 with key:=x,val:=v },a={ e0 with key:=x,val:=v }∨(a∈es.toList∧a.key≠x):=by
  intro a ha;obtain⟨i,hi,ex⟩:=Xs ha;rw[Qs]at ex;split at ex
  · exact .inl ex.symm
  rename_i hne;have hi':i<es.toList.length:=by simpa using hi
  refine .inr ⟨ex▸Qt hi',?_⟩;have h0:es.toList[j]=e0:=(List.getElem?_eq_some_iff.1 g2).2;rcases ZY i j with hl|hl
  · have:=List.pairwise_iff_getElem.1 af i j hi' ah hl;rw[ex,h0,g3]at this;exact this
  have:=List.pairwise_iff_getElem.1 af j i ah hi' (by omega);rw[ex,h0,g3]at this;exact this.symm
 have aj:∀a∈es.toList,a.key≠x→a∈es.toList.set j { e0 with key:=x,val:=v }:=by
  intro a ha hne;obtain⟨i,hi,ex⟩:=Xs ha;refine List.mem_iff_getElem.2 ⟨i,by simpa using hi,?_⟩;rw[Qs,Zl,ex];intro e;subst e;have h0:es.toList[j]=e0:=(List.getElem?_eq_some_iff.1 g2).2;rw[h0]at ex;exact hne (by rw[←ex,g3])
 have new:{ e0 with key:=x,val:=v }∈es.toList.set j { e0 with key:=x,val:=v }:=List.mem_iff_getElem.2 ⟨j,by simpa using ah,by simp⟩;refine⟨setBlock w b (.map (es.modify j (fun e'=>{ e' with key:=x,val:=v })) clock),?_,⟨es.modify j (fun e'=>{ e' with key:=x,val:=v }),clock,Qf hb _,?_,?_,?_⟩,⟨rfl,rfl,rfl,by simp[setBlock],fun i _ hi=>Qd hb _ (fun e=>hi (by rw[e]))⟩⟩
 · simp[Instr.mapUpdate,Y6 ht,XE hb,K.check w false hk,g1,hj,g3,K.stays w hk,Jd _ hb,Result.andThen,setBlock]
 · intro a ha;rw[ae]at ha;rcases who a ha with rfl|⟨ha,_⟩
   · exact⟨l,hk⟩
   exact ag a ha
 · rw[ae];refine List.pairwise_iff_getElem.2 fun i i' hi hi' ai=>?_
   rw[Xc]at hi hi';rw[Qs,Qs];have h0:es.toList[j]=e0:=(List.getElem?_eq_some_iff.1 g2).2;have hp:=List.pairwise_iff_getElem.1 af i i' hi hi' ai
   by_cases hji:j=i
   · subst hji;rw[Zo rfl,Zl (by omega)];rw[h0,g3]at hp;exact hp
   rw[Zl hji]
   by_cases hji':j=i'
   · subst hji';rw[Zo rfl];rw[h0,g3]at hp;exact hp
   rw[Zl hji'];exact hp
 intro y u;rw[ae]
 by_cases hy:y=x
 · subst hy;rw[h1];constructor
   · intro hu;cases hu
     exact⟨_,new,rfl,rfl⟩
   rintro⟨a,ha,aa,hv⟩;rcases who a ha with rfl|⟨_,hne⟩
   · exact Yb some hv
   exact absurd aa hne
 rw[h2 y hy,hF y u];constructor
 · rintro⟨a,ha,aa,hv⟩;exact⟨a,aj a ha (by rw[aa];exact hy),aa,hv⟩
 rintro⟨a,ha,aa,hv⟩;rcases who a ha with rfl|⟨ha,_⟩
 · exact absurd aa.symm hy
 exact⟨a,ha,aa,hv⟩
theorem zHs {α β:Type} {f:α→Option β}:∀{l:List α},(∀x∈l,∃y,f x=some y)→∃ys,l.mapM f=some ys
 | [],_=>⟨[],rfl⟩
 | x::l,h=>by
   obtain⟨y,hy⟩:=h x Zt;obtain⟨ys,aa⟩:=zHs fun z hz=>h z (Zv _ hz)
   exact⟨y::ys,by simp[List.mapM_cons,hy,aa]⟩
theorem zLR {e:TypeId} {n:Nat} {q:IntKind} (A:Go.WideMaps.ArrKey P k e n) (he:P.underlying e=some (.int q)) (ah:∃m,P.types.size=m+1) (xs:List Int) (hn:xs.length=n) (hw:∀x∈xs,(Lit.int q x).wf=true) :
 ∃l,keyOf P k (.agg (xs.map (Value.int q)).toArray)=some l:=by
 obtain⟨m,hm⟩:=ah
 have ae:(Value.agg (xs.map (Value.int q)).toArray).formed P k=true:=by
  unfold Value.formed;rw[A.hu];simp[A.size,hn]
 have aa:∃ls,P.keyLits (P.types.size+1) k (xs.map (Value.int q))=some ls:=by
  have af:∃ys,((List.range n).mapM fun i=>P.keyLits P.types.size e (((xs.map (Value.int q)).drop (i*P.cellsOf e)).take (P.cellsOf e)))=some ys:=by
   refine zHs fun i hi=>?_
   rw[Jw]at hi;have hi':i<xs.length:=by omega
   have hx:(((xs.map (Value.int q)).drop (i*P.cellsOf e)).take (P.cellsOf e))=[.int q xs[i]]:=by
    rw[A.one,Nat.mul_one,List.drop_eq_getElem_cons (by simpa using hi')];simp
   rw[hx,hm];unfold Program.keyLits;rw[he];simp[hw xs[i] (Qt hi')]
  obtain⟨ys,ag⟩:=af;unfold Program.keyLits;rw[A.hu];simp only[Ze,hn,A.size,Yt];rw[ag];exact⟨_,rfl⟩
 obtain⟨ls,ai⟩:=aa;unfold keyOf;rw[A.hu];simp only[A.keyType ⟨m,hm⟩,ae,Kw,Yt,Value.cells];rw[ai];exact⟨_,rfl⟩
end
end
section
open Go.RowKit
theorem zRf {P:Program} {f:FuncId} {fn:Func} (hf:P.funcs[f]?=some fn) (aa:(fn.name == "runtime.NumGoroutine")=false) (hb:fn.body.isNone=false) (args:Array Value) (w:World) :
 (callFunc f args).run P w=.ok (.enter f args) w:=by
 rcases h:fn.body with _|c
 · rw[h]at hb;cases hb
 exact C.enter hf aa h args w
theorem C.fld (v:Value) (w:World):(Instr.field 89 (.agg #[v]) 0).run prog w=.ok v w:=by
 have h1:=underlying89;have h2:=underlying70;simp[Instr.field,Y6 h1,asAgg,Go.part,isAgg,Y6 h2]
theorem zRU (A A':Option Addr) (c c' n m B:Nat) (a b:List Int) (w:World) (hn:a.length=n) (hm:b.length=m) (av:n≤1000000) (au:m≤1000000) (hB:B≤w.heap.size)
 (hA:Sl w B A (a.map (Value.int .i32))) (aj:Sl w B A' (b.map (Value.int .i32))) :
 Calls prog 52 #[.slice A n c,.slice A' m c'] w fun e w'=>e=.returned (.bool (decide (a=b)))∧Below w.heap.size w w':=by
 have HN:=hy' hn;have HM:=hy' hm;obtain⟨r,hr⟩:∃r,decide (a=b)=r:=⟨_,rfl⟩;rw[hr];have HR:=hy' hr;clear hn hm hr;go_enter func52,ntmps52
 by_cases hnm:n=m
 rotate_left
 · have hne:r=false:=by
    rw[←HR.o];refine Zu fun h=>hnm ?_
    rw[←HN.o,←HM.o,h]
   have ae:=hy' hne;clear hne;have hd:((n:Int) != m)=true:=by simp;omega
   go_wp2;go_ret;exact⟨by rw[ae.o];rfl,Zc _ _⟩
 subst hnm;go_wp2;go_loopw [13] (fun vi wr=>∃k:Nat,k≤n∧vi=.int .i64 k∧a.take k=b.take k∧Below w.heap.size w wr) (fun vi _=>n-(intOf vi).toNat)
 case atStart=>exact⟨0,by omega,rfl,rfl,Zc _ _⟩
 obtain⟨k,hk,rfl,af,aa⟩:=hrel;have ag:=hy' af;clear af
 by_cases hlt:(k:Int)<n
 · obtain⟨x,hx⟩:∃x,a[k]?=some x:=⟨_,Zb (by rw[HN.o];omega)⟩;obtain⟨y,hy⟩:∃y,b[k]?=some y:=⟨_,Zb (by rw[HM.o];omega)⟩;obtain⟨b1,o1,rfl,ap,ar,_⟩:=(hA.belowN aa hB (Za _)).ints hx;obtain⟨b2,o2,rfl,aq,ao,_⟩:=(aj.belowN aa hB (Za _)).ints hy;have HX:=hy' hx;have HY:=hy' hy;have m0:(0:Int)≤(k:Int):=by omega
   clear hx hy;rcases hxy:(x != y) with _|_
   · go_wp2;go_quiet (fail);go_wp2;have ai:x=y:=by simpa using hxy
     refine⟨⟨k+1,by omega,by go_num,?_,below_drewN aa _⟩,by simp[intOf];omega⟩;rw[ZB,ZB,HX.o,HY.o,ag.o,ai]
   have hne:r=false:=by
    rw[←HR.o];refine Zu fun h=>?_
    have h1:=HX.o;rw[h,HY.o]at h1;simp only[Zh]at h1;simp[h1]at hxy
   have ae:=hy' hne;clear hne;go_wp2;go_quiet (fail);go_wp2;go_ret;exact⟨by rw[ae.o];rfl,below_drewN aa _⟩
 obtain rfl:k=n:=by omega
 have ah:r=true:=by
  rw[←HR.o];refine Zr ?_;have h1:=ag.o
  rwa [Zm (by rw[HN.o];omega),Zm (by rw[HM.o];omega)]at h1
 have ak:=hy' ah;clear ah;go_wp2;go_ret;exact⟨by rw[ak.o];rfl,aa⟩
theorem zQd:(prog.info? 256).map (fun i=>(i.zero,i.size,i.bytes))=some (some (.agg #[.int .i32 0,.int .i32 0]),2,8):=by kernel_rfl
def C.fl (k:IntKind):List (Int × Int)→List Value
 | []=>[]
 | (x,y)::t=>.int k x::.int k y::C.fl k t
theorem C.fl_len (k:IntKind):∀rs,(C.fl k rs).length=2*rs.length
 | []=>rfl
 | (x,y)::t=>by show (C.fl k t).length+1+1=2*(t.length+1);rw[C.fl_len k t];omega
theorem C.fl_app (k:IntKind):∀a b,C.fl k (a++b)=C.fl k a++C.fl k b
 | [],b=>rfl
 | (x,y)::t,b=>by show _::_::C.fl k (t++b)=_;rw[C.fl_app k t b];rfl
theorem C.fl_get (k:IntKind):∀(rs:List (Int × Int)) (i:Nat) (r:Int × Int),rs[i]?=some r→(C.fl k rs)[2*i]?=some (.int k r.1)∧(C.fl k rs)[2*i+1]?=some (.int k r.2)
 | [],i,r,h=>by simp at h
 | (x,y)::t,0,r,h=>by simp at h;subst h;exact⟨rfl,rfl⟩
 | (x,y)::t,i+1,r,h=>by
  have:=C.fl_get k t i r (by simpa using h);rw[show 2*(i+1)=2*i+1+1 by omega];exact this
theorem own_ne {w:World} {base:Nat} {e:TypeId} {size n:Nat} {v:Value} {xs:List Value} (h:w.ownsRow base e size v n xs) (g:Nat) (hg:g<base):v.ownBlock≠some g:=fun hk=>by have:=(h.lt _ hk).1;omega
def zRV (rs:List (Int × Int)) (w:World) (e:Ending) (w':World):Prop :=
 ∃A c,e=.returned (.slice A rs.length c)∧w'.ownsRow w.heap.size 256 2 (.slice A rs.length c) rs.length (C.fl .i32 rs)∧Below w.heap.size w w'
theorem zLS (A:Option Addr) (c n B:Nat) (l:List Int) (w:World) (hn:l.length=n) (bl:n≤1000000) (bm:n%2=0) (hbd:∀x∈l,0≤x∧x≤1114112) (hB:B≤w.heap.size) (hA:Sl w B A (l.map (Value.int .i32))) :
 Calls prog 166 #[.agg #[.slice A n c]] w (zRV (zAL l) w):=by
 have HN:=hy' hn;have ap:=hy' hbd;have HL:=hy' (zGQ l);clear hn hbd;obtain⟨j0,hj0,bg,bf,az⟩:=Z7 zQd;go_enter func166,ntmps166;go_wp2;go_loopw [4,3] (fun vi v wr=>∃j k:Nat,k≤2*j∧2*j≤k∧k≤n∧vi=.int .i64 (k:Int)∧wr.ownsRow (w.heap.size+1) 256 2 v j (C.fl .i32 ((zAL l).take j))∧Below (w.heap.size+1) (w.alloc (.cells #[.slice A n c] 89)) wr) (fun vi _ _=>n-(intOf vi).toNat)
 case atStart=>exact⟨0,0,by omega,by omega,by omega,rfl,ZI _ _ _ _,Zc _ _⟩
 obtain⟨j,k,bn,bp,hj,rfl,aa,af⟩:=hrel;have ay:w.heap.size+1≤wr.heap.size:=by have:=af.size;simpa using this
 obtain⟨ai,au⟩:=zRT af;obtain⟨bc,bj⟩:=zIe ai 0;simp only[Qo,Xk]at bc;clear ai
 by_cases hlt:k<n
 rotate_left
 · obtain rfl:k=n:=by omega
   have g1:¬(k:Int)<k:=by omega
   have e0:(zAL l).take j=zAL l:=Zm (by rw[HL.o,HN.o];omega);have e1:j=(zAL l).length:=by rw[HL.o,HN.o];omega
   rw[e0]at aa;have E1:=hy' e1;clear e0 e1;obtain⟨A5,c5,rfl⟩:=zA2 aa;go_wp2;go_ret;refine⟨A5,c5,Yb (fun q=>Ending.returned (.slice A5 q c5)) E1.o,?_,au⟩;rw[←E1.o];exact own_base aa (by omega)
 obtain⟨x,hx⟩:∃x,l[k]?=some x:=⟨_,Zb (by rw[HN.o];omega)⟩;obtain⟨y,hy⟩:∃y,l[k+1]?=some y:=⟨_,Zb (by rw[HN.o];omega)⟩;have a8:=ap.o x (Zn hx);have a7:=ap.o y (Zn hy);obtain⟨bo,ar⟩:=a8;obtain⟨bk,bh⟩:=a7;obtain⟨b,o,rfl,bi,bb,aw⟩:=hA.ints hx;have ba:=aw _ _ hy;rw[←(zAI au).1 _ _ (by omega)]at bb ba;have ao:=own_ne aa w.heap.size (by omega);have ah:=own_ne aa b (by omega);clear aw hA
 have hg:(zAL l)[j]?=some (x,y-1):=by
  obtain rfl:k=2*j:=by omega
  rw[zK0 l j (by rw[HN.o];omega)];rw[Zb (by rw[HN.o];omega)]at hx hy;simp only[Zh]at hx hy;rw[hx,hy]
 have HG:=hy' hg;have g1:(k:Int)<n:=by omega
 clear hg hx hy;go_wp2;have ak:=hy' (zCj (w:=(wr.alloc (.cells #[.int .i32 x,.int .i32 (y-1)] 256)).drew) (A:=some ⟨wr.heap.size,0,none⟩) (xs:=[.int .i32 x,.int .i32 (y-1)]) rfl 256 (0,0) (ZS wr _));have aj:=(aa.alloc (.cells #[.int .i32 x,.int .i32 (y-1)] 256)).drew;have ax:Below (w.heap.size+1) (w.alloc (.cells #[.slice (some ⟨b,o,none⟩) n c] 89)) ((wr.alloc (.cells #[.int .i32 x,.int .i32 (y-1)] 256)).drew):=(af.alloc ay _).drew;have aq:=hy' ax;clear ax;have q1:(0:Int)≤(k:Int)+1:=by omega
 have q2:(k:Int)+1<n:=by omega
 have q3:((k:Int)+1).toNat=k+1:=by omega
 have q4:(0:Int)≤(k:Int):=by omega
 have av:w.heap.size+1≤((wr.alloc (.cells #[.int .i32 x,.int .i32 (y-1)] 256)).drew).heap.size:=by have:=aq.o.size;simpa using this
 have a6:IntKind.i64.wrap ((k:Int)+1)=(k:Int)+1:=by rw[Ya];omega
 have a1:IntKind.i32.wrap (y-1)=y-1:=by rw[Qr];omega
 go_region_held3 (fun w'=>w'.cell? ⟨w.heap.size,0,none⟩=some (.slice (some ⟨b,o,none⟩) n c)∧w'.cell? ⟨b,o+k,none⟩=some (.int .i32 x)∧w'.cell? ⟨b,o+(k+1),none⟩=some (.int .i32 y)) (first
 | go_keep
 | (go_split_ands
    refine⟨?_,?_,?_⟩
    · (rw[ae.cell_far _ (by simp;omega) (Yd ao)];assumption)
    · (rw[ae.cell_far _ (by simp;omega) (Yd ah)];assumption)
    (rw[ae.cell_far _ (by simp;omega) (Yd ah)];assumption)))
  ((refine zGj _ (by rfl) _ _ _ (by rfl) (w.heap.size+1) 256 j0 _ 2 8 underlying253 hj0 bg bf az rfl (by omega) _ j _ (by rfl) aj _ (some ⟨wr.heap.size,0,none⟩) 1 1 [.int .i32 x,.int .i32 (y-1)] (by rfl) (by rfl) ak.out (by simp[Value.oneCell']) (by simp only[maxLen];omega) (by omega) av ?_;intro v1 w2 ag ar ae))
 clear q1 q2 q3 q4 a6 a1 av;go_wp2;refine⟨⟨j+1,k+2,by omega,by omega,by omega,by go_num,?_,aq.o.trans ar⟩,by simp[intOf];omega⟩;rw[ZB,HG.o,C.fl_app];exact ag
end
end Go.Proofs.YtddbccflcekdpaaGreatDoor
