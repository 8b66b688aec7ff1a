/- The law's Right: a table that may be, of any one: by walking its text. -/
import Derived.Test.YtddbccflcekdpaaGreatDoorMdRef6
set_option maxRecDepth 100000
set_option maxHeartbeats 4000000
set_option linter.unusedVariables false
set_option linter.unusedSimpArgs false
namespace Go.Proofs.YtddbccflcekdpaaGreatDoor
open Go.Proofs.Tryz
open Go.RowKit
def Md.rok (r:Rw.Row):Prop:=(-2147483648≤r.1∧r.1≤2147483647)∧(0≤r.2.1∧r.2.1≤254)∧r.2.2.length≤2∧(∀c∈r.2.2,-2147483648≤c∧c≤2147483647)∧(r.2.1=0→r.2.2≠[])
def zGG (ads rest:List (Option Addr × Nat)):Prop:=∀a∈ads,∀p,a.1=some p→∀a'∈rest,∀q,a'.1=some q→p.block<q.block
def zJv (w:World) (e:Ending) (w':World):Prop :=
 ∃v T E,e=.returned v∧Md.Doc w' v T E∧(∀A n c A' n' c',v=.agg #[.slice A n c,.slice A' n' c']→n≤c∧n'≤c')∧T.length≤20∧E.length≤30∧(∀r∈T,Md.rok r)∧(∀c∈E,C.isC c=true)∧Md.chk T (Md.xs E)=0∧Below w.heap.size w w'
theorem Slt.grownA {w w':World} {t:TypeId} {A:Option Addr} {xs:List Value} {row:Option Nat} (h:Slt w t A xs) (hg:w.grownBy w' row) (hr:∀p,A=some p→row≠some p.block):Slt w' t A xs:=by
 intro hx;obtain⟨b,o,cs,hA,hb,hc⟩:=h hx;exact⟨b,o,cs,hA,(hg.block b (zCI hb) fun e=>hr _ hA e.symm).trans hb,hc⟩
theorem Slt.take {w:World} {t:TypeId} {A:Option Addr} {xs:List Value} (h:Slt w t A xs) (n:Nat):Slt w t A (xs.take n):=by
 intro hx;rw[Zq]at hx;obtain⟨b,o,cs,hA,hb,hc⟩:=h (by omega);refine⟨b,o,cs,hA,hb,fun i hi=>?_⟩;rw[Zq]at hi;rw[hc i (by omega),Ym,Zo (by omega)]
theorem Slt.set {w:World} {t:TypeId} {b o i:Nat} {xs:List Value} (h:Slt w t (some ⟨b,o,none⟩) xs) (hi:i<xs.length) (v:Value):Slt (w.setCell ⟨b,o+i,none⟩ v) t (some ⟨b,o,none⟩) (xs.set i v):=by
 intro _;obtain⟨b',o',cs,hA,hb,hc⟩:=h (by omega);simp only[Zh,YT]at hA;obtain⟨rfl,rfl,_⟩:=hA;have aa:=zCI hb;refine⟨b,o,cs.setIfInBounds (o+i) v,rfl,?_,fun j hj=>?_⟩
 · show (w.heap.modify b _)[b]?=_;have hk:=(Array.getElem?_eq_some_iff.1 hb).2;rw[Xp (by rw[QX];exact aa),QV,hk];simp
 rw[Xc]at hj
 have hs:o+i<cs.size:=by
  have:=hc i hi;rw[Zb hi]at this;exact (Array.getElem?_eq_some_iff.1 this).1
 rw[Array.getElem?_setIfInBounds,Qh]
 by_cases e:i=j
 · subst e;rw[Zo rfl,Zo rfl,Zo hs,Zo hi]
 rw[Zl (by omega),Zl e,hc j hj]
structure Md.RI (b2 b3 lo mid B4:Nat) (A2:Option Addr) (n2 c2:Nat) (XA2:Option Addr) (xn2 xc2:Nat) (T:List Rw.Row) (ads:List (Option Addr × Nat)) (E:List Int) (k:Nat) (wr:World) (To:List Rw.Row) (adso:List (Option Addr × Nat)) (vo:Value):Prop where
 a2:Rw.At wr b2 25 [.slice none 0 0,.slice none 0 0]
 a3:Rw.At wr b3 25 [vo,.slice XA2 xn2 xc2]
 rows:wr.ownsRow lo 68 3 (.slice A2 n2 c2) n2 (zBn T ads)
 maps:∀(j:Nat) (r:Rw.Row) (a:Option Addr × Nat),k≤j→T[j]?=some r→ads[j]?=some a→Slt wr 3 a.1 (r.2.2.map (Value.int .i64))
 excl:wr.ownsRow mid 3 1 (.slice XA2 xn2 xc2) xn2 (E.map (Value.int .i64))
 lens:adso.length=To.length∧Md.caps To adso
 out:wr.ownsRow B4 68 3 vo To.length (zBn To adso)
 mo:Rw.MapsI wr To adso
 rok:∀r∈To,Md.rok r
 und:zGG adso (ads.drop k)
 chk:Md.chk To (Md.xs E)=0
 len:To.length≤k
section
variable {b2 b3 lo mid B4 n2 c2 xn2 xc2 k:Nat} {A2 XA2:Option Addr} {T To:List Rw.Row} {ads adso:List (Option Addr × Nat)} {E:List Int} {wr w':World} {vo:Value}
theorem Md.RI.below (h:Md.RI b2 b3 lo mid B4 A2 n2 c2 XA2 xn2 xc2 T ads E k wr To adso vo) (hb:Below wr.heap.size wr w'):Md.RI b2 b3 lo mid B4 A2 n2 c2 XA2 xn2 xc2 T ads E k w' To adso vo :=
 ⟨h.a2.below hb,h.a3.below hb,zA4 h.rows hb (Za _),fun j r a h1 h2 h3=>(h.maps j r a h1 h2 h3).below hb,zA4 h.excl hb (Za _),h.lens,zA4 h.out hb (Za _),h.mo.below hb,h.rok,h.und,h.chk,h.len⟩
theorem Md.RI.grown (h:Md.RI b2 b3 lo mid B4 A2 n2 c2 XA2 xn2 xc2 T ads E k wr To adso vo) {row:Option Nat} (hg:wr.grownBy w' row) {a:Option Addr × Nat} (ha:ads[k]?=some a) (ah:Md.apart lo mid ads)
 (aa:∀p,row=some p→(∃cs z,wr.heap[p]?=some (.cells cs 3 z))∧∃q,a.1=some q∧q.block=p):Md.RI b2 b3 lo mid B4 A2 n2 c2 XA2 xn2 xc2 T ads E (k+1) w' To adso vo:=by
 have hk:k<ads.length:=(List.getElem?_eq_some_iff.1 ha).1
 have ae:ads.drop k=a::ads.drop (k+1):=by
  obtain⟨h1,h2⟩:=List.getElem?_eq_some_iff.1 ha;rw[ZM h1,h2]
 have hne:∀(b:Nat) (t:TypeId) cs z,wr.heap[b]?=some (.cells cs t z)→t≠3→row≠some b:=fun b t cs z hb ht e=>by
  obtain⟨⟨cs',z',hc⟩,_⟩:=aa b e;rw[hb]at hc;simp only[Zh,XH]at hc;exact ht hc.2.1
 have af:∀{base n:Nat} {v:Value} {xs:List Value},wr.ownsRow base 68 3 v n xs→w'.ownsRow base 68 3 v n xs:=fun {base n v xs} ho=>by
  refine ho.kept hg ?_;rcases ho.2 with ⟨rfl,_⟩|⟨g,cap,aj,rfl,_,ai,_⟩
  · exact .inl rfl
  exact .inr fun e=>hne g _ _ _ ai (by decide) e.symm
 refine⟨h.a2.grown hg (hne _ _ _ _ h.a2 (by decide)),h.a3.grown hg (hne _ _ _ _ h.a3 (by decide)),af h.rows,fun j r a' h1 h2 h3=>?_,?_,h.lens,af h.out,fun i r a' h1 h2=>?_,h.rok,?_,h.chk,Ka h.len⟩
 · refine (h.maps j r a' (by omega) h2 h3).grownA hg fun p hp e=>?_
   obtain⟨_,q,hq,ag⟩:=aa _ e;obtain⟨l1,l2⟩:=List.getElem?_eq_some_iff.1 h3;obtain⟨l3,l4⟩:=List.getElem?_eq_some_iff.1 ha;have:=List.pairwise_iff_getElem.1 ah.1 k j l3 l1 (by omega) q p (by rw[l4];exact hq) (by rw[l2];exact hp);omega
 · refine h.excl.kept hg ?_;rcases hv:(Value.slice XA2 xn2 xc2).ownBlock with _|g
   · exact .inl rfl
   refine .inr fun e=>?_
   obtain⟨_,q,hq,ag⟩:=aa g e.symm;have h1:=(h.excl.lt g hv).1;have h2:=(ah.2 a (Zn ha) q hq).2;omega
 · refine (h.mo i r a' h1 h2).grownA hg fun p hp e=>?_
   obtain⟨_,q,hq,ag⟩:=aa _ e;have:=h.und a' (Zn h2) p hp a (by rw[ae];exact Zt) q hq;omega
 intro x hx p hp y hy q hq;exact h.und x hx p hp y (by rw[ae];exact Zv _ hy) q hq
end
theorem zOh (f:Int→Int) {l:List Int} {q:Nat} {y:Int} (hy:l[q]?=some y):(((l.take q).map f++l.drop q).map (Value.int .i64))[q]?=some (.int .i64 y):=by
 obtain⟨h1,h2⟩:=List.getElem?_eq_some_iff.1 hy;have hl:((l.take q).map f).length=q:=by rw[Ze,Zq];omega
 rw[Zs,ZJ (by omega),hl,Yo,Xe,YV,hy];rfl
theorem zOi (f:Int→Int) {l:List Int} {q:Nat} {y:Int} (hy:l[q]?=some y):(((l.take q).map f++l.drop q).map (Value.int .i64)).set q (.int .i64 (f y))=((l.take (q+1)).map f++l.drop (q+1)).map (Value.int .i64):=by
 obtain⟨h1,h2⟩:=List.getElem?_eq_some_iff.1 hy;have hl:(((l.take q).map f).map (Value.int .i64)).length=q:=by rw[Ze,Ze,Zq];omega
 rw[ZK,Yz _ _ (by omega),hl,Yo,ZM h1,h2,Z1,Zj,ZB,hy];simp
structure Md.NX (b7:Nat) (x:Value) (rest:List (Option Addr × Nat)) (ws:World) (N:List Rw.Row) (nads:List (Option Addr × Nat)) (vn:Value):Prop where
 tab:Rw.At ws b7 25 [vn,x]
 lens:nads.length=N.length∧Md.caps N nads
 own:ws.ownsRow (b7+1) 68 3 vn N.length (zBn N nads)
 mo:Rw.MapsI ws N nads
 rok:∀r∈N,Md.rok r
 und:zGG nads rest
theorem Md.NX.below {b7:Nat} {x vn:Value} {rest nads:List (Option Addr × Nat)} {ws w':World} {N:List Rw.Row} (h:Md.NX b7 x rest ws N nads vn) (hb:Below ws.heap.size ws w'):Md.NX b7 x rest w' N nads vn :=
 ⟨h.tab.below hb,h.lens,zA4 h.own hb (Za _),h.mo.below hb,h.rok,h.und⟩
theorem Md.NX.push {b7:Nat} {x vn v6:Value} {rest nads:List (Option Addr × Nat)} {ws w6:World} {N:List Rw.Row} (h:Md.NX b7 x rest ws N nads vn) {r:Rw.Row} {a:Option Addr × Nat} (hs:Slt ws 3 a.1 (r.2.2.map (Value.int .i64))) (hc:r.2.2.length≤a.2) (hr:Md.rok r) (hu:zGG [a] rest)
 (ag:(w6.ownsRow (b7+1) 68 3 v6 (N.length+1) (zBn N nads++[.int .i64 r.1,.int .i64 r.2.1,.slice a.1 r.2.2.length a.2]))) {o:Obj} (hg:(ws.alloc o).grownBy w6 vn.ownBlock) :
 Md.NX b7 x rest (w6.setCell ⟨b7,0,none⟩ v6) (N++[r]) (nads++[a]) v6:=by
 have hb:Below ws.heap.size ws (ws.alloc o):=(Zc _ _).alloc (Za _) _;have aa:=zA4 h.own hb (Za _);have af:=(h.tab.below hb).grown hg (zBm h.own b7 (ZP _));have ai:=(h.mo.below hb).grown hg (zAC aa (by decide));have ah:=(hs.below hb).grown hg (zAC aa (by decide))
 have ae:∀q,some b7=some q→∀cs z,w6.heap[q]?≠some (.cells cs 3 z):=fun q hq=>by
  cases hq
  exact af.not (by decide)
 refine⟨af.set 0 v6,⟨by simp[h.lens.1],h.lens.2.app h.lens.1 hc⟩,?_,(ai.grown (Rw.grown_set b7 0 v6) ae).app h.lens.1 (ah.grown (Rw.grown_set b7 0 v6) ae),fun q hq=>?_,fun q hq=>?_⟩
 · rw[Zd,YA,zH3 _ _ _ _ h.lens.1];exact zA8 ag (ZP _) (Rw.grown_set b7 0 v6)
 · rcases List.mem_append.1 hq with hq|hq
   · exact h.rok q hq
   rw[List.mem_singleton.1 hq];exact hr
 rcases List.mem_append.1 hq with hq|hq
 · exact h.und q hq
 exact hu q hq
theorem Md.RI.take {b2 b3 b7 lo mid B4 n2 c2 xn2 xc2 k:Nat} {A2 XA2:Option Addr} {T To N:List Rw.Row} {ads adso nads:List (Option Addr × Nat)} {E:List Int} {wx:World} {vo vn:Value}
 (h:Md.RI b2 b3 lo mid B4 A2 n2 c2 XA2 xn2 xc2 T ads E k wx To adso vo) (nx:Md.NX b7 (.slice XA2 xn2 xc2) (ads.drop k) wx N nads vn) (hc:Md.chk N (Md.xs E)=0) (hl:N.length≤k) (hB:B4≤b7+1) (hne:b2≠b3) :
 Md.RI b2 b3 lo mid B4 A2 n2 c2 XA2 xn2 xc2 T ads E k ((wx.setCell ⟨b3,0,none⟩ vn).setCell ⟨b3,1,none⟩ (.slice XA2 xn2 xc2)) N nads vn:=by
 have k1:=h.a3.set 0 vn;have ag:∀q,some b3=some q→∀cs z,wx.heap[q]?≠some (.cells cs 3 z):=fun q hq=>by cases hq;exact h.a3.not (by decide)
 have af:∀q,some b3=some q→∀cs z,(wx.setCell ⟨b3,0,none⟩ vn).heap[q]?≠some (.cells cs 3 z):=fun q hq=>by cases hq;exact k1.not (by decide)
 have aa:∀{base n size:Nat} {e:TypeId} {v:Value} {xs:List Value},e≠25→wx.ownsRow base e size v n xs→((wx.setCell ⟨b3,0,none⟩ vn).setCell ⟨b3,1,none⟩ (.slice XA2 xn2 xc2)).ownsRow base e size v n xs:=fun {base n size e v xs} he ho=>by
  have h1:=ho.kept (Rw.grown_set b3 0 vn) (.inr fun e'=>zAC ho he _ e' _ _ h.a3);exact h1.kept (Rw.grown_set b3 1 _) (.inr fun e'=>zAC h1 he _ e' _ _ k1)
 have ae:∀{A:Option Addr} {xs:List Value},Slt wx 3 A xs→Slt ((wx.setCell ⟨b3,0,none⟩ vn).setCell ⟨b3,1,none⟩ (.slice XA2 xn2 xc2)) 3 A xs:=fun {A xs} hs =>
  (hs.grown (Rw.grown_set b3 0 vn) ag).grown (Rw.grown_set b3 1 _) af
 refine⟨(h.a2.other hne _).other hne _,k1.set 1 _,aa (by decide) h.rows,fun j r a h1 h2 h3=>ae (h.maps j r a h1 h2 h3),aa (by decide) h.excl,nx.lens,own_base (aa (by decide) nx.own) hB,fun i r a h1 h2=>ae (nx.mo i r a h1 h2),nx.rok,nx.und,hc,hl⟩
theorem zPS {k:Nat} (h:k≠0):(zBf k).toList.isEmpty=false:=by
 have g1:(zBf 1).toList.isEmpty=false:=by kernel_rfl
 have g2:(zBf 2).toList.isEmpty=false:=by kernel_rfl
 have g3:(zBf 3).toList.isEmpty=false:=by kernel_rfl
 have g4:(zBf 4).toList.isEmpty=false:=by kernel_rfl
 have g5:(zBf 5).toList.isEmpty=false:=by kernel_rfl
 match k,h with
 | 1,_=>exact g1
 | 2,_=>exact g2
 | 3,_=>exact g3
 | 4,_=>exact g4
 | _+5,_=>exact g5
theorem zQX {A XA:Option Addr} {m c xn xc:Nat} (h:m≤c):∀A' n' c' x',zBs A m c XA xn xc=.agg #[.slice A' n' c',x']→n'≤c':=by
 intro A' n' c' x' he;unfold zBs at he;simp only[XI,Qg,YI,Z3,Xd]at he;obtain⟨⟨rfl,rfl,rfl⟩,_⟩:=he;exact h
theorem Md.grown_drew {w w':World} {row:Option Nat} (h:w.grownBy w' row):w.grownBy w'.drew row:=⟨h.os,h.tape,h.output,h.size,h.block⟩
theorem Md.and_8 (n:Int):bits .and .i64 n 255=n%256:=by
 have hm:(BitVec.ofInt 64 255).toNat=2 ^ 8-1:=by decide
 have key:(BitVec.ofInt 64 n &&& BitVec.ofInt 64 255).toNat=(n%((2 ^ 64:Nat):Int)).toNat%2 ^ 8:=by
  rw[Xw,Xn,hm,Yl]
 show IntKind.i64.wrap ((BitVec.ofInt 64 n &&& BitVec.ofInt 64 255).toNat:Nat)=n%256;rw[key,Ya];omega
theorem zMS (A XA:Option Addr) (n c xn xc:Nat) (T0:List Rw.Row) (E0:List Int) (w:World) (hn:T0.length=n) (hxn:E0.length=xn) (hnb:n≤maxLen) (hxb:xn≤maxLen) (hbd:∀r∈T0,zE3 r) (h2:Rw.SeesI w A T0) (hX:Sl w w.heap.size XA (E0.map (Value.int .i64))) :
 Calls prog 67 #[.agg #[.slice A n c,.slice XA xn xc]] w (zJv w):=by
 obtain⟨j0,hj0,h7,il,h8⟩:=Z7 zOE;obtain⟨T,hT⟩:∃T,zF6 T0=T:=⟨_,rfl⟩;obtain⟨E,hE⟩:∃E,zF7 E0=E:=⟨_,rfl⟩;have mq:T.length≤20:=by rw[←hT];unfold zF6;simp;omega
 have mn:E.length≤30:=by rw[←hE];unfold zF7;simp;omega
 have l4:∀c∈E,C.isC c=true:=fun c hc=>by
  rw[←hE]at hc;unfold zF7 at hc;obtain⟨x,_,rfl⟩:=List.mem_map.1 hc;exact Ch.K_is x
 have lh:∀r∈T,r.2.2.length≤4:=fun r hr=>by
  rw[←hT]at hr;unfold zF6 at hr;obtain⟨q,_,rfl⟩:=List.mem_map.1 hr;unfold zLs;simp;omega
 obtain⟨wa,ey⟩:∃wa,(w.alloc (.cells #[.slice A n c,.slice XA xn xc] 25)).alloc (.cells #[.slice none 0 0,.slice none 0 0] 25)=wa:=⟨_,rfl⟩;have l6:Below w.heap.size w wa:=by rw[←ey];exact ((Zc _ _).alloc (Za _) _).alloc (by simp) _
 have ak:Rw.At wa w.heap.size 25 [.slice A n c,.slice XA xn xc]:=by rw[←ey];exact (Rw.At.new w 25 [.slice A n c,.slice XA xn xc]).alloc _
 have ap:Rw.At wa (w.heap.size+1) 25 [.slice none 0 0,.slice none 0 0]:=by
  have:=Rw.At.new (w.alloc (.cells #[.slice A n c,.slice XA xn xc] 25)) 25 [.slice none 0 0,.slice none 0 0];rw[←ey];simpa using this
 have iu:wa.heap.size=w.heap.size+2:=by rw[←ey];simp
 have np:=hy' ey;have kr:=hy' l6;have e8:=hy' ak;have fm:=hy' ap;have nl:=hy' iu
 have h6:Hy (∀W,Below w.heap.size w W→Calls prog 92 #[.agg #[.slice A n c,.slice XA xn xc]] W fun e w'=>∃v,e=.returned v∧Md.DocO w' v W.heap.size T E∧Below W.heap.size W w'):=hy' fun W hW=>by
  rw[←hT,←hE];exact zPP A XA n c xn xc T0 E0 W hn hxn hnb hxb (fun r hr=>(hbd r hr).2.2.1) (h2.below hW) (hX.below hW hW.size)
 have oq:=hy' mq;have k3:=hy' mn;have oc:=hy' l4;have pg:=hy' lh;have z0:=ak.cell 0 rfl;have z1:=ak.cell 1 rfl;have jv:=ak.lt;clear hT hE ey l6 ak ap iu mq mn l4 lh hn hxn hnb hxb hbd h2 hX;go_enter func67,ntmps67;go_upto_region 1 with (fail)
 rw[np.o];go_wp2_with fail;refine (h6.o wa kr.o).mono ?_;rintro e w2 ⟨v2,rfl,nz,cx⟩;obtain⟨A2,c2,XA2,xc2,ads,rfl,⟨eb,dm⟩,b8,cv,mid,fp,gp,k0,cf⟩:=nz;obtain⟨n2,ir⟩:∃k,T.length=k:=⟨_,rfl⟩;obtain⟨xn2,cr⟩:∃k,E.length=k:=⟨_,rfl⟩;rw[ir]at eb b8;rw[cr]at cf;rw[ir,cr];unfold zBs;have ak:=e8.o.below cx;have ap:=fm.o.below cx;have y0:=ak.cell 0 rfl;have y1:=ak.cell 1 rfl;have y2:=ak.frozen 0;have y3:=ak.frozen 1;have n9:=ak.lt;have iu:=nl.o;have e3:=(ak.set 0 (.slice A2 n2 c2)).set 1 (.slice XA2 xn2 xc2);have jl:=(ap.other (b':=w.heap.size) (i:=0) (by omega) (.slice A2 n2 c2)).other (b':=w.heap.size) (i:=1) (by omega) (.slice XA2 xn2 xc2);have jc:=zA8 (zA8 b8 (by omega) (Rw.grown_set w.heap.size 0 (.slice A2 n2 c2))) (by omega) (Rw.grown_set w.heap.size 1 (.slice XA2 xn2 xc2));have jg:=zA8 (zA8 cf (by omega) (Rw.grown_set w.heap.size 0 (.slice A2 n2 c2))) (by omega) (Rw.grown_set w.heap.size 1 (.slice XA2 xn2 xc2));have kq:=(cv.grown (Rw.grown_set w.heap.size 0 (.slice A2 n2 c2)) (by intro q hq;cases hq;exact ak.not (by decide))).grown (Rw.grown_set w.heap.size 1 (.slice XA2 xn2 xc2)) (by intro q hq;cases hq;exact (ak.set 0 (.slice A2 n2 c2)).not (by decide))
 have en:Below w.heap.size w ((w2.setCell ⟨w.heap.size,0,none⟩ (.slice A2 n2 c2)).setCell ⟨w.heap.size,1,none⟩ (.slice XA2 xn2 xc2)) :=
  ((kr.o.trans (cx.mono kr.o.size)).setCell (p:=⟨w.heap.size,0,none⟩) (Za _) _).setCell (p:=⟨w.heap.size,1,none⟩) (Za _) _
 have l5:((w2.setCell ⟨w.heap.size,0,none⟩ (.slice A2 n2 c2)).setCell ⟨w.heap.size,1,none⟩ (.slice XA2 xn2 xc2)).heap.size=w2.heap.size:=by rw[ZQ,ZQ]
 obtain⟨w3,jw⟩:∃w3,(w2.setCell ⟨w.heap.size,0,none⟩ (.slice A2 n2 c2)).setCell ⟨w.heap.size,1,none⟩ (.slice XA2 xn2 xc2)=w3:=⟨_,rfl⟩;rw[jw]at e3 jl jc jg kq en l5;have k9:=hy' jw;have x0:=e3.cell 0 rfl;have x1:=e3.cell 1 rfl;have oz:=e3.lt;have ox:=cx.size;have bb:Below w3.heap.size w3 (w3.alloc (.cells #[.slice none 0 0,.slice XA2 xn2 xc2] 25)):=(Zc _ _).alloc (Za _) _;have aa:=Rw.At.new w3 25 [.slice none 0 0,.slice XA2 xn2 xc2];obtain⟨w4,gg⟩:∃w4,w3.alloc (.cells #[.slice none 0 0,.slice XA2 xn2 xc2] 25)=w4:=⟨_,rfl⟩;have aa:Rw.At w4 w3.heap.size 25 [.slice none 0 0,.slice XA2 xn2 xc2]:=by rw[←gg];exact aa
 rw[gg]at bb;have my:w4.heap.size=w3.heap.size+1:=by rw[←gg];simp
 have lf:=hy' gg;have ei:=e3.below bb;have t0:=ei.cell 0 rfl;have pz:=ei.lt;have o2:=hy' (jl.below bb);have oh:=hy' aa;have oo:=hy' (zA4 jc bb (Za _));have pc:=hy' (zA4 jg bb (Za _));have ni:=hy' (kq.below bb);have o3:=hy' (en.trans (bb.mono en.size));have fu:=hy' eb;have gz:=hy' dm;have ij:=hy' ir;have mj:=hy' cr;have jo:=hy' k0;have kd:Hy (wa.heap.size=w.heap.size+2∧w.heap.size+2≤mid∧mid≤w3.heap.size∧w4.heap.size=w3.heap.size+1):=hy' ⟨by omega,by omega,by omega,my⟩;clear eb dm b8 cv cf k0 ak ap e3 jl jc jg kq en l5 jw bb aa gg my ei ir cr fp gp cx iu ox z0 z1 h6;go_upto_region 2 with (fail)
 rw[k9.o];clear y0 y1 y2 y3;go_upto_region 3 with (fail)
 rw[lf.o];clear x0 x1;have cw:Md.chk [] (Md.xs E)=0:=rfl;have gw:=hy' cw;clear cw jv n9 oz e8 fm k9 lf;go_wp2_with fail;clear t0;go_loopw [19] (fun i wr=>∃(k:Nat) (To:List Rw.Row) (adso:List (Option Addr × Nat)) (vo:Value),k≤n2∧i=.int .i64 k∧Md.RI (w.heap.size+1) w3.heap.size wa.heap.size mid w4.heap.size A2 n2 c2 XA2 xn2 xc2 T ads E k wr To adso vo∧Below w.heap.size w wr∧w4.heap.size≤wr.heap.size) (fun i _=>n2-(intOf i).toNat)
 case atStart=>exact⟨0,[],[],.slice none 0 0,ZG _,rfl,⟨o2.o,oh.o,oo.o,fun j r a _ h1 h2=>ni.o j r a h1 h2,pc.o,⟨rfl,fun i r a h=>absurd h (by simp)⟩,ZI _ _ _ _,fun i r a h=>absurd h (by simp),fun r hr=>absurd hr (by simp),fun a ha=>absurd ha (by simp),gw.o,ZG _⟩,o3.o,Za _⟩
 obtain⟨k,To,adso,vo,hk,rfl,c8,ed,qd⟩:=hrel;have jy:=hy' c8;have kf:n2≤20:=by rw[←ij.o];exact oq.o
 have cq:=hy' ed
 by_cases hlt:k<n2
 rotate_left
 · obtain rfl:n2=k:=by omega
   obtain⟨wz,rfl⟩:∃wz:World,wz=wr:=⟨_,rfl⟩;obtain⟨Ao,co,rfl⟩:=zA2 c8.out;obtain⟨on,dz⟩:∃on,To.length=on:=⟨_,rfl⟩;have aa:=c8.a3;have ap:=c8.a2;rw[dz]at aa;have pd:=kd.o;have y0:=aa.cell 0 rfl;have y1:=aa.cell 1 rfl;have x0:=ap.cell 0 rfl;have x1:=ap.cell 1 rfl;have f0:=ap.frozen 0;have f1:=ap.frozen 1;have qb:=ap.lt;have ll:=aa.lt;have bo:=hy' dz;have c6:=hy' ap;clear ap aa dz c8 ed hlt hk;go_wp2_with fail;have k1:=c6.o.set 0 (.slice Ao on co);have k2:=k1.set 1 (.slice XA2 xn2 xc2);have b3:=jy.o;rw[bo.o]at b3;have gv:∀q,some (w.heap.size+1)=some q→∀cs z,wz.heap[q]?≠some (.cells cs 3 z):=fun q hq=>by cases hq;exact c6.o.not (by decide)
   have fg:∀q,some (w.heap.size+1)=some q→∀cs z,(wz.setCell ⟨w.heap.size+1,0,none⟩ (.slice Ao on co)).heap[q]?≠some (.cells cs 3 z):=fun q hq=>by cases hq;exact k1.not (by decide)
   have ho:=zA8 (zA8 b3.out (by omega) (Rw.grown_set (w.heap.size+1) 0 (.slice Ao on co))) (by omega) (Rw.grown_set (w.heap.size+1) 1 (.slice XA2 xn2 xc2));have hx:=zA8 (zA8 b3.excl (by omega) (Rw.grown_set (w.heap.size+1) 0 (.slice Ao on co))) (by omega) (Rw.grown_set (w.heap.size+1) 1 (.slice XA2 xn2 xc2));have hm:=(b3.mo.grown (Rw.grown_set (w.heap.size+1) 0 (.slice Ao on co)) gv).grown (Rw.grown_set (w.heap.size+1) 1 (.slice XA2 xn2 xc2)) fg;refine YH (zJ9 rfl _ _ (w.heap.size+1) _ _ _ _ rfl k2 underlying25 rfl (by kernel_rfl)) rfl ⟨_,To,E,rfl,⟨Ao,co,XA2,xc2,?_,zJ0 b3.lens.1 ?_ hm,Sl.of_own hx⟩,?_,Zi b3.len kf,k3.o,b3.rok,oc.o,b3.chk,?_⟩
   · rw[bo.o,mj.o];rfl
   · rw[bo.o]at ho;exact Slt.of_own ho
   · intro A' n' c' A7 n7 c7 he;simp only[XI,Qg,YI,Z3,Xd]at he;obtain⟨⟨rfl,rfl,rfl⟩,rfl,rfl,rfl⟩:=he;rw[bo.o]at ho;exact⟨zFA ho,zFA hx⟩
   exact (cq.o.setCell (p:=⟨w.heap.size+1,0,none⟩) (ZX _) _).setCell (p:=⟨w.heap.size+1,1,none⟩) (ZX _) _
 obtain⟨r,hr⟩:∃r,T[k]?=some r:=⟨_,Zb (by rw[ij.o];exact hlt)⟩;obtain⟨a,ha⟩:∃a,ads[k]?=some a:=⟨_,Zb (by rw[fu.o];exact hlt)⟩;have ft:(zBn T ads).length=n2*3:=by rw[zCU _ _ (by rw[fu.o,ij.o]),ij.o]
 obtain⟨b,o,rfl,hb,bq⟩:=(Sl.of_own c8.rows) (by rw[ft];omega);obtain⟨g0,g1,g2⟩:=zFh T ads k r a hr ha;have c0:=bq (k*3) (by rw[ft];omega);have c1:=bq (k*3+1) (by rw[ft];omega);have ig:=bq (k*3+2) (by rw[ft];omega);rw[g0]at c0;rw[g1,←Yk]at c1;rw[g2,←Yk]at ig;have fz:=pg.o r (Zn hr);have eu:=c8.maps k r a (Za _) hr ha;have dk:=gz.o k r a hr ha;obtain⟨rc,rk,rm⟩:=r;obtain⟨aA,ac⟩:=a;dsimp only at c0 c1 ig fz eu dk;obtain⟨ml,jb⟩:∃ml,rm.length=ml:=⟨_,rfl⟩;rw[jb]at ig fz dk;have e6:=hy' jb;have HR:=hy' hr;have HA:=hy' ha;have p3:(k:Int)<n2:=by omega
 have p6:(0:Int)≤k:=by omega
 have bb:Below wr.heap.size wr (wr.alloc (.cells #[.int .i64 rc,.int .i64 rk,.slice aA ml ac] 68)):=(Zc _ _).alloc (Za _) _;have aj:=Rw.At.new wr 68 [.int .i64 rc,.int .i64 rk,.slice aA ml ac];obtain⟨w5,ik⟩:∃w5,wr.alloc (.cells #[.int .i64 rc,.int .i64 rk,.slice aA ml ac] 68)=w5:=⟨_,rfl⟩;have ao:Rw.At w5 wr.heap.size 68 [.int .i64 rc,.int .i64 rk,.slice aA ml ac]:=by rw[←ik];exact aj
 rw[ik]at bb;have k4:=hy' ik;have ou:=hy' bb;have j6:=hy' ao;have ka:=hy' eu;have q0:=ao.cell 0 rfl;have q1:=ao.cell 1 rfl;have q2:=ao.cell 2 rfl;have f0:=ao.frozen 0;have f1:=ao.frozen 1;have f2:=ao.frozen 2;have ot:=ao.lt;have lp:=Ch.K_bd rc;have hK:=Ch.char_any rc w5;obtain⟨kc,hkc⟩:∃kc,Ch.K rc=kc:=⟨_,rfl⟩;rw[hkc]at hK lp;have HK:=hy' hK;have pw:=hy' hkc;have ek:IntKind.i64.wrap kc=kc:=by rw[Ya];omega
 have nw:=Md.and_8 rk;obtain⟨cl,lq⟩:∃cl,rk%256%255=cl:=⟨_,rfl⟩;have kw:0≤cl∧cl≤254:=by omega
 have i7:(rk%256).tmod 255=cl:=by rw[QT (by omega)];exact lq
 have j5:IntKind.i64.wrap cl=cl:=by rw[Ya];omega
 clear c8 ed ft bq g0 g1 g2 eu jb hr ha bb aj ao ik hK hkc hb lq;go_upto_region 6 with (fail)
 rw[k4.o];clear c0 c1 ig;go_wp2_with fail;refine HK.o.mono ?_;rintro e w6 ⟨rfl,rfl⟩;go_upto_region 8 with (fail)
 obtain⟨w8,ia⟩:∃w8,(w5.setCell ⟨wr.heap.size,0,none⟩ (.int .i64 kc)).setCell ⟨wr.heap.size,1,none⟩ (.int .i64 cl)=w8:=⟨_,rfl⟩;have b5:Rw.At w8 wr.heap.size 68 [.int .i64 kc,.int .i64 cl,.slice aA ml ac]:=by rw[←ia];exact (j6.o.set 0 (.int .i64 kc)).set 1 (.int .i64 cl)
 have mz:Below wr.heap.size wr w8:=by rw[←ia];exact (ou.o.setCell (p:=⟨wr.heap.size,0,none⟩) (Za _) _).setCell (p:=⟨wr.heap.size,1,none⟩) (Za _) _
 rw[ia];have h4:=hy' b5;have lx:=hy' mz;have q2:=b5.cell 2 rfl;have f2:=b5.frozen 2;have nx:=b5.lt;clear b5 mz ia q0 q1 f0 f1 ot ek nw i7 j5 k4;go_upto_if 36 with (fail)
 go_cut [] (fun wx=>Rw.At wx wr.heap.size 68 [.int .i64 kc,.int .i64 cl,.slice aA (min ml 2) ac]∧Below wr.heap.size wr wx)
 case first =>
  by_cases h2:2<ml
  · have om:(2:Int)<ml:=by omega
    have pu:(2:Int)≤ac:=by omega
    have b2:min ml 2=2:=by omega
    have ep:=hy' b2;clear b2;go_wp2_with fail;go_meet;rw[ep.o];exact⟨h4.o.set 2 _,lx.o.setCell (p:=⟨wr.heap.size,2,none⟩) (Za _) _⟩
  have om:¬(2:Int)<ml:=by omega
  have b2:min ml 2=ml:=by omega
  have ep:=hy' b2;clear b2;go_wp2_with fail;go_meet;rw[ep.o];exact⟨h4.o,lx.o⟩
 obtain⟨bx,iq⟩:=hcut;obtain⟨wx,rfl⟩:∃wx:World,wx=wc:=⟨_,rfl⟩;obtain⟨m2,kb⟩:∃m2,min ml 2=m2:=⟨_,rfl⟩;rw[kb]at bx;have kx:m2≤2:=by omega
 have oy:m2≤ml:=by omega
 have p4:=hy' kb;have kv:=hy' bx;have kt:=hy' iq;have dx:=ka.o.below iq;have j4:=hy' dx;have o0:=hy' (jy.o.below iq)
 obtain⟨row,dc,cz,dl⟩:∃row:Option Nat,(m2=0→row=none)∧(∀p,row=some p→(∃cs z,wx.heap[p]?=some (.cells cs 3 z))∧∃q,aA=some q∧q.block=p)∧(0<m2→∃bk ok,aA=some ⟨bk,ok,none⟩∧row=some bk):=by
  by_cases h0:m2=0
  · exact⟨none,fun _=>rfl,fun p hp=>absurd hp (by simp),fun h=>absurd h (by omega)⟩
  obtain⟨bk,ok,cs,hA,hc,_⟩:=dx (by rw[Ze,e6.o];omega);refine⟨some bk,fun h=>absurd h h0,fun p hp=>?_,fun _=>⟨bk,ok,hA,rfl⟩⟩;cases hp
  exact⟨⟨cs,_,hc⟩,_,hA,rfl⟩
 have lg:=hy' dc;have di:=hy' cz;have gx:=hy' dl;have x2:=bx.cell 2 rfl;have p9:=bx.lt;clear bx iq dx kb dc cz dl q2 f2 nx;go_wp2_with fail;clear x2;go_loopw [44] (fun i wq=>∃q:Nat,q≤m2∧i=.int .i64 q∧Rw.At wq wr.heap.size 68 [.int .i64 kc,.int .i64 cl,.slice aA m2 ac]∧Slt wq 3 aA (((rm.take q).map Ch.K++rm.drop q).map (Value.int .i64))∧wx.grownBy wq row) (fun i _=>m2-(intOf i).toNat)
 case atStart=>exact⟨0,Nat.zero_le _,rfl,kv.o,by simpa using j4.o,zDs (Below.refl _ _)⟩
 obtain⟨q,hq,rfl,bi,bl,e5⟩:=hrel;obtain⟨wq,rfl⟩:∃wq:World,wq=wr:=⟨_,rfl⟩;have cj:=hy' bi;have jf:=hy' bl;have pj:=hy' e5;have q2:=bi.cell 2 rfl;have pq:=bi.lt
 by_cases hltq:q<m2
 · obtain⟨y,hy⟩:∃y,rm[q]?=some y:=⟨_,Zb (by rw[e6.o];omega)⟩;obtain⟨bk,ok,hA,na⟩:=gx.o (by omega);subst hA
   have hlen:(((rm.take q).map Ch.K++rm.drop q).map (Value.int .i64)).length=ml:=by
    rw[Ze,Zd,Ze,Zq,ZO,e6.o];omega
   obtain⟨b',o',hl,lm,bq⟩:=bl.sl (by rw[hlen];omega);simp only[Zh,YT]at hl;obtain⟨rfl,rfl,_⟩:=hl;have cy:=bq q (by rw[hlen];omega);rw[zOh Ch.K hy]at cy;have fy:=bl.frozen (by rw[hlen];omega) (ok+q);have jx:=bl.set (i:=q) (by rw[hlen];omega) (.int .i64 (Ch.K y));rw[zOi Ch.K hy]at jx;have ma:=hy' jx;obtain⟨ky,jr⟩:∃ky,Ch.K y=ky:=⟨_,rfl⟩;have k5:=Ch.K_bd y;rw[jr]at k5 ma;have nr:Hy (∀W,Calls prog 40 #[.int .i64 y] W fun e w'=>e=.returned (.int .i32 ky)∧W=w'):=hy' fun W=>by rw[←jr];exact Ch.char_any y W
   have py:IntKind.i64.wrap ky=ky:=by rw[Ya];omega
   have pv:(q:Int)<m2:=by omega
   have px:(0:Int)≤q:=by omega
   have pp:q<m2:=hltq;have pn:=hy' na;clear bi bl e5 hy hlen bq jx jr k5 na
   have hne:wr.heap.size≠bk:=fun e=>by
    obtain⟨b',o',cs,hl,lm,_⟩:=jf.o (by rw[Ze,Zd,Ze,Zq,ZO,e6.o];omega);simp only[Zh,YT]at hl;obtain⟨rfl,rfl,_⟩:=hl;subst e;exact cj.o.not (by decide) _ _ lm
   have lj:=zA0 pj.o (by rw[pn.o];exact Rw.grown_set bk (ok+q) (.int .i64 ky));have aa:=cj.o.other (i:=ok+q) hne (.int .i64 ky);have n8:=hy' (Md.grown_drew lj);have jq:=hy' aa;clear hne lj aa;go_upto_region 13 with (fail)
   go_region_law
    (first
      | (refine zKt _ (by rfl) 40 _ _ (by rfl) (C.enter func40 (by kernel_rfl) rfl) (.int .i64 y) (by rfl) _ (nr.out _) ?_)
      | fail)
   all_goals go_wp2_with fail
   all_goals exact⟨⟨q+1,by omega,by go_num,jq.o,ma.o,n8.o⟩,by simp[intOf];omega⟩
 obtain rfl:m2=q:=by omega
 have b9:=o0.o.grown e5 HA.o jo.o di.o
 have ly:Below w.heap.size w wq:=(cq.o.trans (kt.o.mono cq.o.size)).trans (zAf e5 (Zi cq.o.size kt.o.size) fun p hp=>by
  obtain⟨_,y,hy,pr⟩:=di.o p hp;have h1:=(jo.o.2 (aA,ac) (Zn HA.o) y hy).1;have h2:=kd.o;omega)
 have jm:w4.heap.size≤wq.heap.size:=by
  have h1:=kt.o.size;have h2:=e5.size;omega
 have iy:=bl.take m2;rw[←Q4,XB (by rw[Ze,Zq,e6.o];omega),Zm (by rw[Ze,Zq];omega)]at iy;have cd:((rm.take m2).map Ch.K).length=m2:=by rw[Ze,Zq,e6.o];omega
 have eh:∀c∈(rm.take m2).map Ch.K,-2147483648≤c∧c≤2147483647:=fun c hc=>by
  obtain⟨y,_,rfl⟩:=List.mem_map.1 hc;exact Ch.K_bd y
 obtain⟨mp,nf⟩:∃mp,(rm.take m2).map Ch.K=mp:=⟨_,rfl⟩;rw[nf]at iy cd eh;have ba:=hy' b9;have hg:=hy' ly;have l7:=hy' iy;have av:=hy' cd;have kh:=hy' eh;have z1:=bi.cell 1 rfl;have z2:=bi.cell 2 rfl;clear b9 ly iy cd eh nf bi bl e5 q2 hltq;obtain⟨gb,mg⟩:∃gb,decide (cl=0∧m2=0)=gb:=⟨_,rfl⟩;have im:=hy' mg;clear mg;go_upto_region 15 with (fail)
 go_cut [67] (fun s wx=>s=.bool gb∧wx=wq)
 case first =>
  rcases h1:(cl == 0) with _|_
  · have bu:gb=false:=by
     rw[←im.o];have a1:¬cl=0:=by simpa using h1
     simp[a1]
    subst bu;go_wp2_with fail;go_meet;exact⟨rfl,rfl⟩
  rcases h2:((m2:Int) == 0) with _|_
  · have bu:gb=false:=by
     rw[←im.o];have a1:¬(m2:Int)=0:=by simpa using h2
     have a2:¬m2=0:=by omega
     simp[a2]
    subst bu;go_wp2_with fail;go_meet;exact⟨rfl,rfl⟩
  have bu:gb=true:=by
   rw[←im.o];have a1:cl=0:=by simpa using h1
   have a2:(m2:Int)=0:=by simpa using h2
   have a3:m2=0:=by omega
   simp[a1,a3]
  subst bu;go_wp2_with fail;go_meet;exact⟨rfl,rfl⟩
 obtain⟨rfl,rfl⟩:=hcut;obtain⟨wq,rfl⟩:∃wq:World,wq=wc:=⟨_,rfl⟩;rcases gb with _|_
 rotate_left
 · go_wp2_with fail;have h5:k+1≤n2:=hlt;refine⟨⟨k+1,To,adso,vo,h5,?_,ba.o,hg.o,jm⟩,?_⟩
   · go_num
   simp[intOf];omega
 obtain⟨Ao,co,rfl⟩:=zA2 ba.o.out;obtain⟨on,dz⟩:∃on,To.length=on:=⟨_,rfl⟩;have b3:=ba.o;have aa:=b3.a3;rw[dz]at aa;have y1:=aa.cell 1 rfl;have ll:=aa.lt;have bb:Below wq.heap.size wq (wq.alloc (.cells #[.slice none 0 0,.slice XA2 xn2 xc2] 25)):=(Zc _ _).alloc (Za _) _;have gf:=Rw.At.new wq 25 [.slice none 0 0,.slice XA2 xn2 xc2];obtain⟨wn,iz⟩:∃wn,wq.alloc (.cells #[.slice none 0 0,.slice XA2 xn2 xc2] 25)=wn:=⟨_,rfl⟩;have dp:Rw.At wn wq.heap.size 25 [.slice none 0 0,.slice XA2 xn2 xc2]:=by rw[←iz];exact gf
 rw[iz]at bb
 have dh:Md.rok (kc,cl,mp):=by
  refine⟨lp,kw,by show mp.length≤2;rw[av.o];exact kx,kh.o,fun h0 ow=>?_⟩;have h1:decide (cl=0∧m2=0)=false:=im.o;rw[Z0]at h1;apply h1
  refine⟨h0,?_⟩;have:=av.o;rw[show mp=[] from ow]at this;simpa using this.symm
 have dn:zGG [(aA,ac)] (ads.drop (k+1)):=fun x hx p hp y hy q hq=>by
  rw[Zw]at hx;subst hx;obtain⟨l1,l2⟩:=List.getElem?_eq_some_iff.1 HA.o;obtain⟨j,hj,k7⟩:=Xs hy;rw[List.getElem_drop]at k7;rw[ZO]at hj;have:=List.pairwise_iff_getElem.1 jo.o.1 k (k+1+j) l1 (by omega) (by omega) p q (by rw[l2];exact hp) (by rw[k7];exact hq);omega
 have e7:=hy' dh;have dv:=hy' dn;have bo:=hy' dz;have ov:=hy' iz;have fx:=hy' bb;have j7:Hy (Md.NX wq.heap.size (.slice XA2 xn2 xc2) (ads.drop (k+1)) wn [] [] (.slice none 0 0)):=hy' ⟨dp,⟨rfl,fun i r a h=>absurd h (by simp)⟩,ZI _ _ _ _,fun i r a h=>absurd h (by simp),fun r hr=>absurd hr (by simp),fun a ha=>absurd ha (by simp)⟩;have o1:=bb.size;clear b3 aa dz bb gf dp iz dh dn z1 z2;go_upto_region 17 with (fail)
 rw[ov.o];clear y1;have aa:=(ba.o.below fx.o).a3;rw[bo.o]at aa;have y0:=aa.cell 0 rfl;have ll:=aa.lt;clear aa;go_wp2_with fail;clear y0;have o9:on≤20:=by have h1:=ba.o.len;rw[bo.o]at h1;omega
 go_loopw [8,74] (fun v8 i ws=>∃(j:Nat) (d:Bool) (N:List Rw.Row) (nads:List (Option Addr × Nat)) (vn:Value),j≤on∧i=.int .i64 j∧v8=.bool d∧Md.NX wq.heap.size (.slice XA2 xn2 xc2) (ads.drop (k+1)) ws N nads vn∧N.length≤j+(if d=true then 1 else 0)∧Below wq.heap.size wq ws) (fun _ i _=>on-(intOf i).toNat)
 case atStart=>exact⟨0,false,[],[],.slice none 0 0,ZG _,rfl,rfl,j7.o,ZG _,fx.o⟩
 obtain⟨j,d,N,nads,vn,hj,rfl,rfl,fh,ib,dr⟩:=hrel;obtain⟨ws,rfl⟩:∃ws:World,ws=wr:=⟨_,rfl⟩;have e2:=hy' fh;have h9:=hy' ib;have ke:=hy' dr
 by_cases hltj:j<on
 · have bg:=ba.o.below dr;obtain⟨q,hq⟩:∃q,To[j]?=some q:=⟨_,Zb (by rw[bo.o];exact hltj)⟩;obtain⟨qa,fq⟩:∃qa,adso[j]?=some qa:=⟨_,Zb (by rw[bg.lens.1,bo.o];exact hltj)⟩;have br:=bg.out;have cb:(zBn To adso).length=on*3:=by rw[zCU _ _ bg.lens.1,bo.o]
   rw[bo.o]at br;obtain⟨b4,o4,rfl,js,bq⟩:=(Sl.of_own br) (by rw[cb];omega);obtain⟨g0,g1,g2⟩:=zFh To adso j q qa hq fq;have c0:=bq (j*3) (by rw[cb];omega);have c1:=bq (j*3+1) (by rw[cb];omega);have c2:=bq (j*3+2) (by rw[cb];omega);rw[g0]at c0;rw[g1,←Yk]at c1;rw[g2,←Yk]at c2;have ju:=bg.mo j q qa hq fq;have i1:=bg.lens.2 j q qa hq fq;have ki:=bg.rok q (Zn hq)
   have lu:zGG [qa] (ads.drop (k+1)):=fun x hx p hp y hy z hz=>by
    rw[Zw]at hx;subst hx;exact bg.und x (Zn fq) p hp y hy z hz
   obtain⟨qc,qk,qm⟩:=q;obtain⟨qA,ae⟩:=qa;dsimp only at c0 c1 c2 ju i1;obtain⟨ql,j8⟩:∃ql,qm.length=ql:=⟨_,rfl⟩;rw[j8]at c2 i1;have o7:=ki.1;dsimp only at o7;have ie:=hy' j8;have k8:=hy' ki;have lz:=hy' lu;have p8:(j:Int)<on:=by omega
   have nv:(0:Int)≤j:=by omega
   have fw:Below ws.heap.size ws (ws.alloc (.cells #[.int .i64 qc,.int .i64 qk,.slice qA ql ae] 68)):=(Zc _ _).alloc (Za _) _;have gy:=Rw.At.new ws 68 [.int .i64 qc,.int .i64 qk,.slice qA ql ae];obtain⟨wv,ih⟩:∃wv,ws.alloc (.cells #[.int .i64 qc,.int .i64 qk,.slice qA ql ae] 68)=wv:=⟨_,rfl⟩;have au:Rw.At wv ws.heap.size 68 [.int .i64 qc,.int .i64 qk,.slice qA ql ae]:=by rw[←ih];exact gy
   rw[ih]at fw;have ct:=dr.trans (fw.mono dr.size);have po:=hy' ih;have jt:=hy' au;have lb:=hy' (ju.below fw);have kk:=hy' (l7.o.below ct);have bf:=hy' (fh.below fw);have cm:=hy' ct;have aj:=cj.o.below ct;have ld:=hy' aj;have r0:=aj.cell 0 rfl;have r1:=aj.cell 1 rfl;have r2:=aj.cell 2 rfl;have rl:=aj.lt;have p0:=au.cell 0 rfl;have p1:=au.cell 1 rfl;have p2:=au.cell 2 rfl;have pl:=au.lt;have gi:Hy (∀q,vn.ownBlock=some q→q<ws.heap.size):=hy' fun q hq=>(fh.own.lt q hq).2
   have gh:N.length≤30:=by have:=ib;split at this <;> omega
   clear bg hq fq br cb bq g0 g1 g2 ju ki lu j8 fw gy au ih ct aj fh dr;obtain⟨gm,hh⟩:∃g,(!d&&decide (kc<qc))=g:=⟨_,rfl⟩;have ch:=hy' hh;clear hh;go_upto_region 21 with (fail)
   rw[po.o];clear c0 c1 c2;go_cut [86] (fun s wx=>s=.bool gm∧wx=wv)
   case first =>
    cases d
    · by_cases hkq:kc<qc
      · have bu:gm=true:=by rw[←ch.o];simp[hkq]
        subst bu;go_wp2_with fail;go_meet;exact⟨rfl,rfl⟩
      have bu:gm=false:=by rw[←ch.o];simp[hkq]
      subst bu;go_wp2_with fail;go_meet;exact⟨rfl,rfl⟩
    have bu:gm=false:=by rw[←ch.o];rfl
    subst bu;go_wp2_with fail;go_meet;exact⟨rfl,rfl⟩
   obtain⟨rfl,rfl⟩:=hcut;obtain⟨wv,rfl⟩:∃wv:World,wv=wc:=⟨_,rfl⟩;rcases gm with _|_
   · obtain⟨nk,ob,rfl⟩:=zA2 bf.o.own;obtain⟨iw,ec⟩:∃nn,N.length=nn:=⟨_,rfl⟩;have bc:=bf.o.tab;have a7:=bf.o.own.alloc (.cells #[.int .i64 qc,.int .i64 qk,.slice qA ql ae] 68);rw[ec]at bc a7;have p5:=bc.cell 0 rfl;have p7:=bc.lt;have e9:wq.heap.size+1≤(wv.alloc (.cells #[.int .i64 qc,.int .i64 qk,.slice qA ql ae] 68)).heap.size:=by simp;omega
     have gu:=hy' (zCj (w:=wv.alloc (.cells #[.int .i64 qc,.int .i64 qk,.slice qA ql ae] 68)) (A:=some ⟨wv.heap.size,0,none⟩) (xs:=[.int .i64 qc,.int .i64 qk,.slice qA ql ae]) rfl 68 (0,0) (ZS wv _));have kg:=hy' (zBm a7 wq.heap.size (ZP _));have eg:=hy' a7;have ej:=hy' (bc.alloc (.cells #[.int .i64 qc,.int .i64 qk,.slice qA ql ae] 68));have ea:=hy' ec;have mf:iw≤40:=by omega
     clear bc a7 ec;go_wp2_with (first|(at_builtin;refine zAc _ rfl _ _ _ rfl (wq.heap.size+1) 68 j0 _ 3 40 underlying22 hj0 h7 il h8 rfl (by omega) (.slice nk iw ob) iw _ rfl eg.o _ (some ⟨wv.heap.size,0,none⟩) 1 1 [.int .i64 qc,.int .i64 qk,.slice qA ql ae] rfl rfl gu.out (by simp[Value.oneCell']) (by simp only[maxLen];omega) (by omega) e9 ?_;intro v1 nu b1 jz b7;have ah:=ej.o.grown b7 kg.o;have u0:=ah.cell 0 rfl;have ix:=ah.frozen 0;have i6:=ah.lt;obtain⟨n5,o8,rfl⟩:=zA2 b1)|fail);have la:=b1;rw[←ie.o,←ea.o]at la;have dt:=bf.o.push (r:=(qc,qk,qm)) (a:=(qA,ae)) lb.o (by show _≤_;rw[ie.o];exact i1) k8.o lz.o la (by rw[ea.o];exact b7);rw[ea.o]at dt;have jh:Below wq.heap.size wq ((nu).setCell ⟨wq.heap.size,0,none⟩ (.slice n5 (iw+1) o8)):=((cm.o.alloc cm.o.size (.cells #[.int .i64 qc,.int .i64 qk,.slice qA ql ae] 68)).trans (jz.mono (ZX _))).setCell (p:=⟨wq.heap.size,0,none⟩) (Za _) _;exact⟨⟨j+1,d,_,_,_,by omega,by go_num,rfl,dt,by simp only[Zd,YA];have:=h9.o;omega,jh⟩,by simp[intOf];omega⟩
   have nh:d=false:=by
    have h:=ch.o;cases d
    · rfl
    exact absurd h (by simp)
   subst nh;obtain⟨ja,j9,rfl⟩:=zA2 bf.o.own;obtain⟨bp,bm⟩:∃nn,N.length=nn:=⟨_,rfl⟩;have ai:=bf.o.tab;have af:=bf.o.own.alloc (.cells #[.int .i64 kc,.int .i64 cl,.slice aA m2 ac] 68);rw[bm]at ai af;have l8:=ai.cell 0 rfl;have lc:=ai.lt;have bs:wq.heap.size+1≤(wv.alloc (.cells #[.int .i64 kc,.int .i64 cl,.slice aA m2 ac] 68)).heap.size:=by simp;omega
   have bt:=hy' (zCj (w:=wv.alloc (.cells #[.int .i64 kc,.int .i64 cl,.slice aA m2 ac] 68)) (A:=some ⟨wv.heap.size,0,none⟩) (xs:=[.int .i64 kc,.int .i64 cl,.slice aA m2 ac]) rfl 68 (0,0) (ZS wv _));have ew:=hy' (zBm af wq.heap.size (ZP _));have az:=hy' af;have bj:=hy' (ai.alloc (.cells #[.int .i64 kc,.int .i64 cl,.slice aA m2 ac] 68));have a8:=hy' bm;have gj:bp≤40:=by omega
   clear ai af bm;go_upto_region 24 with (first|(at_builtin;refine zAc _ rfl _ _ _ rfl (wq.heap.size+1) 68 j0 _ 3 40 underlying22 hj0 h7 il h8 rfl (by omega) (.slice ja bp j9) bp _ rfl az.o _ (some ⟨wv.heap.size,0,none⟩) 1 1 [.int .i64 kc,.int .i64 cl,.slice aA m2 ac] rfl rfl bt.out (by simp[Value.oneCell']) (by simp only[maxLen];omega) (by omega) bs ?_;intro v1 ks aq cg ag;have ah:=bj.o.grown ag ew.o;have u0:=ah.cell 0 rfl;have ix:=ah.frozen 0;have i6:=ah.lt;obtain⟨e4,e1,rfl⟩:=zA2 aq)|fail)
   have ez:=aq;rw[←av.o,←a8.o]at ez;have ar:=bf.o.push (r:=(kc,cl,mp)) (a:=(aA,ac)) kk.o (by show _≤_;rw[av.o];exact (by omega)) e7.o dv.o ez (by rw[a8.o];exact ag);rw[a8.o]at ar;have kl:Below wq.heap.size wq (ks.setCell ⟨wq.heap.size,0,none⟩ (.slice e4 (bp+1) e1)):=((cm.o.alloc cm.o.size (.cells #[.int .i64 kc,.int .i64 cl,.slice aA m2 ac] 68)).trans (cg.mono (ZX _))).setCell (p:=⟨wq.heap.size,0,none⟩) (Za _) _;have aw:=((jt.o.alloc (.cells #[.int .i64 kc,.int .i64 cl,.slice aA m2 ac] 68)).grown ag (fun e=>Q3 _ (gi.o _ (by rw[a8.o];exact e)))).other (b':=wq.heap.size) (i:=0) (by have:=ke.o.size;have:=e2.o.tab.lt;omega) (.slice e4 (bp+1) e1);have ef:=(((lb.o.below ((Zc _ _).alloc (Za _) (.cells #[.int .i64 kc,.int .i64 cl,.slice aA m2 ac] 68))).grown ag (zAC az.o (by decide))).grown (Rw.grown_set wq.heap.size 0 (.slice e4 (bp+1) e1)) (by intro q hq;cases hq;exact ah.not (by decide)));obtain⟨wy,kz⟩:∃wy,ks.setCell ⟨wq.heap.size,0,none⟩ (.slice e4 (bp+1) e1)=wy:=⟨_,rfl⟩;rw[kz]at ar kl aw ef;obtain⟨vy,l9⟩:∃v,Value.slice e4 (bp+1) e1=v:=⟨_,rfl⟩;rw[l9]at ar;clear l9;rw[kz];have cu:=hy' ar;have nb:=hy' kl;have j3:=hy' ef;have p0:=aw.cell 0 rfl;have p1:=aw.cell 1 rfl;have p2:=aw.cell 2 rfl;have pl:=aw.lt;clear ar kl aw ef kz ez aq cg ag ah u0 ix i6 r0 r1 r2 rl l8 lc;obtain⟨og,o5,rfl⟩:=zA2 cu.o.own;obtain⟨ic,cp⟩:∃nn,(N++[(kc,cl,mp)]).length=nn:=⟨_,rfl⟩;have bh:=cu.o.tab;have ay:=cu.o.own.alloc (.cells #[.int .i64 qc,.int .i64 qk,.slice qA ql ae] 68);rw[cp]at bh ay;have qf:=bh.cell 0 rfl;have qe:=bh.lt;have fc:wq.heap.size+1≤(wy.alloc (.cells #[.int .i64 qc,.int .i64 qk,.slice qA ql ae] 68)).heap.size:=by simp;omega
   have fk:=hy' (zCj (w:=wy.alloc (.cells #[.int .i64 qc,.int .i64 qk,.slice qA ql ae] 68)) (A:=some ⟨wy.heap.size,0,none⟩) (xs:=[.int .i64 qc,.int .i64 qk,.slice qA ql ae]) rfl 68 (0,0) (ZS wy _));have jd:=hy' (zBm ay wq.heap.size (ZP _));have eo:=hy' ay;have dy:=hy' (bh.alloc (.cells #[.int .i64 qc,.int .i64 qk,.slice qA ql ae] 68));have et:=hy' cp;have mb:ic≤40:=by rw[←cp,Zd,YA];omega
   clear bh ay cp;go_wp2_with (first|(at_builtin;refine zAc _ rfl _ _ _ rfl (wq.heap.size+1) 68 j0 _ 3 40 underlying22 hj0 h7 il h8 rfl (by omega) (.slice og ic o5) ic _ rfl eo.o _ (some ⟨wy.heap.size,0,none⟩) 1 1 [.int .i64 qc,.int .i64 qk,.slice qA ql ae] rfl rfl fk.out (by simp[Value.oneCell']) (by simp only[maxLen];omega) (by omega) fc ?_;intro v1 ol bz kn bw;have ah:=dy.o.grown bw jd.o;have u0:=ah.cell 0 rfl;have ix:=ah.frozen 0;have i6:=ah.lt;obtain⟨nj,o6,rfl⟩:=zA2 bz)|fail);have k6:=bz;rw[←ie.o,←et.o]at k6;have df:=cu.o.push (r:=(qc,qk,qm)) (a:=(qA,ae)) j3.o (by show _≤_;rw[ie.o];exact i1) k8.o lz.o k6 (by rw[et.o];exact bw);rw[et.o]at df;have j2:Below wq.heap.size wq ((ol).setCell ⟨wq.heap.size,0,none⟩ (.slice nj (ic+1) o6)):=((nb.o.alloc nb.o.size (.cells #[.int .i64 qc,.int .i64 qk,.slice qA ql ae] 68)).trans (kn.mono (ZX _))).setCell (p:=⟨wq.heap.size,0,none⟩) (Za _) _;exact⟨⟨j+1,true,_,_,_,by omega,by go_num,rfl,df,by simp only[Zd,YA];have h1:=h9.o;simp at h1 ⊢;omega,j2⟩,by simp[intOf];omega⟩
 obtain rfl:on=j:=by omega
 have mi:=ke;have aj:=cj.o.below dr;have r0:=aj.cell 0 rfl;have r1:=aj.cell 1 rfl;have r2:=aj.cell 2 rfl;have rl:=aj.lt;have kk:=hy' (l7.o.below dr);have gh:N.length≤30:=by have:=ib;split at this <;> omega
 clear fh ib dr aj hltj;go_upto_if 101 with (fail)
 go_cut [] (fun wx=>∃(N':List Rw.Row) (b6:List (Option Addr × Nat)) (mv:Value),Md.NX wq.heap.size (.slice XA2 xn2 xc2) (ads.drop (k+1)) wx N' b6 mv∧N'.length≤on+1∧Below wq.heap.size wq wx)
 case first =>
  cases d
  · have oa:N.length≤on:=by have h1:=h9.o;simpa using h1
    obtain⟨ja,j9,rfl⟩:=zA2 e2.o.own;obtain⟨bp,bm⟩:∃nn,N.length=nn:=⟨_,rfl⟩;have ai:=e2.o.tab;have af:=e2.o.own.alloc (.cells #[.int .i64 kc,.int .i64 cl,.slice aA m2 ac] 68);rw[bm]at ai af;have l8:=ai.cell 0 rfl;have lc:=ai.lt;have bs:wq.heap.size+1≤(ws.alloc (.cells #[.int .i64 kc,.int .i64 cl,.slice aA m2 ac] 68)).heap.size:=by simp;omega
    have bt:=hy' (zCj (w:=ws.alloc (.cells #[.int .i64 kc,.int .i64 cl,.slice aA m2 ac] 68)) (A:=some ⟨ws.heap.size,0,none⟩) (xs:=[.int .i64 kc,.int .i64 cl,.slice aA m2 ac]) rfl 68 (0,0) (ZS ws _));have ew:=hy' (zBm af wq.heap.size (ZP _));have az:=hy' af;have bj:=hy' (ai.alloc (.cells #[.int .i64 kc,.int .i64 cl,.slice aA m2 ac] 68));have a8:=hy' bm;have gj:bp≤40:=by omega
    clear ai af bm;go_wp2_with (first|(at_builtin;refine zAc _ rfl _ _ _ rfl (wq.heap.size+1) 68 j0 _ 3 40 underlying22 hj0 h7 il h8 rfl (by omega) (.slice ja bp j9) bp _ rfl az.o _ (some ⟨ws.heap.size,0,none⟩) 1 1 [.int .i64 kc,.int .i64 cl,.slice aA m2 ac] rfl rfl bt.out (by simp[Value.oneCell']) (by simp only[maxLen];omega) (by omega) bs ?_;intro v1 ks aq cg ag;have ah:=bj.o.grown ag ew.o;have u0:=ah.cell 0 rfl;have ix:=ah.frozen 0;have i6:=ah.lt;obtain⟨e4,e1,rfl⟩:=zA2 aq)|fail);have ez:=aq;rw[←av.o,←a8.o]at ez;have ar:=e2.o.push (r:=(kc,cl,mp)) (a:=(aA,ac)) kk.o (by show _≤_;rw[av.o];exact (by omega)) e7.o dv.o ez (by rw[a8.o];exact ag);rw[a8.o]at ar;go_meet;exact⟨_,_,_,ar,by rw[Zd,YA];omega,(((mi.o.alloc mi.o.size (.cells #[.int .i64 kc,.int .i64 cl,.slice aA m2 ac] 68)).trans (cg.mono (ZX _))).setCell (p:=⟨wq.heap.size,0,none⟩) (Za _) _)⟩
  go_wp2_with fail;go_meet;exact⟨N,nads,vn,e2.o,by have h1:=h9.o;simpa using h1,ke.o⟩
 obtain⟨N',b6,mv,a6,ji,ee⟩:=hcut;obtain⟨lr,rfl⟩:∃w':World,w'=wc:=⟨_,rfl⟩;obtain⟨An,cn,rfl⟩:=zA2 a6.own;have mm:=ba.o.below ee;have ng:=Sl.of_own mm.excl;have gq:Md.Doc lr (zBs An N'.length cn XA2 E.length xc2) N' E:=⟨An,cn,XA2,xc2,rfl,zJ0 a6.lens.1 (Slt.of_own a6.own) a6.mo,ng⟩;have du:=zFA a6.own;have nc:N'.length≤100000:=by omega
 have cx:E.length≤1000000:=Zi k3.o (by decide);have ax:=a6.rok;have en:Md.bd N':=fun r hr=>⟨(ax r hr).1,(ax r hr).2.2.2.1⟩
 have js:∀r∈N',r.2.2.length≤1000:=fun r hr=>Zi (ax r hr).2.2.1 (by decide)
 have mh:∀r∈N',-9223372036854775808≤r.2.1∧r.2.1≤9223372036854775807:=fun r hr=>⟨Yf (by decide) (ax r hr).2.1.1,Yf (ax r hr).2.1.2 (by decide)⟩
 have bn:=zLw _ N' E lr nc cx en js mh gq (zQX du);clear ng nc cx ax en js mh;unfold zBs at bn;rw[mj.o]at bn;obtain⟨ck,ko⟩:∃ck,Md.chk N' (Md.xs E)=ck:=⟨_,rfl⟩;rw[ko]at bn;obtain⟨nn,km⟩:∃nn,N'.length=nn:=⟨_,rfl⟩;have cc:=a6.tab;rw[km]at bn cc ji;have t0:=cc.cell 0 rfl;have t1:=cc.cell 1 rfl;have tl:=cc.lt;have ku:=hy' bn;have h3:=hy' a6;have dw:=hy' ee;have ph:=hy' ko;have jn:=hy' km;clear a6 ee mm gq du bn ko km cc;go_wp2_with fail;refine ku.o.mono ?_;rintro e w9 ⟨rfl,fj⟩;have kp:=(ba.o.below dw.o).below fj;have fe:=h3.o.below fj;rw[jn.o]at fe;have li:=hy' kp;have od:=hy' (h3.o.below fj);have iv:=hy' (dw.o.trans (fj.mono dw.o.size));have t0:=fe.tab.cell 0 rfl;have t1:=fe.tab.cell 1 rfl;have tl:=fe.tab.lt;have e0:=kp.a3;have s0:=e0.cell 0 rfl;have s1:=e0.cell 1 rfl;have g0:=e0.frozen 0;have g1:=e0.frozen 1;have gl:=e0.lt;clear kp fe fj e0
 by_cases hck0:ck=0
 · subst hck0;have fo:zBf 0=⟨#[]⟩:=rfl;rw[fo];go_wp2_with fail;have h5:k+1≤n2:=hlt;have pd:=kd.o;have jv:=jy.o.len;rw[bo.o]at jv;have b9:=Md.RI.take li.o od.o ph.o (by rw[jn.o];omega) (by omega) (by omega);rw[jn.o]at b9;have j1:=hg.o.trans (iv.o.mono hg.o.size);have ny:=iv.o.size;refine⟨⟨k+1,N',b6,.slice An nn cn,h5,?_,b9,?_,?_⟩,?_⟩
   · go_num
   · exact (j1.setCell (p:=⟨w3.heap.size,0,none⟩) (by show w.heap.size≤w3.heap.size;omega) _).setCell (p:=⟨w3.heap.size,1,none⟩) (by show w.heap.size≤w3.heap.size;omega) _
   · rw[ZQ,ZQ];omega
   simp[intOf];omega
 have kj:=zPS hck0
 have je:¬zBf ck=⟨#[]⟩:=fun e=>by
  rw[e]at kj;revert kj;decide +kernel
 obtain⟨nt,l3⟩:∃nt,zBf ck=nt:=⟨_,rfl⟩;rw[l3]at kj je ⊢;clear l3 hck0;go_wp2_with fail;have h5:k+1≤n2:=hlt;have j1:=hg.o.trans (iv.o.mono hg.o.size);have ny:=iv.o.size;refine⟨⟨k+1,To,adso,_,h5,?_,li.o,j1,by omega⟩,?_⟩
 · go_num
 simp[intOf];omega
end Go.Proofs.YtddbccflcekdpaaGreatDoor
