/- The law's Right: a table that may be, of any one: by walking its text. -/
import Derived.Test.YtjakbblocbicjaaGreatDoorMdDocO
import Derived.Test.YtjakbblocbicjaaGreatDoorMdRef6
set_option maxRecDepth 100000
set_option maxHeartbeats 4000000
set_option linter.unusedVariables false
set_option linter.unusedSimpArgs false
namespace Go.Proofs.YtjakbblocbicjaaGreatDoor
open Go.Proofs.Tryz
open Go.RowKit
def Md.rok (r:Rw.Row):Prop:=(-2147483648≤r.1∧r.1≤2147483647)∧(0≤r.2.1∧r.2.1≤254)∧r.2.2.length≤2∧(∀c∈r.2.2,-2147483648≤c∧c≤2147483647)∧(r.2.1=0→r.2.2≠[])
def zGA (ads rest:List (Option Addr × Nat)):Prop:=∀a∈ads,∀p,a.1=some p→∀a'∈rest,∀q,a'.1=some q→p.block<q.block
def zJh (w:World) (e:Ending) (w':World):Prop :=
 ∃v T E,e=.returned v∧Md.Doc w' v T E∧(∀A n c A' n' c',v=.agg #[.slice A n c,.slice A' n' c']→n≤c∧n'≤c')∧T.length≤20∧E.length≤30∧(∀r∈T,Md.rok r)∧(∀c∈E,C.isC c=true)∧Md.chk T (Md.xs E)=0∧Below w.heap.size w w'
theorem Slt.grownA {w w':World} {t:TypeId} {A:Option Addr} {xs:List Value} {row:Option Nat} (h:Slt w t A xs) (hg:w.grownBy w' row) (hr:∀p,A=some p→row≠some p.block):Slt w' t A xs:=by
 intro hx;obtain⟨b,o,cs,hA,hb,hc⟩:=h hx;exact⟨b,o,cs,hA,(hg.block b (zDt hb) fun e=>hr _ hA e.symm).trans hb,hc⟩
theorem Slt.take {w:World} {t:TypeId} {A:Option Addr} {xs:List Value} (h:Slt w t A xs) (n:Nat):Slt w t A (xs.take n):=by
 intro hx;rw[Zr]at hx;obtain⟨b,o,cs,hA,hb,hc⟩:=h (by omega);refine⟨b,o,cs,hA,hb,fun i hi=>?_⟩;rw[Zr]at hi;rw[hc i (by omega),Yp,Zm (by omega)]
theorem Slt.set {w:World} {t:TypeId} {b o i:Nat} {xs:List Value} (h:Slt w t (some ⟨b,o,none⟩) xs) (hi:i<xs.length) (v:Value):Slt (w.setCell ⟨b,o+i,none⟩ v) t (some ⟨b,o,none⟩) (xs.set i v):=by
 intro _;obtain⟨b',o',cs,hA,hb,hc⟩:=h (by omega);simp only[Zg,YZ]at hA;obtain⟨rfl,rfl,_⟩:=hA;have aa:=zDt hb;refine⟨b,o,cs.setIfInBounds (o+i) v,rfl,?_,fun j hj=>?_⟩
 · show (w.heap.modify b _)[b]?=_;have hk:=(Array.getElem?_eq_some_iff.1 hb).2;rw[Xn (by rw[QO];exact aa),QM,hk];simp
 rw[Y0]at hj
 have hs:o+i<cs.size:=by
  have:=hc i hi;rw[Zb hi]at this;exact (Array.getElem?_eq_some_iff.1 this).1
 rw[Array.getElem?_setIfInBounds,Qd]
 by_cases e:i=j
 · subst e;rw[Zm rfl,Zm rfl,Zm hs,Zm hi]
 rw[Zk (by omega),Zk e,hc j hj]
structure Md.RI (b2 b3 lo mid B4:Nat) (A2:Option Addr) (n2 c2:Nat) (XA2:Option Addr) (xn2 xc2:Nat) (T:List Rw.Row) (ads:List (Option Addr × Nat)) (E:List Int) (k:Nat) (wr:World) (To:List Rw.Row) (adso:List (Option Addr × Nat)) (vo:Value):Prop where
 a2:Rw.At wr b2 25 [.slice none 0 0,.slice none 0 0]
 a3:Rw.At wr b3 25 [vo,.slice XA2 xn2 xc2]
 rows:wr.ownsRow lo 39 3 (.slice A2 n2 c2) n2 (zBm T ads)
 maps:∀(j:Nat) (r:Rw.Row) (a:Option Addr × Nat),k≤j→T[j]?=some r→ads[j]?=some a→Slt wr 3 a.1 (r.2.2.map (Value.int .i64))
 excl:wr.ownsRow mid 3 1 (.slice XA2 xn2 xc2) xn2 (E.map (Value.int .i64))
 lens:adso.length=To.length∧Md.caps To adso
 out:wr.ownsRow B4 39 3 vo To.length (zBm To adso)
 mo:Rw.MapsI wr To adso
 rok:∀r∈To,Md.rok r
 und:zGA adso (ads.drop k)
 chk:Md.chk To (Md.xs E)=0
 len:To.length≤k
section
variable {b2 b3 lo mid B4 n2 c2 xn2 xc2 k:Nat} {A2 XA2:Option Addr} {T To:List Rw.Row} {ads adso:List (Option Addr × Nat)} {E:List Int} {wr w':World} {vo:Value}
theorem Md.RI.below (h:Md.RI b2 b3 lo mid B4 A2 n2 c2 XA2 xn2 xc2 T ads E k wr To adso vo) (hb:Below wr.heap.size wr w'):Md.RI b2 b3 lo mid B4 A2 n2 c2 XA2 xn2 xc2 T ads E k w' To adso vo :=
 ⟨h.a2.below hb,h.a3.below hb,zA4 h.rows hb (Za _),fun j r a h1 h2 h3=>(h.maps j r a h1 h2 h3).below hb,zA4 h.excl hb (Za _),h.lens,zA4 h.out hb (Za _),h.mo.below hb,h.rok,h.und,h.chk,h.len⟩
theorem Md.RI.grown (h:Md.RI b2 b3 lo mid B4 A2 n2 c2 XA2 xn2 xc2 T ads E k wr To adso vo) {row:Option Nat} (hg:wr.grownBy w' row) {a:Option Addr × Nat} (ha:ads[k]?=some a) (ag:Md.apart lo mid ads)
 (aa:∀p,row=some p→(∃cs z,wr.heap[p]?=some (.cells cs 3 z))∧∃q,a.1=some q∧q.block=p):Md.RI b2 b3 lo mid B4 A2 n2 c2 XA2 xn2 xc2 T ads E (k+1) w' To adso vo:=by
 have hk:k<ads.length:=(List.getElem?_eq_some_iff.1 ha).1
 have ae:ads.drop k=a::ads.drop (k+1):=by
  obtain⟨h1,h2⟩:=List.getElem?_eq_some_iff.1 ha;rw[ZR h1,h2]
 have hne:∀(b:Nat) (t:TypeId) cs z,wr.heap[b]?=some (.cells cs t z)→t≠3→row≠some b:=fun b t cs z hb ht e=>by
  obtain⟨⟨cs',z',hc⟩,_⟩:=aa b e;rw[hb]at hc;simp only[Zg,XE]at hc;exact ht hc.2.1
 have af:∀{base n:Nat} {v:Value} {xs:List Value},wr.ownsRow base 39 3 v n xs→w'.ownsRow base 39 3 v n xs:=fun {base n v xs} ho=>by
  refine ho.kept hg ?_;rcases ho.2 with ⟨rfl,_⟩|⟨g,cap,aj,rfl,_,ai,_⟩
  · exact .inl rfl
  exact .inr fun e=>hne g _ _ _ ai (by decide) e.symm
 refine⟨h.a2.grown hg (hne _ _ _ _ h.a2 (by decide)),h.a3.grown hg (hne _ _ _ _ h.a3 (by decide)),af h.rows,fun j r a' h1 h2 h3=>?_,?_,h.lens,af h.out,fun i r a' h1 h2=>?_,h.rok,?_,h.chk,Nat.le_succ_of_le h.len⟩
 · refine (h.maps j r a' (by omega) h2 h3).grownA hg fun p hp e=>?_
   obtain⟨_,q,hq,ah⟩:=aa _ e;obtain⟨l1,l2⟩:=List.getElem?_eq_some_iff.1 h3;obtain⟨l3,l4⟩:=List.getElem?_eq_some_iff.1 ha;have:=List.pairwise_iff_getElem.1 ag.1 k j l3 l1 (by omega) q p (by rw[l4];exact hq) (by rw[l2];exact hp);omega
 · refine h.excl.kept hg ?_;rcases hv:(Value.slice XA2 xn2 xc2).ownBlock with _|g
   · exact .inl rfl
   refine .inr fun e=>?_
   obtain⟨_,q,hq,ah⟩:=aa g e.symm;have h1:=(h.excl.lt g hv).1;have h2:=(ag.2 a (Zj ha) q hq).2;omega
 · refine (h.mo i r a' h1 h2).grownA hg fun p hp e=>?_
   obtain⟨_,q,hq,ah⟩:=aa _ e;have:=h.und a' (Zj h2) p hp a (by rw[ae];exact Zu) q hq;omega
 intro x hx p hp y hy q hq;exact h.und x hx p hp y (by rw[ae];exact Zy _ hy) q hq
end
theorem zOa (f:Int→Int) {l:List Int} {q:Nat} {y:Int} (hy:l[q]?=some y):(((l.take q).map f++l.drop q).map (Value.int .i64))[q]?=some (.int .i64 y):=by
 obtain⟨h1,h2⟩:=List.getElem?_eq_some_iff.1 hy;have hl:((l.take q).map f).length=q:=by rw[Ze,Zr];omega
 rw[Zo,ZH (by omega),hl,Ym,Xk,YI,hy];rfl
theorem zOb (f:Int→Int) {l:List Int} {q:Nat} {y:Int} (hy:l[q]?=some y):(((l.take q).map f++l.drop q).map (Value.int .i64)).set q (.int .i64 (f y))=((l.take (q+1)).map f++l.drop (q+1)).map (Value.int .i64):=by
 obtain⟨h1,h2⟩:=List.getElem?_eq_some_iff.1 hy;have hl:(((l.take q).map f).map (Value.int .i64)).length=q:=by rw[Ze,Ze,Zr];omega
 rw[ZL,Yz _ _ (by omega),hl,Ym,ZR h1,h2,ZV,Zs,ZA,hy];simp
structure Md.NX (b7:Nat) (x:Value) (rest:List (Option Addr × Nat)) (ws:World) (N:List Rw.Row) (nads:List (Option Addr × Nat)) (vn:Value):Prop where
 tab:Rw.At ws b7 25 [vn,x]
 lens:nads.length=N.length∧Md.caps N nads
 own:ws.ownsRow (b7+1) 39 3 vn N.length (zBm N nads)
 mo:Rw.MapsI ws N nads
 rok:∀r∈N,Md.rok r
 und:zGA nads rest
theorem Md.NX.below {b7:Nat} {x vn:Value} {rest nads:List (Option Addr × Nat)} {ws w':World} {N:List Rw.Row} (h:Md.NX b7 x rest ws N nads vn) (hb:Below ws.heap.size ws w'):Md.NX b7 x rest w' N nads vn :=
 ⟨h.tab.below hb,h.lens,zA4 h.own hb (Za _),h.mo.below hb,h.rok,h.und⟩
theorem Md.NX.push {b7:Nat} {x vn v6:Value} {rest nads:List (Option Addr × Nat)} {ws w6:World} {N:List Rw.Row} (h:Md.NX b7 x rest ws N nads vn) {r:Rw.Row} {a:Option Addr × Nat} (hs:Slt ws 3 a.1 (r.2.2.map (Value.int .i64))) (hc:r.2.2.length≤a.2) (hr:Md.rok r) (hu:zGA [a] rest)
 (ag:(w6.ownsRow (b7+1) 39 3 v6 (N.length+1) (zBm N nads++[.int .i64 r.1,.int .i64 r.2.1,.slice a.1 r.2.2.length a.2]))) {o:Obj} (hg:(ws.alloc o).grownBy w6 vn.ownBlock) :
 Md.NX b7 x rest (w6.setCell ⟨b7,0,none⟩ v6) (N++[r]) (nads++[a]) v6:=by
 have hb:Below ws.heap.size ws (ws.alloc o):=(Zc _ _).alloc (Za _) _;have aa:=zA4 h.own hb (Za _);have af:=(h.tab.below hb).grown hg (zBl h.own b7 (ZO _));have ah:=(h.mo.below hb).grown hg (zAB aa (by decide));have ai:=(hs.below hb).grown hg (zAB aa (by decide))
 have ae:∀q,some b7=some q→∀cs z,w6.heap[q]?≠some (.cells cs 3 z):=fun q hq=>by
  cases hq
  exact af.not (by decide)
 refine⟨af.set 0 v6,⟨by simp[h.lens.1],h.lens.2.app h.lens.1 hc⟩,?_,(ah.grown (Rw.grown_set b7 0 v6) ae).app h.lens.1 (ai.grown (Rw.grown_set b7 0 v6) ae),fun q hq=>?_,fun q hq=>?_⟩
 · rw[Zd,YA,zGY _ _ _ _ h.lens.1];exact zA8 ag (ZO _) (Rw.grown_set b7 0 v6)
 · rcases List.mem_append.1 hq with hq|hq
   · exact h.rok q hq
   rw[List.mem_singleton.1 hq];exact hr
 rcases List.mem_append.1 hq with hq|hq
 · exact h.und q hq
 exact hu q hq
theorem Md.RI.take {b2 b3 b7 lo mid B4 n2 c2 xn2 xc2 k:Nat} {A2 XA2:Option Addr} {T To N:List Rw.Row} {ads adso nads:List (Option Addr × Nat)} {E:List Int} {wx:World} {vo vn:Value}
 (h:Md.RI b2 b3 lo mid B4 A2 n2 c2 XA2 xn2 xc2 T ads E k wx To adso vo) (nx:Md.NX b7 (.slice XA2 xn2 xc2) (ads.drop k) wx N nads vn) (hc:Md.chk N (Md.xs E)=0) (hl:N.length≤k) (hB:B4≤b7+1) (hne:b2≠b3) :
 Md.RI b2 b3 lo mid B4 A2 n2 c2 XA2 xn2 xc2 T ads E k ((wx.setCell ⟨b3,0,none⟩ vn).setCell ⟨b3,1,none⟩ (.slice XA2 xn2 xc2)) N nads vn:=by
 have k1:=h.a3.set 0 vn;have ag:∀q,some b3=some q→∀cs z,wx.heap[q]?≠some (.cells cs 3 z):=fun q hq=>by cases hq;exact h.a3.not (by decide)
 have af:∀q,some b3=some q→∀cs z,(wx.setCell ⟨b3,0,none⟩ vn).heap[q]?≠some (.cells cs 3 z):=fun q hq=>by cases hq;exact k1.not (by decide)
 have aa:∀{base n size:Nat} {e:TypeId} {v:Value} {xs:List Value},e≠25→wx.ownsRow base e size v n xs→((wx.setCell ⟨b3,0,none⟩ vn).setCell ⟨b3,1,none⟩ (.slice XA2 xn2 xc2)).ownsRow base e size v n xs:=fun {base n size e v xs} he ho=>by
  have h1:=ho.kept (Rw.grown_set b3 0 vn) (.inr fun e'=>zAB ho he _ e' _ _ h.a3);exact h1.kept (Rw.grown_set b3 1 _) (.inr fun e'=>zAB h1 he _ e' _ _ k1)
 have ae:∀{A:Option Addr} {xs:List Value},Slt wx 3 A xs→Slt ((wx.setCell ⟨b3,0,none⟩ vn).setCell ⟨b3,1,none⟩ (.slice XA2 xn2 xc2)) 3 A xs:=fun {A xs} hs =>
  (hs.grown (Rw.grown_set b3 0 vn) ag).grown (Rw.grown_set b3 1 _) af
 refine⟨(h.a2.other hne _).other hne _,k1.set 1 _,aa (by decide) h.rows,fun j r a h1 h2 h3=>ae (h.maps j r a h1 h2 h3),aa (by decide) h.excl,nx.lens,own_base (aa (by decide) nx.own) hB,fun i r a h1 h2=>ae (nx.mo i r a h1 h2),nx.rok,nx.und,hc,hl⟩
theorem zPN {k:Nat} (h:k≠0):(zBe k).toList.isEmpty=false:=by
 have g1:(zBe 1).toList.isEmpty=false:=by kernel_rfl
 have g2:(zBe 2).toList.isEmpty=false:=by kernel_rfl
 have g3:(zBe 3).toList.isEmpty=false:=by kernel_rfl
 have g4:(zBe 4).toList.isEmpty=false:=by kernel_rfl
 have g5:(zBe 5).toList.isEmpty=false:=by kernel_rfl
 match k,h with
 | 1,_=>exact g1
 | 2,_=>exact g2
 | 3,_=>exact g3
 | 4,_=>exact g4
 | _+5,_=>exact g5
theorem zQX {A XA:Option Addr} {m c xn xc:Nat} (h:m≤c):∀A' n' c' x',zAX A m c XA xn xc=.agg #[.slice A' n' c',x']→n'≤c':=by
 intro A' n' c' x' he;unfold zAX at he;simp only[XF,Qc,Yd,ZZ,YQ]at he;obtain⟨⟨rfl,rfl,rfl⟩,_⟩:=he;exact h
theorem Md.grown_drew {w w':World} {row:Option Nat} (h:w.grownBy w' row):w.grownBy w'.drew row:=⟨h.os,h.tape,h.output,h.size,h.block⟩
theorem Md.and_8 (n:Int):bits .and .i64 n 255=n%256:=by
 have hm:(BitVec.ofInt 64 255).toNat=2 ^ 8-1:=by decide
 have key:(BitVec.ofInt 64 n &&& BitVec.ofInt 64 255).toNat=(n%((2 ^ 64:Nat):Int)).toNat%2 ^ 8:=by
  rw[Xu,Xm,hm,Yo]
 show IntKind.i64.wrap ((BitVec.ofInt 64 n &&& BitVec.ofInt 64 255).toNat:Nat)=n%256;rw[key,Z4];omega
theorem zMI (A XA:Option Addr) (n c xn xc:Nat) (T0:List Rw.Row) (E0:List Int) (w:World) (hn:T0.length=n) (hxn:E0.length=xn) (hnb:n≤maxLen) (hxb:xn≤maxLen) (hbd:∀r∈T0,zDR r) (h2:Rw.SeesI w A T0) (hX:Sl w w.heap.size XA (E0.map (Value.int .i64))) :
 Calls prog 73 #[.agg #[.slice A n c,.slice XA xn xc]] w (zJh w):=by
 obtain⟨j0,hj0,il,iu,iy⟩:=Z2 zOB;obtain⟨T,hT⟩:∃T,zEY T0=T:=⟨_,rfl⟩;obtain⟨E,hE⟩:∃E,zEZ E0=E:=⟨_,rfl⟩;have ma:T.length≤20:=by rw[←hT];unfold zEY;simp;omega
 have k5:E.length≤30:=by rw[←hE];unfold zEZ;simp;omega
 have l9:∀c∈E,C.isC c=true:=fun c hc=>by
  rw[←hE]at hc;unfold zEZ at hc;obtain⟨x,_,rfl⟩:=List.mem_map.1 hc;exact Ch.K_is x
 have nf:∀r∈T,r.2.2.length≤4:=fun r hr=>by
  rw[←hT]at hr;unfold zEY at hr;obtain⟨q,_,rfl⟩:=List.mem_map.1 hr;unfold zLl;simp;omega
 obtain⟨wa,e4⟩:∃wa,(w.alloc (.cells #[.slice A n c,.slice XA xn xc] 25)).alloc (.cells #[.slice none 0 0,.slice none 0 0] 25)=wa:=⟨_,rfl⟩;have lm:Below w.heap.size w wa:=by rw[←e4];exact ((Zc _ _).alloc (Za _) _).alloc (by simp) _
 have ak:Rw.At wa w.heap.size 25 [.slice A n c,.slice XA xn xc]:=by rw[←e4];exact (Rw.At.new w 25 [.slice A n c,.slice XA xn xc]).alloc _
 have aq:Rw.At wa (w.heap.size+1) 25 [.slice none 0 0,.slice none 0 0]:=by
  have:=Rw.At.new (w.alloc (.cells #[.slice A n c,.slice XA xn xc] 25)) 25 [.slice none 0 0,.slice none 0 0];rw[←e4];simpa using this
 have h8:wa.heap.size=w.heap.size+2:=by rw[←e4];simp
 have o9:=hy' e4;have kj:=hy' lm;have gv:=hy' ak;have fk:=hy' aq;have pc:=hy' h8
 have gi:Hy (∀W,Below w.heap.size w W→Calls prog 107 #[.agg #[.slice A n c,.slice XA xn xc]] W fun e w'=>∃v,e=.returned v∧Md.DocO w' v W.heap.size T E∧Below W.heap.size W w'):=hy' fun W hW=>by
  rw[←hT,←hE];exact zPL A XA n c xn xc T0 E0 W hn hxn hnb hxb (fun r hr=>(hbd r hr).2.2.1) (h2.below hW) (hX.below hW hW.size)
 have oo:=hy' ma;have l6:=hy' k5;have ol:=hy' l9;have nr:=hy' nf;have z0:=ak.cell 0 rfl;have z1:=ak.cell 1 rfl;have kh:=ak.lt;clear hT hE e4 lm ak aq h8 ma k5 l9 nf hn hxn hnb hxb hbd h2 hX;go_enter func73,ntmps73;go_upto_region 1 with (fail)
 rw[o9.o];go_wp2_with fail;refine (gi.o wa kj.o).mono ?_;rintro e w2 ⟨v2,rfl,o5,cw⟩;obtain⟨A2,c2,XA2,xc2,ads,rfl,⟨dx,dh⟩,b2,c8,mid,gf,gm,mh,b1⟩:=o5;obtain⟨n2,i1⟩:∃k,T.length=k:=⟨_,rfl⟩;obtain⟨xn2,cu⟩:∃k,E.length=k:=⟨_,rfl⟩;rw[i1]at dx b2;rw[cu]at b1;rw[i1,cu];unfold zAX;have ak:=gv.o.below cw;have aq:=fk.o.below cw;have y0:=ak.cell 0 rfl;have y1:=ak.cell 1 rfl;have y2:=ak.frozen 0;have y3:=ak.frozen 1;have oy:=ak.lt;have h8:=pc.o;have ez:=(ak.set 0 (.slice A2 n2 c2)).set 1 (.slice XA2 xn2 xc2);have kv:=(aq.other (b':=w.heap.size) (i:=0) (by omega) (.slice A2 n2 c2)).other (b':=w.heap.size) (i:=1) (by omega) (.slice XA2 xn2 xc2);have kz:=zA8 (zA8 b2 (by omega) (Rw.grown_set w.heap.size 0 (.slice A2 n2 c2))) (by omega) (Rw.grown_set w.heap.size 1 (.slice XA2 xn2 xc2));have j9:=zA8 (zA8 b1 (by omega) (Rw.grown_set w.heap.size 0 (.slice A2 n2 c2))) (by omega) (Rw.grown_set w.heap.size 1 (.slice XA2 xn2 xc2));have ji:=(c8.grown (Rw.grown_set w.heap.size 0 (.slice A2 n2 c2)) (by intro q hq;cases hq;exact ak.not (by decide))).grown (Rw.grown_set w.heap.size 1 (.slice XA2 xn2 xc2)) (by intro q hq;cases hq;exact (ak.set 0 (.slice A2 n2 c2)).not (by decide))
 have dz:Below w.heap.size w ((w2.setCell ⟨w.heap.size,0,none⟩ (.slice A2 n2 c2)).setCell ⟨w.heap.size,1,none⟩ (.slice XA2 xn2 xc2)) :=
  ((kj.o.trans (cw.mono kj.o.size)).setCell (p:=⟨w.heap.size,0,none⟩) (Za _) _).setCell (p:=⟨w.heap.size,1,none⟩) (Za _) _
 have nh:((w2.setCell ⟨w.heap.size,0,none⟩ (.slice A2 n2 c2)).setCell ⟨w.heap.size,1,none⟩ (.slice XA2 xn2 xc2)).heap.size=w2.heap.size:=by rw[ZP,ZP]
 obtain⟨w3,jl⟩:∃w3,(w2.setCell ⟨w.heap.size,0,none⟩ (.slice A2 n2 c2)).setCell ⟨w.heap.size,1,none⟩ (.slice XA2 xn2 xc2)=w3:=⟨_,rfl⟩;rw[jl]at ez kv kz j9 ji dz nh;have mz:=hy' jl;have x0:=ez.cell 0 rfl;have x1:=ez.cell 1 rfl;have o0:=ez.lt;have nj:=cw.size;have a8:Below w3.heap.size w3 (w3.alloc (.cells #[.slice none 0 0,.slice XA2 xn2 xc2] 25)):=(Zc _ _).alloc (Za _) _;have aa:=Rw.At.new w3 25 [.slice none 0 0,.slice XA2 xn2 xc2];obtain⟨w4,h5⟩:∃w4,w3.alloc (.cells #[.slice none 0 0,.slice XA2 xn2 xc2] 25)=w4:=⟨_,rfl⟩;have aa:Rw.At w4 w3.heap.size 25 [.slice none 0 0,.slice XA2 xn2 xc2]:=by rw[←h5];exact aa
 rw[h5]at a8;have ni:w4.heap.size=w3.heap.size+1:=by rw[←h5];simp
 have na:=hy' h5;have ed:=ez.below a8;have t0:=ed.cell 0 rfl;have pz:=ed.lt;have og:=hy' (kv.below a8);have nk:=hy' aa;have pn:=hy' (zA4 kz a8 (Za _));have o8:=hy' (zA4 j9 a8 (Za _));have ot:=hy' (ji.below a8);have od:=hy' (dz.trans (a8.mono dz.size));have h4:=hy' dx;have fo:=hy' dh;have h9:=hy' i1;have k4:=hy' cu;have kd:=hy' mh;have j8:Hy (wa.heap.size=w.heap.size+2∧w.heap.size+2≤mid∧mid≤w3.heap.size∧w4.heap.size=w3.heap.size+1):=hy' ⟨by omega,by omega,by omega,ni⟩;clear dx dh b2 c8 b1 mh ak aq ez kv kz j9 ji dz nh jl a8 aa h5 ni ed i1 cu gf gm cw h8 nj z0 z1 gi;go_upto_region 2 with (fail)
 rw[mz.o];clear y0 y1 y2 y3;go_upto_region 3 with (fail)
 rw[na.o];clear x0 x1;have dk:Md.chk [] (Md.xs E)=0:=rfl;have e7:=hy' dk;clear dk kh oy o0 gv fk mz na;go_wp2_with fail;clear t0;go_loopw [19] (fun i wr=>∃(k:Nat) (To:List Rw.Row) (adso:List (Option Addr × Nat)) (vo:Value),k≤n2∧i=.int .i64 k∧Md.RI (w.heap.size+1) w3.heap.size wa.heap.size mid w4.heap.size A2 n2 c2 XA2 xn2 xc2 T ads E k wr To adso vo∧Below w.heap.size w wr∧w4.heap.size≤wr.heap.size) (fun i _=>n2-(intOf i).toNat)
 case atStart=>exact⟨0,[],[],.slice none 0 0,ZF _,rfl,⟨og.o,nk.o,pn.o,fun j r a _ h1 h2=>ot.o j r a h1 h2,o8.o,⟨rfl,fun i r a h=>absurd h (by simp)⟩,ZE _ _ _ _,fun i r a h=>absurd h (by simp),fun r hr=>absurd hr (by simp),fun a ha=>absurd ha (by simp),e7.o,ZF _⟩,od.o,Za _⟩
 obtain⟨k,To,adso,vo,hk,rfl,dm,ew,p8⟩:=hrel;have kt:=hy' dm;have kp:n2≤20:=by rw[←h9.o];exact oo.o
 have cq:=hy' ew
 by_cases hlt:k<n2
 rotate_left
 · obtain rfl:n2=k:=by omega
   obtain⟨wz,rfl⟩:∃wz:World,wz=wr:=⟨_,rfl⟩;obtain⟨Ao,co,rfl⟩:=zA3 dm.out;obtain⟨on,ec⟩:∃on,To.length=on:=⟨_,rfl⟩;have aa:=dm.a3;have aq:=dm.a2;rw[ec]at aa;have n8:=j8.o;have y0:=aa.cell 0 rfl;have y1:=aa.cell 1 rfl;have x0:=aq.cell 0 rfl;have x1:=aq.cell 1 rfl;have f0:=aq.frozen 0;have f1:=aq.frozen 1;have qg:=aq.lt;have mq:=aa.lt;have bq:=hy' ec;have cv:=hy' aq;clear aq aa ec dm ew hlt hk;go_wp2_with fail;have k1:=cv.o.set 0 (.slice Ao on co);have k2:=k1.set 1 (.slice XA2 xn2 xc2);have b6:=kt.o;rw[bq.o]at b6;have fq:∀q,some (w.heap.size+1)=some q→∀cs z,wz.heap[q]?≠some (.cells cs 3 z):=fun q hq=>by cases hq;exact cv.o.not (by decide)
   have gq:∀q,some (w.heap.size+1)=some q→∀cs z,(wz.setCell ⟨w.heap.size+1,0,none⟩ (.slice Ao on co)).heap[q]?≠some (.cells cs 3 z):=fun q hq=>by cases hq;exact k1.not (by decide)
   have ho:=zA8 (zA8 b6.out (by omega) (Rw.grown_set (w.heap.size+1) 0 (.slice Ao on co))) (by omega) (Rw.grown_set (w.heap.size+1) 1 (.slice XA2 xn2 xc2));have hx:=zA8 (zA8 b6.excl (by omega) (Rw.grown_set (w.heap.size+1) 0 (.slice Ao on co))) (by omega) (Rw.grown_set (w.heap.size+1) 1 (.slice XA2 xn2 xc2));have hm:=(b6.mo.grown (Rw.grown_set (w.heap.size+1) 0 (.slice Ao on co)) fq).grown (Rw.grown_set (w.heap.size+1) 1 (.slice XA2 xn2 xc2)) gq;refine YH (zIY rfl _ _ (w.heap.size+1) _ _ _ _ rfl k2 underlying25 rfl (by kernel_rfl)) rfl ⟨_,To,E,rfl,⟨Ao,co,XA2,xc2,?_,zIM b6.lens.1 ?_ hm,Sl.of_own hx⟩,?_,Zh b6.len kp,l6.o,b6.rok,ol.o,b6.chk,?_⟩
   · rw[bq.o,k4.o];rfl
   · rw[bq.o]at ho;exact Slt.of_own ho
   · intro A' n' c' A7 n7 c7 he;simp only[XF,Qc,Yd,ZZ,YQ]at he;obtain⟨⟨rfl,rfl,rfl⟩,rfl,rfl,rfl⟩:=he;rw[bq.o]at ho;exact⟨zFs ho,zFs hx⟩
   exact (cq.o.setCell (p:=⟨w.heap.size+1,0,none⟩) (ZW _) _).setCell (p:=⟨w.heap.size+1,1,none⟩) (ZW _) _
 obtain⟨r,hr⟩:∃r,T[k]?=some r:=⟨_,Zb (by rw[h9.o];exact hlt)⟩;obtain⟨a,ha⟩:∃a,ads[k]?=some a:=⟨_,Zb (by rw[h4.o];exact hlt)⟩;have hh:(zBm T ads).length=n2*3:=by rw[zCG _ _ (by rw[h4.o,h9.o]),h9.o]
 obtain⟨b,o,rfl,hb,bo⟩:=(Sl.of_own dm.rows) (by rw[hh];omega);obtain⟨g0,g1,g2⟩:=zFc T ads k r a hr ha;have c0:=bo (k*3) (by rw[hh];omega);have c1:=bo (k*3+1) (by rw[hh];omega);have ib:=bo (k*3+2) (by rw[hh];omega);rw[g0]at c0;rw[g1,←Yn]at c1;rw[g2,←Yn]at ib;have gy:=nr.o r (Zj hr);have et:=dm.maps k r a (Za _) hr ha;have dt:=fo.o k r a hr ha;obtain⟨rc,rk,rm⟩:=r;obtain⟨aA,ac⟩:=a;dsimp only at c0 c1 ib gy et dt;obtain⟨ml,jd⟩:∃ml,rm.length=ml:=⟨_,rfl⟩;rw[jd]at ib gy dt;have e1:=hy' jd;have HR:=hy' hr;have HA:=hy' ha;have p7:(k:Int)<n2:=by omega
 have p3:(0:Int)≤k:=by omega
 have a8:Below wr.heap.size wr (wr.alloc (.cells #[.int .i64 rc,.int .i64 rk,.slice aA ml ac] 39)):=(Zc _ _).alloc (Za _) _;have aj:=Rw.At.new wr 39 [.int .i64 rc,.int .i64 rk,.slice aA ml ac];obtain⟨w5,iz⟩:∃w5,wr.alloc (.cells #[.int .i64 rc,.int .i64 rk,.slice aA ml ac] 39)=w5:=⟨_,rfl⟩;have ao:Rw.At w5 wr.heap.size 39 [.int .i64 rc,.int .i64 rk,.slice aA ml ac]:=by rw[←iz];exact aj
 rw[iz]at a8;have ly:=hy' iz;have np:=hy' a8;have jn:=hy' ao;have ks:=hy' et;have q0:=ao.cell 0 rfl;have q1:=ao.cell 1 rfl;have q2:=ao.cell 2 rfl;have f0:=ao.frozen 0;have f1:=ao.frozen 1;have f2:=ao.frozen 2;have o3:=ao.lt;have mv:=Ch.K_bd rc;have hK:=Ch.char_any rc w5;obtain⟨kc,kf⟩:∃kc,Ch.K rc=kc:=⟨_,rfl⟩;rw[kf]at hK mv;have HK:=hy' hK;have qh:=hy' kf;have ek:IntKind.i64.wrap kc=kc:=by rw[Z4];omega
 have ov:=Md.and_8 rk;obtain⟨cl,k8⟩:∃cl,rk%256%255=cl:=⟨_,rfl⟩;have jg:0≤cl∧cl≤254:=by omega
 have ku:(rk%256).tmod 255=cl:=by rw[QK (by omega)];exact k8
 have kw:IntKind.i64.wrap cl=cl:=by rw[Z4];omega
 clear dm ew hh bo g0 g1 g2 et jd hr ha a8 aj ao iz hK kf hb k8;go_upto_region 6 with (fail)
 rw[ly.o];clear c0 c1 ib;go_wp2_with fail;refine HK.o.mono ?_;rintro e w6 ⟨rfl,rfl⟩;go_upto_region 8 with (fail)
 obtain⟨w8,ij⟩:∃w8,(w5.setCell ⟨wr.heap.size,0,none⟩ (.int .i64 kc)).setCell ⟨wr.heap.size,1,none⟩ (.int .i64 cl)=w8:=⟨_,rfl⟩;have cb:Rw.At w8 wr.heap.size 39 [.int .i64 kc,.int .i64 cl,.slice aA ml ac]:=by rw[←ij];exact (jn.o.set 0 (.int .i64 kc)).set 1 (.int .i64 cl)
 have k6:Below wr.heap.size wr w8:=by rw[←ij];exact (np.o.setCell (p:=⟨wr.heap.size,0,none⟩) (Za _) _).setCell (p:=⟨wr.heap.size,1,none⟩) (Za _) _
 rw[ij];have gw:=hy' cb;have lu:=hy' k6;have q2:=cb.cell 2 rfl;have f2:=cb.frozen 2;have oc:=cb.lt;clear cb k6 ij q0 q1 f0 f1 o3 ek ov ku kw ly;go_upto_if 36 with (fail)
 go_cut [] (fun wx=>Rw.At wx wr.heap.size 39 [.int .i64 kc,.int .i64 cl,.slice aA (min ml 2) ac]∧Below wr.heap.size wr wx)
 case first =>
  by_cases h2:2<ml
  · have o7:(2:Int)<ml:=by omega
    have qb:(2:Int)≤ac:=by omega
    have b5:min ml 2=2:=by omega
    have en:=hy' b5;clear b5;go_wp2_with fail;go_meet;rw[en.o];exact⟨gw.o.set 2 _,lu.o.setCell (p:=⟨wr.heap.size,2,none⟩) (Za _) _⟩
  have o7:¬(2:Int)<ml:=by omega
  have b5:min ml 2=ml:=by omega
  have en:=hy' b5;clear b5;go_wp2_with fail;go_meet;rw[en.o];exact⟨gw.o,lu.o⟩
 obtain⟨bt,iq⟩:=hcut;obtain⟨wx,rfl⟩:∃wx:World,wx=wc:=⟨_,rfl⟩;obtain⟨m2,kq⟩:∃m2,min ml 2=m2:=⟨_,rfl⟩;rw[kq]at bt;have jt:m2≤2:=by omega
 have ox:m2≤ml:=by omega
 have p9:=hy' kq;have kx:=hy' bt;have ki:=hy' iq;have ei:=ks.o.below iq;have jr:=hy' ei;have o2:=hy' (kt.o.below iq)
 obtain⟨row,dc,dl,du⟩:∃row:Option Nat,(m2=0→row=none)∧(∀p,row=some p→(∃cs z,wx.heap[p]?=some (.cells cs 3 z))∧∃q,aA=some q∧q.block=p)∧(0<m2→∃bk ok,aA=some ⟨bk,ok,none⟩∧row=some bk):=by
  by_cases h0:m2=0
  · exact⟨none,fun _=>rfl,fun p hp=>absurd hp (by simp),fun h=>absurd h (by omega)⟩
  obtain⟨bk,ok,cs,hA,hc,_⟩:=ei (by rw[Ze,e1.o];omega);refine⟨some bk,fun h=>absurd h h0,fun p hp=>?_,fun _=>⟨bk,ok,hA,rfl⟩⟩;cases hp
  exact⟨⟨cs,_,hc⟩,_,hA,rfl⟩
 have mf:=hy' dc;have dn:=hy' dl;have gz:=hy' du;have x2:=bt.cell 2 rfl;have p6:=bt.lt;clear bt iq ei kq dc dl du q2 f2 oc;go_wp2_with fail;clear x2;go_loopw [44] (fun i wq=>∃q:Nat,q≤m2∧i=.int .i64 q∧Rw.At wq wr.heap.size 39 [.int .i64 kc,.int .i64 cl,.slice aA m2 ac]∧Slt wq 3 aA (((rm.take q).map Ch.K++rm.drop q).map (Value.int .i64))∧wx.grownBy wq row) (fun i _=>m2-(intOf i).toNat)
 case atStart=>exact⟨0,Nat.zero_le _,rfl,kx.o,by simpa using jr.o,zDg (Below.refl _ _)⟩
 obtain⟨q,hq,rfl,bl,bj,e3⟩:=hrel;obtain⟨wq,rfl⟩:∃wq:World,wq=wr:=⟨_,rfl⟩;have cp:=hy' bl;have jo:=hy' bj;have o1:=hy' e3;have q2:=bl.cell 2 rfl;have pv:=bl.lt
 by_cases hltq:q<m2
 · obtain⟨y,hy⟩:∃y,rm[q]?=some y:=⟨_,Zb (by rw[e1.o];omega)⟩;obtain⟨bk,ok,hA,mi⟩:=gz.o (by omega);subst hA
   have hlen:(((rm.take q).map Ch.K++rm.drop q).map (Value.int .i64)).length=ml:=by
    rw[Ze,Zd,Ze,Zr,ZN,e1.o];omega
   obtain⟨b',o',fg,ld,bo⟩:=bj.sl (by rw[hlen];omega);simp only[Zg,YZ]at fg;obtain⟨rfl,rfl,_⟩:=fg;have cy:=bo q (by rw[hlen];omega);rw[zOa Ch.K hy]at cy;have fy:=bj.frozen (by rw[hlen];omega) (ok+q);have ka:=bj.set (i:=q) (by rw[hlen];omega) (.int .i64 (Ch.K y));rw[zOb Ch.K hy]at ka;have k7:=hy' ka;obtain⟨ky,jb⟩:∃ky,Ch.K y=ky:=⟨_,rfl⟩;have lj:=Ch.K_bd y;rw[jb]at lj k7;have ow:Hy (∀W,Calls prog 48 #[.int .i64 y] W fun e w'=>e=.returned (.int .i32 ky)∧W=w'):=hy' fun W=>by rw[←jb];exact Ch.char_any y W
   have p4:IntKind.i64.wrap ky=ky:=by rw[Z4];omega
   have px:(q:Int)<m2:=by omega
   have qd:(0:Int)≤q:=by omega
   have pu:q<m2:=hltq;have ou:=hy' mi;clear bl bj e3 hy hlen bo ka jb lj mi
   have hne:wr.heap.size≠bk:=fun e=>by
    obtain⟨b',o',cs,fg,ld,_⟩:=jo.o (by rw[Ze,Zd,Ze,Zr,ZN,e1.o];omega);simp only[Zg,YZ]at fg;obtain⟨rfl,rfl,_⟩:=fg;subst e;exact cp.o.not (by decide) _ _ ld
   have nb:=zA0 o1.o (by rw[ou.o];exact Rw.grown_set bk (ok+q) (.int .i64 ky));have aa:=cp.o.other (i:=ok+q) hne (.int .i64 ky);have oz:=hy' (Md.grown_drew nb);have je:=hy' aa;clear hne nb aa;go_upto_region 13 with (fail)
   go_region_law
    (first
      | (refine zKg _ (by rfl) 48 _ _ (by rfl) (C.enter func48 (by kernel_rfl) rfl) (.int .i64 y) (by rfl) _ (ow.out _) ?_)
      | fail)
   all_goals go_wp2_with fail
   all_goals exact⟨⟨q+1,by omega,by go_num,je.o,k7.o,oz.o⟩,by simp[intOf];omega⟩
 obtain rfl:m2=q:=by omega
 have b3:=o2.o.grown e3 HA.o kd.o dn.o
 have mg:Below w.heap.size w wq:=(cq.o.trans (ki.o.mono cq.o.size)).trans (zAf e3 (Zh cq.o.size ki.o.size) fun p hp=>by
  obtain⟨_,y,hy,pr⟩:=dn.o p hp;have h1:=(kd.o.2 (aA,ac) (Zj HA.o) y hy).1;have h2:=j8.o;omega)
 have jm:w4.heap.size≤wq.heap.size:=by
  have h1:=ki.o.size;have h2:=e3.size;omega
 have i6:=bj.take m2;rw[←List.map_take,Xw (by rw[Ze,Zr,e1.o];omega),Zi (by rw[Ze,Zr];omega)]at i6;have b7:((rm.take m2).map Ch.K).length=m2:=by rw[Ze,Zr,e1.o];omega
 have eh:∀c∈(rm.take m2).map Ch.K,-2147483648≤c∧c≤2147483647:=fun c hc=>by
  obtain⟨y,_,rfl⟩:=List.mem_map.1 hc;exact Ch.K_bd y
 obtain⟨mp,lb⟩:∃mp,(rm.take m2).map Ch.K=mp:=⟨_,rfl⟩;rw[lb]at i6 b7 eh;have bc:=hy' b3;have gh:=hy' mg;have l4:=hy' i6;have av:=hy' b7;have kl:=hy' eh;have z1:=bl.cell 1 rfl;have z2:=bl.cell 2 rfl;clear b3 mg i6 b7 eh lb bl bj e3 q2 hltq;obtain⟨gb,mb⟩:∃gb,decide (cl=0∧m2=0)=gb:=⟨_,rfl⟩;have ia:=hy' mb;clear mb;go_upto_region 15 with (fail)
 go_cut [67] (fun s wx=>s=.bool gb∧wx=wq)
 case first =>
  rcases h1:(cl == 0) with _|_
  · have b8:gb=false:=by
     rw[←ia.o];have a1:¬cl=0:=by simpa using h1
     simp[a1]
    subst b8;go_wp2_with fail;go_meet;exact⟨rfl,rfl⟩
  rcases h2:((m2:Int) == 0) with _|_
  · have b8:gb=false:=by
     rw[←ia.o];have a1:¬(m2:Int)=0:=by simpa using h2
     have a2:¬m2=0:=by omega
     simp[a2]
    subst b8;go_wp2_with fail;go_meet;exact⟨rfl,rfl⟩
  have b8:gb=true:=by
   rw[←ia.o];have a1:cl=0:=by simpa using h1
   have a2:(m2:Int)=0:=by simpa using h2
   have a3:m2=0:=by omega
   simp[a1,a3]
  subst b8;go_wp2_with fail;go_meet;exact⟨rfl,rfl⟩
 obtain⟨rfl,rfl⟩:=hcut;obtain⟨wq,rfl⟩:∃wq:World,wq=wc:=⟨_,rfl⟩;rcases gb with _|_
 rotate_left
 · go_wp2_with fail;have ft:k+1≤n2:=hlt;refine⟨⟨k+1,To,adso,vo,ft,?_,bc.o,gh.o,jm⟩,?_⟩
   · go_num
   simp[intOf];omega
 obtain⟨Ao,co,rfl⟩:=zA3 bc.o.out;obtain⟨on,ec⟩:∃on,To.length=on:=⟨_,rfl⟩;have b6:=bc.o;have aa:=b6.a3;rw[ec]at aa;have y1:=aa.cell 1 rfl;have mq:=aa.lt;have a8:Below wq.heap.size wq (wq.alloc (.cells #[.slice none 0 0,.slice XA2 xn2 xc2] 25)):=(Zc _ _).alloc (Za _) _;have gj:=Rw.At.new wq 25 [.slice none 0 0,.slice XA2 xn2 xc2];obtain⟨wn,ig⟩:∃wn,wq.alloc (.cells #[.slice none 0 0,.slice XA2 xn2 xc2] 25)=wn:=⟨_,rfl⟩;have cx:Rw.At wn wq.heap.size 25 [.slice none 0 0,.slice XA2 xn2 xc2]:=by rw[←ig];exact gj
 rw[ig]at a8
 have cz:Md.rok (kc,cl,mp):=by
  refine⟨mv,jg,by show mp.length≤2;rw[av.o];exact jt,kl.o,fun h0 ny=>?_⟩;have h1:decide (cl=0∧m2=0)=false:=ia.o;rw[ZX]at h1;apply h1
  refine⟨h0,?_⟩;have:=av.o;rw[show mp=[] from ny]at this;simpa using this.symm
 have di:zGA [(aA,ac)] (ads.drop (k+1)):=fun x hx p hp y hy q hq=>by
  rw[Zt]at hx;subst hx;obtain⟨l1,l2⟩:=List.getElem?_eq_some_iff.1 HA.o;obtain⟨j,hj,mj⟩:=Xr hy;rw[List.getElem_drop]at mj;rw[ZN]at hj;have:=List.pairwise_iff_getElem.1 kd.o.1 k (k+1+j) l1 (by omega) (by omega) p q (by rw[l2];exact hp) (by rw[mj];exact hq);omega
 have gp:=hy' cz;have dp:=hy' di;have bq:=hy' ec;have pq:=hy' ig;have fe:=hy' a8;have j4:Hy (Md.NX wq.heap.size (.slice XA2 xn2 xc2) (ads.drop (k+1)) wn [] [] (.slice none 0 0)):=hy' ⟨cx,⟨rfl,fun i r a h=>absurd h (by simp)⟩,ZE _ _ _ _,fun i r a h=>absurd h (by simp),fun r hr=>absurd hr (by simp),fun a ha=>absurd ha (by simp)⟩;have om:=a8.size;clear b6 aa ec a8 gj cx ig cz di z1 z2;go_upto_region 17 with (fail)
 rw[pq.o];clear y1;have aa:=(bc.o.below fe.o).a3;rw[bq.o]at aa;have y0:=aa.cell 0 rfl;have mq:=aa.lt;clear aa;go_wp2_with fail;clear y0;have n5:on≤20:=by have h1:=bc.o.len;rw[bq.o]at h1;omega
 go_loopw [8,74] (fun v8 i ws=>∃(j:Nat) (d:Bool) (N:List Rw.Row) (nads:List (Option Addr × Nat)) (vn:Value),j≤on∧i=.int .i64 j∧v8=.bool d∧Md.NX wq.heap.size (.slice XA2 xn2 xc2) (ads.drop (k+1)) ws N nads vn∧N.length≤j+(if d=true then 1 else 0)∧Below wq.heap.size wq ws) (fun _ i _=>on-(intOf i).toNat)
 case atStart=>exact⟨0,false,[],[],.slice none 0 0,ZF _,rfl,rfl,j4.o,ZF _,fe.o⟩
 obtain⟨j,d,N,nads,vn,hj,rfl,rfl,e8,ie,dv⟩:=hrel;obtain⟨ws,rfl⟩:∃ws:World,ws=wr:=⟨_,rfl⟩;have e5:=hy' e8;have ih:=hy' ie;have j1:=hy' dv
 by_cases hltj:j<on
 · have bg:=bc.o.below dv;obtain⟨q,hq⟩:∃q,To[j]?=some q:=⟨_,Zb (by rw[bq.o];exact hltj)⟩;obtain⟨qa,fm⟩:∃qa,adso[j]?=some qa:=⟨_,Zb (by rw[bg.lens.1,bq.o];exact hltj)⟩;have bx:=bg.out;have bz:(zBm To adso).length=on*3:=by rw[zCG _ _ bg.lens.1,bq.o]
   rw[bq.o]at bx;obtain⟨b4,o4,rfl,km,bo⟩:=(Sl.of_own bx) (by rw[bz];omega);obtain⟨g0,g1,g2⟩:=zFc To adso j q qa hq fm;have c0:=bo (j*3) (by rw[bz];omega);have c1:=bo (j*3+1) (by rw[bz];omega);have c2:=bo (j*3+2) (by rw[bz];omega);rw[g0]at c0;rw[g1,←Yn]at c1;rw[g2,←Yn]at c2;have jz:=bg.mo j q qa hq fm;have im:=bg.lens.2 j q qa hq fm;have ko:=bg.rok q (Zj hq)
   have lq:zGA [qa] (ads.drop (k+1)):=fun x hx p hp y hy z hz=>by
    rw[Zt]at hx;subst hx;exact bg.und x (Zj fm) p hp y hy z hz
   obtain⟨qc,qk,qm⟩:=q;obtain⟨qA,ae⟩:=qa;dsimp only at c0 c1 c2 jz im;obtain⟨ql,jf⟩:∃ql,qm.length=ql:=⟨_,rfl⟩;rw[jf]at c2 im;have pp:=ko.1;dsimp only at pp;have h7:=hy' jf;have mm:=hy' ko;have ng:=hy' lq;have pw:(j:Int)<on:=by omega
   have pj:(0:Int)≤j:=by omega
   have fp:Below ws.heap.size ws (ws.alloc (.cells #[.int .i64 qc,.int .i64 qk,.slice qA ql ae] 39)):=(Zc _ _).alloc (Za _) _;have hg:=Rw.At.new ws 39 [.int .i64 qc,.int .i64 qk,.slice qA ql ae];obtain⟨wv,ix⟩:∃wv,ws.alloc (.cells #[.int .i64 qc,.int .i64 qk,.slice qA ql ae] 39)=wv:=⟨_,rfl⟩;have aw:Rw.At wv ws.heap.size 39 [.int .i64 qc,.int .i64 qk,.slice qA ql ae]:=by rw[←ix];exact hg
   rw[ix]at fp;have cg:=dv.trans (fp.mono dv.size);have oq:=hy' ix;have jw:=hy' aw;have l5:=hy' (jz.below fp);have ju:=hy' (l4.o.below cg);have bh:=hy' (e8.below fp);have ct:=hy' cg;have aj:=cp.o.below cg;have l8:=hy' aj;have r0:=aj.cell 0 rfl;have r1:=aj.cell 1 rfl;have r2:=aj.cell 2 rfl;have rl:=aj.lt;have p0:=aw.cell 0 rfl;have p1:=aw.cell 1 rfl;have p2:=aw.cell 2 rfl;have pl:=aw.lt;have fh:Hy (∀q,vn.ownBlock=some q→q<ws.heap.size):=hy' fun q hq=>(e8.own.lt q hq).2
   have fz:N.length≤30:=by have:=ie;split at this <;> omega
   clear bg hq fm bx bz bo g0 g1 g2 jz ko lq jf fp hg aw ix cg aj e8 dv;obtain⟨hl,fw⟩:∃g,(!d&&decide (kc<qc))=g:=⟨_,rfl⟩;have ch:=hy' fw;clear fw;go_upto_region 21 with (fail)
   rw[oq.o];clear c0 c1 c2;go_cut [86] (fun s wx=>s=.bool hl∧wx=wv)
   case first =>
    cases d
    · by_cases hkq:kc<qc
      · have b8:hl=true:=by rw[←ch.o];simp[hkq]
        subst b8;go_wp2_with fail;go_meet;exact⟨rfl,rfl⟩
      have b8:hl=false:=by rw[←ch.o];simp[hkq]
      subst b8;go_wp2_with fail;go_meet;exact⟨rfl,rfl⟩
    have b8:hl=false:=by rw[←ch.o];rfl
    subst b8;go_wp2_with fail;go_meet;exact⟨rfl,rfl⟩
   obtain⟨rfl,rfl⟩:=hcut;obtain⟨wv,rfl⟩:∃wv:World,wv=wc:=⟨_,rfl⟩;rcases hl with _|_
   · obtain⟨nv,pg,rfl⟩:=zA3 bh.o.own;obtain⟨iw,ef⟩:∃nn,N.length=nn:=⟨_,rfl⟩;have bb:=bh.o.tab;have a7:=bh.o.own.alloc (.cells #[.int .i64 qc,.int .i64 qk,.slice qA ql ae] 39);rw[ef]at bb a7;have p5:=bb.cell 0 rfl;have qf:=bb.lt;have h6:wq.heap.size+1≤(wv.alloc (.cells #[.int .i64 qc,.int .i64 qk,.slice qA ql ae] 39)).heap.size:=by simp;omega
     have fu:=hy' (Sl.lit (w:=wv.alloc (.cells #[.int .i64 qc,.int .i64 qk,.slice qA ql ae] 39)) (A:=some ⟨wv.heap.size,0,none⟩) (xs:=[.int .i64 qc,.int .i64 qk,.slice qA ql ae]) rfl 39 (0,0) (ZT wv _));have k0:=hy' (zBl a7 wq.heap.size (ZO _));have eg:=hy' a7;have eu:=hy' (bb.alloc (.cells #[.int .i64 qc,.int .i64 qk,.slice qA ql ae] 39));have ee:=hy' ef;have l7:iw≤40:=by omega
     clear bb a7 ef;go_wp2_with (first|(at_builtin;refine zAe _ rfl _ _ _ rfl (wq.heap.size+1) 39 j0 _ 3 40 underlying22 hj0 il iu iy rfl (by omega) (.slice nv iw pg) iw _ rfl eg.o _ (some ⟨wv.heap.size,0,none⟩) 1 1 [.int .i64 qc,.int .i64 qk,.slice qA ql ae] rfl rfl fu.out (by simp[Value.oneCell']) (by simp only[maxLen];omega) (by omega) h6 ?_;intro v1 n9 cd kb br;have ah:=eu.o.grown br k0.o;have u0:=ah.cell 0 rfl;have ir:=ah.frozen 0;have iv:=ah.lt;obtain⟨nz,ob,rfl⟩:=zA3 cd)|fail);have lp:=cd;rw[←h7.o,←ee.o]at lp;have c6:=bh.o.push (r:=(qc,qk,qm)) (a:=(qA,ae)) l5.o (by show _≤_;rw[h7.o];exact im) mm.o ng.o lp (by rw[ee.o];exact br);rw[ee.o]at c6;have jq:Below wq.heap.size wq ((n9).setCell ⟨wq.heap.size,0,none⟩ (.slice nz (iw+1) ob)):=((ct.o.alloc ct.o.size (.cells #[.int .i64 qc,.int .i64 qk,.slice qA ql ae] 39)).trans (kb.mono (ZW _))).setCell (p:=⟨wq.heap.size,0,none⟩) (Za _) _;exact⟨⟨j+1,d,_,_,_,by omega,by go_num,rfl,c6,by simp only[Zd,YA];have:=ih.o;omega,jq⟩,by simp[intOf];omega⟩
   have nw:d=false:=by
    have h:=ch.o;cases d
    · rfl
    exact absurd h (by simp)
   subst nw;obtain⟨j3,j6,rfl⟩:=zA3 bh.o.own;obtain⟨bp,bm⟩:∃nn,N.length=nn:=⟨_,rfl⟩;have ai:=bh.o.tab;have af:=bh.o.own.alloc (.cells #[.int .i64 kc,.int .i64 cl,.slice aA m2 ac] 39);rw[bm]at ai af;have ll:=ai.cell 0 rfl;have my:=ai.lt;have b9:wq.heap.size+1≤(wv.alloc (.cells #[.int .i64 kc,.int .i64 cl,.slice aA m2 ac] 39)).heap.size:=by simp;omega
   have bs:=hy' (Sl.lit (w:=wv.alloc (.cells #[.int .i64 kc,.int .i64 cl,.slice aA m2 ac] 39)) (A:=some ⟨wv.heap.size,0,none⟩) (xs:=[.int .i64 kc,.int .i64 cl,.slice aA m2 ac]) rfl 39 (0,0) (ZT wv _));have dw:=hy' (zBl af wq.heap.size (ZO _));have ay:=hy' af;have bi:=hy' (ai.alloc (.cells #[.int .i64 kc,.int .i64 cl,.slice aA m2 ac] 39));have ba:=hy' bm;have fc:bp≤40:=by omega
   clear ai af bm;go_upto_region 24 with (first|(at_builtin;refine zAe _ rfl _ _ _ rfl (wq.heap.size+1) 39 j0 _ 3 40 underlying22 hj0 il iu iy rfl (by omega) (.slice j3 bp j6) bp _ rfl ay.o _ (some ⟨wv.heap.size,0,none⟩) 1 1 [.int .i64 kc,.int .i64 cl,.slice aA m2 ac] rfl rfl bs.out (by simp[Value.oneCell']) (by simp only[maxLen];omega) (by omega) b9 ?_;intro v1 j2 ap cj ag;have ah:=bi.o.grown ag dw.o;have u0:=ah.cell 0 rfl;have ir:=ah.frozen 0;have iv:=ah.lt;obtain⟨e0,ey,rfl⟩:=zA3 ap)|fail)
   have e6:=ap;rw[←av.o,←ba.o]at e6;have ar:=bh.o.push (r:=(kc,cl,mp)) (a:=(aA,ac)) ju.o (by show _≤_;rw[av.o];exact (by omega)) gp.o dp.o e6 (by rw[ba.o];exact ag);rw[ba.o]at ar;have j5:Below wq.heap.size wq (j2.setCell ⟨wq.heap.size,0,none⟩ (.slice e0 (bp+1) ey)):=((ct.o.alloc ct.o.size (.cells #[.int .i64 kc,.int .i64 cl,.slice aA m2 ac] 39)).trans (cj.mono (ZW _))).setCell (p:=⟨wq.heap.size,0,none⟩) (Za _) _;have au:=((jw.o.alloc (.cells #[.int .i64 kc,.int .i64 cl,.slice aA m2 ac] 39)).grown ag (fun e=>JI _ (fh.o _ (by rw[ba.o];exact e)))).other (b':=wq.heap.size) (i:=0) (by have:=j1.o.size;have:=e5.o.tab.lt;omega) (.slice e0 (bp+1) ey);have dy:=(((l5.o.below ((Zc _ _).alloc (Za _) (.cells #[.int .i64 kc,.int .i64 cl,.slice aA m2 ac] 39))).grown ag (zAB ay.o (by decide))).grown (Rw.grown_set wq.heap.size 0 (.slice e0 (bp+1) ey)) (by intro q hq;cases hq;exact ah.not (by decide)));obtain⟨wy,jy⟩:∃wy,j2.setCell ⟨wq.heap.size,0,none⟩ (.slice e0 (bp+1) ey)=wy:=⟨_,rfl⟩;rw[jy]at ar j5 au dy;obtain⟨vy,mn⟩:∃v,Value.slice e0 (bp+1) ey=v:=⟨_,rfl⟩;rw[mn]at ar;clear mn;rw[jy];have cm:=hy' ar;have k3:=hy' j5;have jx:=hy' dy;have p0:=au.cell 0 rfl;have p1:=au.cell 1 rfl;have p2:=au.cell 2 rfl;have pl:=au.lt;clear ar j5 au dy jy e6 ap cj ag ah u0 ir iv r0 r1 r2 rl ll my;obtain⟨o6,pd,rfl⟩:=zA3 cm.o.own;obtain⟨ic,cr⟩:∃nn,(N++[(kc,cl,mp)]).length=nn:=⟨_,rfl⟩;have bf:=cm.o.tab;have a6:=cm.o.own.alloc (.cells #[.int .i64 qc,.int .i64 qk,.slice qA ql ae] 39);rw[cr]at bf a6;have qe:=bf.cell 0 rfl;have py:=bf.lt;have fx:wq.heap.size+1≤(wy.alloc (.cells #[.int .i64 qc,.int .i64 qk,.slice qA ql ae] 39)).heap.size:=by simp;omega
   have gg:=hy' (Sl.lit (w:=wy.alloc (.cells #[.int .i64 qc,.int .i64 qk,.slice qA ql ae] 39)) (A:=some ⟨wy.heap.size,0,none⟩) (xs:=[.int .i64 qc,.int .i64 qk,.slice qA ql ae]) rfl 39 (0,0) (ZT wy _));have jv:=hy' (zBl a6 wq.heap.size (ZO _));have ep:=hy' a6;have eb:=hy' (bf.alloc (.cells #[.int .i64 qc,.int .i64 qk,.slice qA ql ae] 39));have ea:=hy' cr;have l3:ic≤40:=by rw[←cr,Zd,YA];omega
   clear bf a6 cr;go_wp2_with (first|(at_builtin;refine zAe _ rfl _ _ _ rfl (wq.heap.size+1) 39 j0 _ 3 40 underlying22 hj0 il iu iy rfl (by omega) (.slice o6 ic pd) ic _ rfl ep.o _ (some ⟨wy.heap.size,0,none⟩) 1 1 [.int .i64 qc,.int .i64 qk,.slice qA ql ae] rfl rfl gg.out (by simp[Value.oneCell']) (by simp only[maxLen];omega) (by omega) fx ?_;intro v1 nu bw ke cc;have ah:=eb.o.grown cc jv.o;have u0:=ah.cell 0 rfl;have ir:=ah.frozen 0;have iv:=ah.lt;obtain⟨oa,ph,rfl⟩:=zA3 bw)|fail);have nc:=bw;rw[←h7.o,←ea.o]at nc;have df:=cm.o.push (r:=(qc,qk,qm)) (a:=(qA,ae)) jx.o (by show _≤_;rw[h7.o];exact im) mm.o ng.o nc (by rw[ea.o];exact cc);rw[ea.o]at df;have kg:Below wq.heap.size wq ((nu).setCell ⟨wq.heap.size,0,none⟩ (.slice oa (ic+1) ph)):=((k3.o.alloc k3.o.size (.cells #[.int .i64 qc,.int .i64 qk,.slice qA ql ae] 39)).trans (ke.mono (ZW _))).setCell (p:=⟨wq.heap.size,0,none⟩) (Za _) _;exact⟨⟨j+1,true,_,_,_,by omega,by go_num,rfl,df,by simp only[Zd,YA];have h1:=ih.o;simp at h1 ⊢;omega,kg⟩,by simp[intOf];omega⟩
 obtain rfl:on=j:=by omega
 have lg:=j1;have aj:=cp.o.below dv;have r0:=aj.cell 0 rfl;have r1:=aj.cell 1 rfl;have r2:=aj.cell 2 rfl;have rl:=aj.lt;have ju:=hy' (l4.o.below dv);have fz:N.length≤30:=by have:=ie;split at this <;> omega
 clear e8 ie dv aj hltj;go_upto_if 101 with (fail)
 go_cut [] (fun wx=>∃(N':List Rw.Row) (bu:List (Option Addr × Nat)) (k9:Value),Md.NX wq.heap.size (.slice XA2 xn2 xc2) (ads.drop (k+1)) wx N' bu k9∧N'.length≤on+1∧Below wq.heap.size wq wx)
 case first =>
  cases d
  · have nl:N.length≤on:=by have h1:=ih.o;simpa using h1
    obtain⟨j3,j6,rfl⟩:=zA3 e5.o.own;obtain⟨bp,bm⟩:∃nn,N.length=nn:=⟨_,rfl⟩;have ai:=e5.o.tab;have af:=e5.o.own.alloc (.cells #[.int .i64 kc,.int .i64 cl,.slice aA m2 ac] 39);rw[bm]at ai af;have ll:=ai.cell 0 rfl;have my:=ai.lt;have b9:wq.heap.size+1≤(ws.alloc (.cells #[.int .i64 kc,.int .i64 cl,.slice aA m2 ac] 39)).heap.size:=by simp;omega
    have bs:=hy' (Sl.lit (w:=ws.alloc (.cells #[.int .i64 kc,.int .i64 cl,.slice aA m2 ac] 39)) (A:=some ⟨ws.heap.size,0,none⟩) (xs:=[.int .i64 kc,.int .i64 cl,.slice aA m2 ac]) rfl 39 (0,0) (ZT ws _));have dw:=hy' (zBl af wq.heap.size (ZO _));have ay:=hy' af;have bi:=hy' (ai.alloc (.cells #[.int .i64 kc,.int .i64 cl,.slice aA m2 ac] 39));have ba:=hy' bm;have fc:bp≤40:=by omega
    clear ai af bm;go_wp2_with (first|(at_builtin;refine zAe _ rfl _ _ _ rfl (wq.heap.size+1) 39 j0 _ 3 40 underlying22 hj0 il iu iy rfl (by omega) (.slice j3 bp j6) bp _ rfl ay.o _ (some ⟨ws.heap.size,0,none⟩) 1 1 [.int .i64 kc,.int .i64 cl,.slice aA m2 ac] rfl rfl bs.out (by simp[Value.oneCell']) (by simp only[maxLen];omega) (by omega) b9 ?_;intro v1 j2 ap cj ag;have ah:=bi.o.grown ag dw.o;have u0:=ah.cell 0 rfl;have ir:=ah.frozen 0;have iv:=ah.lt;obtain⟨e0,ey,rfl⟩:=zA3 ap)|fail);have e6:=ap;rw[←av.o,←ba.o]at e6;have ar:=e5.o.push (r:=(kc,cl,mp)) (a:=(aA,ac)) ju.o (by show _≤_;rw[av.o];exact (by omega)) gp.o dp.o e6 (by rw[ba.o];exact ag);rw[ba.o]at ar;go_meet;exact⟨_,_,_,ar,by rw[Zd,YA];omega,(((lg.o.alloc lg.o.size (.cells #[.int .i64 kc,.int .i64 cl,.slice aA m2 ac] 39)).trans (cj.mono (ZW _))).setCell (p:=⟨wq.heap.size,0,none⟩) (Za _) _)⟩
  go_wp2_with fail;go_meet;exact⟨N,nads,vn,e5.o,by have h1:=ih.o;simpa using h1,j1.o⟩
 obtain⟨N',bu,k9,az,i7,eo⟩:=hcut;obtain⟨lc,rfl⟩:∃w':World,w'=wc:=⟨_,rfl⟩;obtain⟨An,cn,rfl⟩:=zA3 az.own;have lf:=bc.o.below eo;have lh:=Sl.of_own lf.excl;have h3:Md.Doc lc (zAX An N'.length cn XA2 E.length xc2) N' E:=⟨An,cn,XA2,xc2,rfl,zIM az.lens.1 (Slt.of_own az.own) az.mo,lh⟩;have dr:=zFs az.own;have la:N'.length≤100000:=by omega
 have cw:E.length≤1000000:=Zh l6.o (by decide);have ax:=az.rok;have dz:Md.bd N':=fun r hr=>⟨(ax r hr).1,(ax r hr).2.2.2.1⟩
 have km:∀r∈N',r.2.2.length≤1000:=fun r hr=>Zh (ax r hr).2.2.1 (by decide)
 have li:∀r∈N',-9223372036854775808≤r.2.1∧r.2.1≤9223372036854775807:=fun r hr=>⟨Yc (by decide) (ax r hr).2.1.1,Yc (ax r hr).2.1.2 (by decide)⟩
 have bn:=zLo _ N' E lc la cw dz km li h3 (zQX dr);clear lh la cw ax dz km li;unfold zAX at bn;rw[k4.o]at bn;obtain⟨ck,jc⟩:∃ck,Md.chk N' (Md.xs E)=ck:=⟨_,rfl⟩;rw[jc]at bn;obtain⟨nn,kn⟩:∃nn,N'.length=nn:=⟨_,rfl⟩;have cf:=az.tab;rw[kn]at bn cf i7;have t0:=cf.cell 0 rfl;have t1:=cf.cell 1 rfl;have tl:=cf.lt;have j7:=hy' bn;have gu:=hy' az;have ej:=hy' eo;have po:=hy' jc;have jh:=hy' kn;clear az eo lf h3 dr bn jc kn cf;go_wp2_with fail;refine j7.o.mono ?_;rintro e w9 ⟨rfl,gx⟩;have kr:=(bc.o.below ej.o).below gx;have e9:=gu.o.below gx;rw[jh.o]at e9;have lr:=hy' kr;have oh:=hy' (gu.o.below gx);have ik:=hy' (ej.o.trans (gx.mono ej.o.size));have t0:=e9.tab.cell 0 rfl;have t1:=e9.tab.cell 1 rfl;have tl:=e9.tab.lt;have e2:=kr.a3;have s0:=e2.cell 0 rfl;have s1:=e2.cell 1 rfl;have g0:=e2.frozen 0;have g1:=e2.frozen 1;have gl:=e2.lt;clear kr e9 gx e2
 by_cases hck0:ck=0
 · subst hck0;have fj:zBe 0=⟨#[]⟩:=rfl;rw[fj];go_wp2_with fail;have ft:k+1≤n2:=hlt;have n8:=j8.o;have kh:=kt.o.len;rw[bq.o]at kh;have b3:=Md.RI.take lr.o oh.o po.o (by rw[jh.o];omega) (by omega) (by omega);rw[jh.o]at b3;have kk:=gh.o.trans (ik.o.mono gh.o.size);have nx:=ik.o.size;refine⟨⟨k+1,N',bu,.slice An nn cn,ft,?_,b3,?_,?_⟩,?_⟩
   · go_num
   · exact (kk.setCell (p:=⟨w3.heap.size,0,none⟩) (by show w.heap.size≤w3.heap.size;omega) _).setCell (p:=⟨w3.heap.size,1,none⟩) (by show w.heap.size≤w3.heap.size;omega) _
   · rw[ZP,ZP];omega
   simp[intOf];omega
 have js:=zPN hck0
 have ja:¬zBe ck=⟨#[]⟩:=fun e=>by
  rw[e]at js;revert js;decide +kernel
 obtain⟨nt,lx⟩:∃nt,zBe ck=nt:=⟨_,rfl⟩;rw[lx]at js ja ⊢;clear lx hck0;go_wp2_with fail;have ft:k+1≤n2:=hlt;have kk:=gh.o.trans (ik.o.mono gh.o.size);have nx:=ik.o.size;refine⟨⟨k+1,To,adso,_,ft,?_,lr.o,kk,by omega⟩,?_⟩
 · go_num
 simp[intOf];omega
end Go.Proofs.YtjakbblocbicjaaGreatDoor
