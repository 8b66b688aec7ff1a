/- The law's Right: a table that may be, of any one: by walking its text. -/
import Derived.Test.YthngjlllojiacaaGreatDoorMdRef6
set_option maxRecDepth 100000
set_option maxHeartbeats 4000000
set_option linter.unusedVariables false
set_option linter.unusedSimpArgs false
namespace Go.Proofs.YthngjlllojiacaaGreatDoor
open Go.Proofs.Tryz
open Go.RowKit
def Md.rok (r:Rw.Row):Prop:=(-2147483648≤r.1∧r.1≤2147483647)∧(0≤r.2.1∧r.2.1≤254)∧r.2.2.length≤2∧(∀c∈r.2.2,-2147483648≤c∧c≤2147483647)∧(r.2.1=0→r.2.2≠[])
def zGo (ads rest:List (Option Addr × Nat)):Prop:=∀a∈ads,∀p,a.1=some p→∀a'∈rest,∀q,a'.1=some q→p.block<q.block
def zJ0 (w:World) (e:Ending) (w':World):Prop :=
 ∃v T E,e=.returned v∧Md.Doc w' v T E∧(∀A n c A' n' c',v=.agg #[.slice A n c,.slice A' n' c']→n≤c∧n'≤c')∧T.length≤20∧E.length≤30∧(∀r∈T,Md.rok r)∧(∀c∈E,C.isC c=true)∧Md.chk T (Md.xs E)=0∧Below w.heap.size w w'
theorem Slt.grownA {w w':World} {t:TypeId} {A:Option Addr} {xs:List Value} {row:Option Nat} (h:Slt w t A xs) (hg:w.grownBy w' row) (hr:∀p,A=some p→row≠some p.block):Slt w' t A xs:=by
 intro hx;obtain⟨b,o,cs,hA,hb,hc⟩:=h hx;exact⟨b,o,cs,hA,(hg.block b (zDq hb) fun e=>hr _ hA e.symm).trans hb,hc⟩
theorem Slt.take {w:World} {t:TypeId} {A:Option Addr} {xs:List Value} (h:Slt w t A xs) (n:Nat):Slt w t A (xs.take n):=by
 intro hx;rw[Zr]at hx;obtain⟨b,o,cs,hA,hb,hc⟩:=h (by omega);refine⟨b,o,cs,hA,hb,fun i hi=>?_⟩;rw[Zr]at hi;rw[hc i (by omega),Yk,Zl (by omega)]
theorem Slt.set {w:World} {t:TypeId} {b o i:Nat} {xs:List Value} (h:Slt w t (some ⟨b,o,none⟩) xs) (hi:i<xs.length) (v:Value):Slt (w.setCell ⟨b,o+i,none⟩ v) t (some ⟨b,o,none⟩) (xs.set i v):=by
 intro _;obtain⟨b',o',cs,hA,hb,hc⟩:=h (by omega);simp only[Zg,YR]at hA;obtain⟨rfl,rfl,_⟩:=hA;have aa:=zDq hb;refine⟨b,o,cs.setIfInBounds (o+i) v,rfl,?_,fun j hj=>?_⟩
 · show (w.heap.modify b _)[b]?=_;have hk:=(Array.getElem?_eq_some_iff.1 hb).2;rw[Xm (by rw[QI];exact aa),QG,hk];simp
 rw[Y3]at hj
 have hs:o+i<cs.size:=by
  have:=hc i hi;rw[Zb hi]at this;exact (Array.getElem?_eq_some_iff.1 this).1
 rw[Array.getElem?_setIfInBounds,Qa]
 by_cases e:i=j
 · subst e;rw[Zl rfl,Zl rfl,Zl hs,Zl hi]
 rw[Zj (by omega),Zj e,hc j hj]
structure Md.RI (b2 b3 lo mid B4:Nat) (A2:Option Addr) (n2 c2:Nat) (XA2:Option Addr) (xn2 xc2:Nat) (T:List Rw.Row) (ads:List (Option Addr × Nat)) (E:List Int) (k:Nat) (wr:World) (To:List Rw.Row) (adso:List (Option Addr × Nat)) (vo:Value):Prop where
 a2:Rw.At wr b2 38 [.slice none 0 0,.slice none 0 0]
 a3:Rw.At wr b3 38 [vo,.slice XA2 xn2 xc2]
 rows:wr.ownsRow lo 74 3 (.slice A2 n2 c2) n2 (zBj T ads)
 maps:∀(j:Nat) (r:Rw.Row) (a:Option Addr × Nat),k≤j→T[j]?=some r→ads[j]?=some a→Slt wr 3 a.1 (r.2.2.map (Value.int .i64))
 excl:wr.ownsRow mid 3 1 (.slice XA2 xn2 xc2) xn2 (E.map (Value.int .i64))
 lens:adso.length=To.length∧Md.caps To adso
 out:wr.ownsRow B4 74 3 vo To.length (zBj To adso)
 mo:Rw.MapsI wr To adso
 rok:∀r∈To,Md.rok r
 und:zGo adso (ads.drop k)
 chk:Md.chk To (Md.xs E)=0
 len:To.length≤k
section
variable {b2 b3 lo mid B4 n2 c2 xn2 xc2 k:Nat} {A2 XA2:Option Addr} {T To:List Rw.Row} {ads adso:List (Option Addr × Nat)} {E:List Int} {wr w':World} {vo:Value}
theorem Md.RI.below (h:Md.RI b2 b3 lo mid B4 A2 n2 c2 XA2 xn2 xc2 T ads E k wr To adso vo) (hb:Below wr.heap.size wr w'):Md.RI b2 b3 lo mid B4 A2 n2 c2 XA2 xn2 xc2 T ads E k w' To adso vo :=
 ⟨h.a2.below hb,h.a3.below hb,zA4 h.rows hb (Za _),fun j r a h1 h2 h3=>(h.maps j r a h1 h2 h3).below hb,zA4 h.excl hb (Za _),h.lens,zA4 h.out hb (Za _),h.mo.below hb,h.rok,h.und,h.chk,h.len⟩
theorem Md.RI.grown (h:Md.RI b2 b3 lo mid B4 A2 n2 c2 XA2 xn2 xc2 T ads E k wr To adso vo) {row:Option Nat} (hg:wr.grownBy w' row) {a:Option Addr × Nat} (ha:ads[k]?=some a) (ah:Md.apart lo mid ads)
 (aa:∀p,row=some p→(∃cs z,wr.heap[p]?=some (.cells cs 3 z))∧∃q,a.1=some q∧q.block=p):Md.RI b2 b3 lo mid B4 A2 n2 c2 XA2 xn2 xc2 T ads E (k+1) w' To adso vo:=by
 have hk:k<ads.length:=(List.getElem?_eq_some_iff.1 ha).1
 have ae:ads.drop k=a::ads.drop (k+1):=by
  obtain⟨h1,h2⟩:=List.getElem?_eq_some_iff.1 ha;rw[ZR h1,h2]
 have hne:∀(b:Nat) (t:TypeId) cs z,wr.heap[b]?=some (.cells cs t z)→t≠3→row≠some b:=fun b t cs z hb ht e=>by
  obtain⟨⟨cs',z',hc⟩,_⟩:=aa b e;rw[hb]at hc;simp only[Zg,XE]at hc;exact ht hc.2.1
 have af:∀{base n:Nat} {v:Value} {xs:List Value},wr.ownsRow base 74 3 v n xs→w'.ownsRow base 74 3 v n xs:=fun {base n v xs} ho=>by
  refine ho.kept hg ?_;rcases ho.2 with ⟨rfl,_⟩|⟨g,cap,aj,rfl,_,ai,_⟩
  · exact .inl rfl
  exact .inr fun e=>hne g _ _ _ ai (by decide) e.symm
 refine⟨h.a2.grown hg (hne _ _ _ _ h.a2 (by decide)),h.a3.grown hg (hne _ _ _ _ h.a3 (by decide)),af h.rows,fun j r a' h1 h2 h3=>?_,?_,h.lens,af h.out,fun i r a' h1 h2=>?_,h.rok,?_,h.chk,Nat.le_succ_of_le h.len⟩
 · refine (h.maps j r a' (by omega) h2 h3).grownA hg fun p hp e=>?_
   obtain⟨_,q,hq,ag⟩:=aa _ e;obtain⟨l1,l2⟩:=List.getElem?_eq_some_iff.1 h3;obtain⟨l3,l4⟩:=List.getElem?_eq_some_iff.1 ha;have:=List.pairwise_iff_getElem.1 ah.1 k j l3 l1 (by omega) q p (by rw[l4];exact hq) (by rw[l2];exact hp);omega
 · refine h.excl.kept hg ?_;rcases hv:(Value.slice XA2 xn2 xc2).ownBlock with _|g
   · exact .inl rfl
   refine .inr fun e=>?_
   obtain⟨_,q,hq,ag⟩:=aa g e.symm;have h1:=(h.excl.lt g hv).1;have h2:=(ah.2 a (Zk ha) q hq).2;omega
 · refine (h.mo i r a' h1 h2).grownA hg fun p hp e=>?_
   obtain⟨_,q,hq,ag⟩:=aa _ e;have:=h.und a' (Zk h2) p hp a (by rw[ae];exact Zq) q hq;omega
 intro x hx p hp y hy q hq;exact h.und x hx p hp y (by rw[ae];exact Zv _ hy) q hq
end
theorem zNK (f:Int→Int) {l:List Int} {q:Nat} {y:Int} (hy:l[q]?=some y):(((l.take q).map f++l.drop q).map (Value.int .i64))[q]?=some (.int .i64 y):=by
 obtain⟨h1,h2⟩:=List.getElem?_eq_some_iff.1 hy;have hl:((l.take q).map f).length=q:=by rw[Ze,Zr];omega
 rw[Zw,ZJ (by omega),hl,Ye,Xj,YT,hy];rfl
theorem zNL (f:Int→Int) {l:List Int} {q:Nat} {y:Int} (hy:l[q]?=some y):(((l.take q).map f++l.drop q).map (Value.int .i64)).set q (.int .i64 (f y))=((l.take (q+1)).map f++l.drop (q+1)).map (Value.int .i64):=by
 obtain⟨h1,h2⟩:=List.getElem?_eq_some_iff.1 hy;have hl:(((l.take q).map f).map (Value.int .i64)).length=q:=by rw[Ze,Ze,Zr];omega
 rw[ZO,Yw _ _ (by omega),hl,Ye,ZR h1,h2,ZX,ZB,ZA,hy];simp
structure Md.NX (b7:Nat) (x:Value) (rest:List (Option Addr × Nat)) (ws:World) (N:List Rw.Row) (nads:List (Option Addr × Nat)) (vn:Value):Prop where
 tab:Rw.At ws b7 38 [vn,x]
 lens:nads.length=N.length∧Md.caps N nads
 own:ws.ownsRow (b7+1) 74 3 vn N.length (zBj N nads)
 mo:Rw.MapsI ws N nads
 rok:∀r∈N,Md.rok r
 und:zGo nads rest
theorem Md.NX.below {b7:Nat} {x vn:Value} {rest nads:List (Option Addr × Nat)} {ws w':World} {N:List Rw.Row} (h:Md.NX b7 x rest ws N nads vn) (hb:Below ws.heap.size ws w'):Md.NX b7 x rest w' N nads vn :=
 ⟨h.tab.below hb,h.lens,zA4 h.own hb (Za _),h.mo.below hb,h.rok,h.und⟩
theorem Md.NX.push {b7:Nat} {x vn v6:Value} {rest nads:List (Option Addr × Nat)} {ws w6:World} {N:List Rw.Row} (h:Md.NX b7 x rest ws N nads vn) {r:Rw.Row} {a:Option Addr × Nat} (hs:Slt ws 3 a.1 (r.2.2.map (Value.int .i64))) (hc:r.2.2.length≤a.2) (hr:Md.rok r) (hu:zGo [a] rest)
 (ag:(w6.ownsRow (b7+1) 74 3 v6 (N.length+1) (zBj N nads++[.int .i64 r.1,.int .i64 r.2.1,.slice a.1 r.2.2.length a.2]))) {o:Obj} (hg:(ws.alloc o).grownBy w6 vn.ownBlock) :
 Md.NX b7 x rest (w6.setCell ⟨b7,0,none⟩ v6) (N++[r]) (nads++[a]) v6:=by
 have hb:Below ws.heap.size ws (ws.alloc o):=(Zc _ _).alloc (Za _) _;have aa:=zA4 h.own hb (Za _);have af:=(h.tab.below hb).grown hg (zBi h.own b7 (ZN _));have ah:=(h.mo.below hb).grown hg (zAy aa (by decide));have ai:=(hs.below hb).grown hg (zAy aa (by decide))
 have ae:∀q,some b7=some q→∀cs z,w6.heap[q]?≠some (.cells cs 3 z):=fun q hq=>by
  cases hq
  exact af.not (by decide)
 refine⟨af.set 0 v6,⟨by simp[h.lens.1],h.lens.2.app h.lens.1 hc⟩,?_,(ah.grown (Rw.grown_set b7 0 v6) ae).app h.lens.1 (ai.grown (Rw.grown_set b7 0 v6) ae),fun q hq=>?_,fun q hq=>?_⟩
 · rw[Zd,Ym,zGL _ _ _ _ h.lens.1];exact zA8 ag (ZN _) (Rw.grown_set b7 0 v6)
 · rcases List.mem_append.1 hq with hq|hq
   · exact h.rok q hq
   rw[List.mem_singleton.1 hq];exact hr
 rcases List.mem_append.1 hq with hq|hq
 · exact h.und q hq
 exact hu q hq
theorem Md.RI.take {b2 b3 b7 lo mid B4 n2 c2 xn2 xc2 k:Nat} {A2 XA2:Option Addr} {T To N:List Rw.Row} {ads adso nads:List (Option Addr × Nat)} {E:List Int} {wx:World} {vo vn:Value}
 (h:Md.RI b2 b3 lo mid B4 A2 n2 c2 XA2 xn2 xc2 T ads E k wx To adso vo) (nx:Md.NX b7 (.slice XA2 xn2 xc2) (ads.drop k) wx N nads vn) (hc:Md.chk N (Md.xs E)=0) (hl:N.length≤k) (hB:B4≤b7+1) (hne:b2≠b3) :
 Md.RI b2 b3 lo mid B4 A2 n2 c2 XA2 xn2 xc2 T ads E k ((wx.setCell ⟨b3,0,none⟩ vn).setCell ⟨b3,1,none⟩ (.slice XA2 xn2 xc2)) N nads vn:=by
 have k1:=h.a3.set 0 vn;have af:∀q,some b3=some q→∀cs z,wx.heap[q]?≠some (.cells cs 3 z):=fun q hq=>by cases hq;exact h.a3.not (by decide)
 have ag:∀q,some b3=some q→∀cs z,(wx.setCell ⟨b3,0,none⟩ vn).heap[q]?≠some (.cells cs 3 z):=fun q hq=>by cases hq;exact k1.not (by decide)
 have aa:∀{base n size:Nat} {e:TypeId} {v:Value} {xs:List Value},e≠38→wx.ownsRow base e size v n xs→((wx.setCell ⟨b3,0,none⟩ vn).setCell ⟨b3,1,none⟩ (.slice XA2 xn2 xc2)).ownsRow base e size v n xs:=fun {base n size e v xs} he ho=>by
  have h1:=ho.kept (Rw.grown_set b3 0 vn) (.inr fun e'=>zAy ho he _ e' _ _ h.a3);exact h1.kept (Rw.grown_set b3 1 _) (.inr fun e'=>zAy h1 he _ e' _ _ k1)
 have ae:∀{A:Option Addr} {xs:List Value},Slt wx 3 A xs→Slt ((wx.setCell ⟨b3,0,none⟩ vn).setCell ⟨b3,1,none⟩ (.slice XA2 xn2 xc2)) 3 A xs:=fun {A xs} hs =>
  (hs.grown (Rw.grown_set b3 0 vn) af).grown (Rw.grown_set b3 1 _) ag
 refine⟨(h.a2.other hne _).other hne _,k1.set 1 _,aa (by decide) h.rows,fun j r a h1 h2 h3=>ae (h.maps j r a h1 h2 h3),aa (by decide) h.excl,nx.lens,own_base (aa (by decide) nx.own) hB,fun i r a h1 h2=>ae (nx.mo i r a h1 h2),nx.rok,nx.und,hc,hl⟩
theorem zPr {k:Nat} (h:k≠0):(zB9 k).toList.isEmpty=false:=by
 have g1:(zB9 1).toList.isEmpty=false:=by kernel_rfl
 have g2:(zB9 2).toList.isEmpty=false:=by kernel_rfl
 have g3:(zB9 3).toList.isEmpty=false:=by kernel_rfl
 have g4:(zB9 4).toList.isEmpty=false:=by kernel_rfl
 have g5:(zB9 5).toList.isEmpty=false:=by kernel_rfl
 match k,h with
 | 1,_=>exact g1
 | 2,_=>exact g2
 | 3,_=>exact g3
 | 4,_=>exact g4
 | _+5,_=>exact g5
theorem zQs {A XA:Option Addr} {m c xn xc:Nat} (h:m≤c):∀A' n' c' x',zBd A m c XA xn xc=.agg #[.slice A' n' c',x']→n'≤c':=by
 intro A' n' c' x' he;unfold zBd at he;simp only[XF,X8,Yb,Z2,YH]at he;obtain⟨⟨rfl,rfl,rfl⟩,_⟩:=he;exact h
theorem Md.grown_drew {w w':World} {row:Option Nat} (h:w.grownBy w' row):w.grownBy w'.drew row:=⟨h.os,h.tape,h.output,h.size,h.block⟩
theorem Md.and_8 (n:Int):bits .and .i64 n 255=n%256:=by
 have hm:(BitVec.ofInt 64 255).toNat=2 ^ 8-1:=by decide
 have key:(BitVec.ofInt 64 n &&& BitVec.ofInt 64 255).toNat=(n%((2 ^ 64:Nat):Int)).toNat%2 ^ 8:=by
  rw[Xu,Xk,hm,Yj]
 show IntKind.i64.wrap ((BitVec.ofInt 64 n &&& BitVec.ofInt 64 255).toNat:Nat)=n%256;rw[key,Z5];omega
theorem zMm (A XA:Option Addr) (n c xn xc:Nat) (T0:List Rw.Row) (E0:List Int) (w:World) (hn:T0.length=n) (hxn:E0.length=xn) (hnb:n≤maxLen) (hxb:xn≤maxLen) (hbd:∀r∈T0,zDQ r) (h2:Rw.SeesI w A T0) (hX:Sl w w.heap.size XA (E0.map (Value.int .i64))) :
 Calls prog 67 #[.agg #[.slice A n c,.slice XA xn xc]] w (zJ0 w):=by
 obtain⟨j0,hj0,iy,h6,iw⟩:=Z7 zO8;obtain⟨T,hT⟩:∃T,zES T0=T:=⟨_,rfl⟩;obtain⟨E,hE⟩:∃E,zET E0=E:=⟨_,rfl⟩;have my:T.length≤20:=by rw[←hT];unfold zES;simp;omega
 have nb:E.length≤30:=by rw[←hE];unfold zET;simp;omega
 have na:∀c∈E,C.isC c=true:=fun c hc=>by
  rw[←hE]at hc;unfold zET at hc;obtain⟨x,_,rfl⟩:=List.mem_map.1 hc;exact Ch.K_is x
 have ng:∀r∈T,r.2.2.length≤4:=fun r hr=>by
  rw[←hT]at hr;unfold zES at hr;obtain⟨q,_,rfl⟩:=List.mem_map.1 hr;unfold zKY;simp;omega
 obtain⟨wa,e1⟩:∃wa,(w.alloc (.cells #[.slice A n c,.slice XA xn xc] 38)).alloc (.cells #[.slice none 0 0,.slice none 0 0] 38)=wa:=⟨_,rfl⟩;have lg:Below w.heap.size w wa:=by rw[←e1];exact ((Zc _ _).alloc (Za _) _).alloc (by simp) _
 have ak:Rw.At wa w.heap.size 38 [.slice A n c,.slice XA xn xc]:=by rw[←e1];exact (Rw.At.new w 38 [.slice A n c,.slice XA xn xc]).alloc _
 have aq:Rw.At wa (w.heap.size+1) 38 [.slice none 0 0,.slice none 0 0]:=by
  have:=Rw.At.new (w.alloc (.cells #[.slice A n c,.slice XA xn xc] 38)) 38 [.slice none 0 0,.slice none 0 0];rw[←e1];simpa using this
 have ir:wa.heap.size=w.heap.size+2:=by rw[←e1];simp
 have o6:=hy' e1;have jx:=hy' lg;have e7:=hy' ak;have fh:=hy' aq;have ny:=hy' ir
 have e8:Hy (∀W,Below w.heap.size w W→Calls prog 103 #[.agg #[.slice A n c,.slice XA xn xc]] W fun e w'=>∃v,e=.returned v∧Md.DocO w' v W.heap.size T E∧Below W.heap.size W w'):=hy' fun W hW=>by
  rw[←hT,←hE];exact zPo A XA n c xn xc T0 E0 W hn hxn hnb hxb (fun r hr=>(hbd r hr).2.2.1) (h2.below hW) (hX.below hW hW.size)
 have ow:=hy' my;have nc:=hy' nb;have pd:=hy' na;have n9:=hy' ng;have z0:=ak.cell 0 rfl;have z1:=ak.cell 1 rfl;have j7:=ak.lt;clear hT hE e1 lg ak aq ir my nb na ng hn hxn hnb hxb hbd h2 hX;go_enter func67,ntmps67;go_upto_region 1 with (fail)
 rw[o6.o];go_wp2_with fail;refine (e8.o wa jx.o).mono ?_;rintro e w2 ⟨v2,rfl,oy,dr⟩;obtain⟨A2,c2,XA2,xc2,ads,rfl,⟨dw,cz⟩,cf,di,mid,gw,gq,l9,bx⟩:=oy;obtain⟨n2,h9⟩:∃k,T.length=k:=⟨_,rfl⟩;obtain⟨xn2,ch⟩:∃k,E.length=k:=⟨_,rfl⟩;rw[h9]at dw cf;rw[ch]at bx;rw[h9,ch];unfold zBd;have ak:=e7.o.below dr;have aq:=fh.o.below dr;have y0:=ak.cell 0 rfl;have y1:=ak.cell 1 rfl;have y2:=ak.frozen 0;have y3:=ak.frozen 1;have oh:=ak.lt;have ir:=ny.o;have ew:=(ak.set 0 (.slice A2 n2 c2)).set 1 (.slice XA2 xn2 xc2);have jy:=(aq.other (b':=w.heap.size) (i:=0) (by omega) (.slice A2 n2 c2)).other (b':=w.heap.size) (i:=1) (by omega) (.slice XA2 xn2 xc2);have kn:=zA8 (zA8 cf (by omega) (Rw.grown_set w.heap.size 0 (.slice A2 n2 c2))) (by omega) (Rw.grown_set w.heap.size 1 (.slice XA2 xn2 xc2));have i7:=zA8 (zA8 bx (by omega) (Rw.grown_set w.heap.size 0 (.slice A2 n2 c2))) (by omega) (Rw.grown_set w.heap.size 1 (.slice XA2 xn2 xc2));have js:=(di.grown (Rw.grown_set w.heap.size 0 (.slice A2 n2 c2)) (by intro q hq;cases hq;exact ak.not (by decide))).grown (Rw.grown_set w.heap.size 1 (.slice XA2 xn2 xc2)) (by intro q hq;cases hq;exact (ak.set 0 (.slice A2 n2 c2)).not (by decide))
 have ee:Below w.heap.size w ((w2.setCell ⟨w.heap.size,0,none⟩ (.slice A2 n2 c2)).setCell ⟨w.heap.size,1,none⟩ (.slice XA2 xn2 xc2)) :=
  ((jx.o.trans (dr.mono jx.o.size)).setCell (p:=⟨w.heap.size,0,none⟩) (Za _) _).setCell (p:=⟨w.heap.size,1,none⟩) (Za _) _
 have ld:((w2.setCell ⟨w.heap.size,0,none⟩ (.slice A2 n2 c2)).setCell ⟨w.heap.size,1,none⟩ (.slice XA2 xn2 xc2)).heap.size=w2.heap.size:=by rw[ZP,ZP]
 obtain⟨w3,jd⟩:∃w3,(w2.setCell ⟨w.heap.size,0,none⟩ (.slice A2 n2 c2)).setCell ⟨w.heap.size,1,none⟩ (.slice XA2 xn2 xc2)=w3:=⟨_,rfl⟩;rw[jd]at ew jy kn i7 js ee ld;have mh:=hy' jd;have x0:=ew.cell 0 rfl;have x1:=ew.cell 1 rfl;have ox:=ew.lt;have om:=dr.size;have bg:Below w3.heap.size w3 (w3.alloc (.cells #[.slice none 0 0,.slice XA2 xn2 xc2] 38)):=(Zc _ _).alloc (Za _) _;have aa:=Rw.At.new w3 38 [.slice none 0 0,.slice XA2 xn2 xc2];obtain⟨w4,gu⟩:∃w4,w3.alloc (.cells #[.slice none 0 0,.slice XA2 xn2 xc2] 38)=w4:=⟨_,rfl⟩;have aa:Rw.At w4 w3.heap.size 38 [.slice none 0 0,.slice XA2 xn2 xc2]:=by rw[←gu];exact aa
 rw[gu]at bg;have l8:w4.heap.size=w3.heap.size+1:=by rw[←gu];simp
 have lj:=hy' gu;have er:=ew.below bg;have t0:=er.cell 0 rfl;have p9:=er.lt;have nz:=hy' (jy.below bg);have oc:=hy' aa;have o8:=hy' (zA4 kn bg (Za _));have pj:=hy' (zA4 i7 bg (Za _));have np:=hy' (js.below bg);have o5:=hy' (ee.trans (bg.mono ee.size));have fp:=hy' dw;have fc:=hy' cz;have iz:=hy' h9;have lq:=hy' ch;have jw:=hy' l9;have j5:Hy (wa.heap.size=w.heap.size+2∧w.heap.size+2≤mid∧mid≤w3.heap.size∧w4.heap.size=w3.heap.size+1):=hy' ⟨by omega,by omega,by omega,l8⟩;clear dw cz cf di bx l9 ak aq ew jy kn i7 js ee ld jd bg aa gu l8 er h9 ch gw gq dr ir om z0 z1 e8;go_upto_region 2 with (fail)
 rw[mh.o];clear y0 y1 y2 y3;go_upto_region 3 with (fail)
 rw[lj.o];clear x0 x1;have cw:Md.chk [] (Md.xs E)=0:=rfl;have gx:=hy' cw;clear cw j7 oh ox e7 fh mh lj;go_wp2_with fail;clear t0;go_loopw [19] (fun i wr=>∃(k:Nat) (To:List Rw.Row) (adso:List (Option Addr × Nat)) (vo:Value),k≤n2∧i=.int .i64 k∧Md.RI (w.heap.size+1) w3.heap.size wa.heap.size mid w4.heap.size A2 n2 c2 XA2 xn2 xc2 T ads E k wr To adso vo∧Below w.heap.size w wr∧w4.heap.size≤wr.heap.size) (fun i _=>n2-(intOf i).toNat)
 case atStart=>exact⟨0,[],[],.slice none 0 0,ZG _,rfl,⟨nz.o,oc.o,o8.o,fun j r a _ h1 h2=>np.o j r a h1 h2,pj.o,⟨rfl,fun i r a h=>absurd h (by simp)⟩,ZI _ _ _ _,fun i r a h=>absurd h (by simp),fun r hr=>absurd hr (by simp),fun a ha=>absurd ha (by simp),gx.o,ZG _⟩,o5.o,Za _⟩
 obtain⟨k,To,adso,vo,hk,rfl,dv,dz,pr⟩:=hrel;have jb:=hy' dv;have j2:n2≤20:=by rw[←iz.o];exact ow.o
 have cq:=hy' dz
 by_cases hlt:k<n2
 rotate_left
 · obtain rfl:n2=k:=by omega
   obtain⟨wz,rfl⟩:∃wz:World,wz=wr:=⟨_,rfl⟩;obtain⟨Ao,co,rfl⟩:=zA3 dv.out;obtain⟨on,eb⟩:∃on,To.length=on:=⟨_,rfl⟩;have aa:=dv.a3;have aq:=dv.a2;rw[eb]at aa;have o9:=j5.o;have y0:=aa.cell 0 rfl;have y1:=aa.cell 1 rfl;have x0:=aq.cell 0 rfl;have x1:=aq.cell 1 rfl;have f0:=aq.frozen 0;have f1:=aq.frozen 1;have qf:=aq.lt;have k3:=aa.lt;have bp:=hy' eb;have dm:=hy' aq;clear aq aa eb dv dz hlt hk;go_wp2_with fail;have k1:=dm.o.set 0 (.slice Ao on co);have k2:=k1.set 1 (.slice XA2 xn2 xc2);have bt:=jb.o;rw[bp.o]at bt;have fm:∀q,some (w.heap.size+1)=some q→∀cs z,wz.heap[q]?≠some (.cells cs 3 z):=fun q hq=>by cases hq;exact dm.o.not (by decide)
   have e6:∀q,some (w.heap.size+1)=some q→∀cs z,(wz.setCell ⟨w.heap.size+1,0,none⟩ (.slice Ao on co)).heap[q]?≠some (.cells cs 3 z):=fun q hq=>by cases hq;exact k1.not (by decide)
   have ho:=zA8 (zA8 bt.out (by omega) (Rw.grown_set (w.heap.size+1) 0 (.slice Ao on co))) (by omega) (Rw.grown_set (w.heap.size+1) 1 (.slice XA2 xn2 xc2));have hx:=zA8 (zA8 bt.excl (by omega) (Rw.grown_set (w.heap.size+1) 0 (.slice Ao on co))) (by omega) (Rw.grown_set (w.heap.size+1) 1 (.slice XA2 xn2 xc2));have hm:=(bt.mo.grown (Rw.grown_set (w.heap.size+1) 0 (.slice Ao on co)) fm).grown (Rw.grown_set (w.heap.size+1) 1 (.slice XA2 xn2 xc2)) e6;refine YF (zIG rfl _ _ (w.heap.size+1) _ _ _ _ rfl k2 underlying38 rfl (by kernel_rfl)) rfl ⟨_,To,E,rfl,⟨Ao,co,XA2,xc2,?_,zIw bt.lens.1 ?_ hm,Sl.of_own hx⟩,?_,Zh bt.len j2,nc.o,bt.rok,pd.o,bt.chk,?_⟩
   · rw[bp.o,lq.o];rfl
   · rw[bp.o]at ho;exact Slt.of_own ho
   · intro A' n' c' A7 n7 c7 he;simp only[XF,X8,Yb,Z2,YH]at he;obtain⟨⟨rfl,rfl,rfl⟩,rfl,rfl,rfl⟩:=he;rw[bp.o]at ho;exact⟨zFl ho,zFl hx⟩
   exact (cq.o.setCell (p:=⟨w.heap.size+1,0,none⟩) (ZW _) _).setCell (p:=⟨w.heap.size+1,1,none⟩) (ZW _) _
 obtain⟨r,hr⟩:∃r,T[k]?=some r:=⟨_,Zb (by rw[iz.o];exact hlt)⟩;obtain⟨a,ha⟩:∃a,ads[k]?=some a:=⟨_,Zb (by rw[fp.o];exact hlt)⟩;have hh:(zBj T ads).length=n2*3:=by rw[zCI _ _ (by rw[fp.o,iz.o]),iz.o]
 obtain⟨b,o,rfl,hb,bq⟩:=(Sl.of_own dv.rows) (by rw[hh];omega);obtain⟨g0,g1,g2⟩:=zF4 T ads k r a hr ha;have c0:=bq (k*3) (by rw[hh];omega);have c1:=bq (k*3+1) (by rw[hh];omega);have im:=bq (k*3+2) (by rw[hh];omega);rw[g0]at c0;rw[g1,←Yi]at c1;rw[g2,←Yi]at im;have gg:=n9.o r (Zk hr);have et:=dv.maps k r a (Za _) hr ha;have cv:=fc.o k r a hr ha;obtain⟨rc,rk,rm⟩:=r;obtain⟨aA,ac⟩:=a;dsimp only at c0 c1 im gg et cv;obtain⟨ml,jc⟩:∃ml,rm.length=ml:=⟨_,rfl⟩;rw[jc]at im gg cv;have e5:=hy' jc;have HR:=hy' hr;have HA:=hy' ha;have pw:(k:Int)<n2:=by omega
 have p6:(0:Int)≤k:=by omega
 have bg:Below wr.heap.size wr (wr.alloc (.cells #[.int .i64 rc,.int .i64 rk,.slice aA ml ac] 74)):=(Zc _ _).alloc (Za _) _;have aj:=Rw.At.new wr 74 [.int .i64 rc,.int .i64 rk,.slice aA ml ac];obtain⟨w5,h7⟩:∃w5,wr.alloc (.cells #[.int .i64 rc,.int .i64 rk,.slice aA ml ac] 74)=w5:=⟨_,rfl⟩;have ao:Rw.At w5 wr.heap.size 74 [.int .i64 rc,.int .i64 rk,.slice aA ml ac]:=by rw[←h7];exact aj
 rw[h7]at bg;have la:=hy' h7;have nj:=hy' bg;have jn:=hy' ao;have j1:=hy' et;have q0:=ao.cell 0 rfl;have q1:=ao.cell 1 rfl;have q2:=ao.cell 2 rfl;have f0:=ao.frozen 0;have f1:=ao.frozen 1;have f2:=ao.frozen 2;have nv:=ao.lt;have l4:=Ch.K_bd rc;have hK:=Ch.char_any rc w5;obtain⟨kc,jh⟩:∃kc,Ch.K rc=kc:=⟨_,rfl⟩;rw[jh]at hK l4;have HK:=hy' hK;have p3:=hy' jh;have ek:IntKind.i64.wrap kc=kc:=by rw[Z5];omega
 have oo:=Md.and_8 rk;obtain⟨cl,k7⟩:∃cl,rk%256%255=cl:=⟨_,rfl⟩;have ki:0≤cl∧cl≤254:=by omega
 have j6:(rk%256).tmod 255=cl:=by rw[QE (by omega)];exact k7
 have je:IntKind.i64.wrap cl=cl:=by rw[Z5];omega
 clear dv dz hh bq g0 g1 g2 et jc hr ha bg aj ao h7 hK jh hb k7;go_upto_region 6 with (fail)
 rw[la.o];clear c0 c1 im;go_wp2_with fail;refine HK.o.mono ?_;rintro e w6 ⟨rfl,rfl⟩;go_upto_region 8 with (fail)
 obtain⟨w8,iq⟩:∃w8,(w5.setCell ⟨wr.heap.size,0,none⟩ (.int .i64 kc)).setCell ⟨wr.heap.size,1,none⟩ (.int .i64 cl)=w8:=⟨_,rfl⟩;have bu:Rw.At w8 wr.heap.size 74 [.int .i64 kc,.int .i64 cl,.slice aA ml ac]:=by rw[←iq];exact (jn.o.set 0 (.int .i64 kc)).set 1 (.int .i64 cl)
 have ly:Below wr.heap.size wr w8:=by rw[←iq];exact (nj.o.setCell (p:=⟨wr.heap.size,0,none⟩) (Za _) _).setCell (p:=⟨wr.heap.size,1,none⟩) (Za _) _
 rw[iq];have fx:=hy' bu;have mz:=hy' ly;have q2:=bu.cell 2 rfl;have f2:=bu.frozen 2;have nl:=bu.lt;clear bu ly iq q0 q1 f0 f1 nv ek oo j6 je la;go_upto_if 36 with (fail)
 go_cut [] (fun wx=>Rw.At wx wr.heap.size 74 [.int .i64 kc,.int .i64 cl,.slice aA (min ml 2) ac]∧Below wr.heap.size wr wx)
 case first =>
  by_cases h2:2<ml
  · have ot:(2:Int)<ml:=by omega
    have pq:(2:Int)≤ac:=by omega
    have b8:min ml 2=2:=by omega
    have ef:=hy' b8;clear b8;go_wp2_with fail;go_meet;rw[ef.o];exact⟨fx.o.set 2 _,mz.o.setCell (p:=⟨wr.heap.size,2,none⟩) (Za _) _⟩
  have ot:¬(2:Int)<ml:=by omega
  have b8:min ml 2=ml:=by omega
  have ef:=hy' b8;clear b8;go_wp2_with fail;go_meet;rw[ef.o];exact⟨fx.o,mz.o⟩
 obtain⟨bs,ik⟩:=hcut;obtain⟨wx,rfl⟩:∃wx:World,wx=wc:=⟨_,rfl⟩;obtain⟨m2,kj⟩:∃m2,min ml 2=m2:=⟨_,rfl⟩;rw[kj]at bs;have kr:m2≤2:=by omega
 have pn:m2≤ml:=by omega
 have qg:=hy' kj;have jv:=hy' bs;have ka:=hy' ik;have ej:=j1.o.below ik;have kl:=hy' ej;have nx:=hy' (jb.o.below ik)
 obtain⟨row,dk,df,dn⟩:∃row:Option Nat,(m2=0→row=none)∧(∀p,row=some p→(∃cs z,wx.heap[p]?=some (.cells cs 3 z))∧∃q,aA=some q∧q.block=p)∧(0<m2→∃bk ok,aA=some ⟨bk,ok,none⟩∧row=some bk):=by
  by_cases h0:m2=0
  · exact⟨none,fun _=>rfl,fun p hp=>absurd hp (by simp),fun h=>absurd h (by omega)⟩
  obtain⟨bk,ok,cs,hA,hc,_⟩:=ej (by rw[Ze,e5.o];omega);refine⟨some bk,fun h=>absurd h h0,fun p hp=>?_,fun _=>⟨bk,ok,hA,rfl⟩⟩;cases hp
  exact⟨⟨cs,_,hc⟩,_,hA,rfl⟩
 have k6:=hy' dk;have dp:=hy' df;have hl:=hy' dn;have x2:=bs.cell 2 rfl;have pv:=bs.lt;clear bs ik ej kj dk df dn q2 f2 nl;go_wp2_with fail;clear x2;go_loopw [44] (fun i wq=>∃q:Nat,q≤m2∧i=.int .i64 q∧Rw.At wq wr.heap.size 74 [.int .i64 kc,.int .i64 cl,.slice aA m2 ac]∧Slt wq 3 aA (((rm.take q).map Ch.K++rm.drop q).map (Value.int .i64))∧wx.grownBy wq row) (fun i _=>m2-(intOf i).toNat)
 case atStart=>exact⟨0,Nat.zero_le _,rfl,jv.o,by simpa using kl.o,zDh (Below.refl _ _)⟩
 obtain⟨q,hq,rfl,bl,bm,e2⟩:=hrel;obtain⟨wq,rfl⟩:∃wq:World,wq=wr:=⟨_,rfl⟩;have cm:=hy' bl;have km:=hy' bm;have nk:=hy' e2;have q2:=bl.cell 2 rfl;have qd:=bl.lt
 by_cases hltq:q<m2
 · obtain⟨y,hy⟩:∃y,rm[q]?=some y:=⟨_,Zb (by rw[e5.o];omega)⟩;obtain⟨bk,ok,hA,mv⟩:=hl.o (by omega);subst hA
   have hlen:(((rm.take q).map Ch.K++rm.drop q).map (Value.int .i64)).length=ml:=by
    rw[Ze,Zd,Ze,Zr,ZM,e5.o];omega
   obtain⟨b',o',fo,lu,bq⟩:=bm.sl (by rw[hlen];omega);simp only[Zg,YR]at fo;obtain⟨rfl,rfl,_⟩:=fo;have cy:=bq q (by rw[hlen];omega);rw[zNK Ch.K hy]at cy;have fy:=bm.frozen (by rw[hlen];omega) (ok+q);have jo:=bm.set (i:=q) (by rw[hlen];omega) (.int .i64 (Ch.K y));rw[zNL Ch.K hy]at jo;have lx:=hy' jo;obtain⟨ky,ku⟩:∃ky,Ch.K y=ky:=⟨_,rfl⟩;have k8:=Ch.K_bd y;rw[ku]at k8 lx;have n5:Hy (∀W,Calls prog 35 #[.int .i64 y] W fun e w'=>e=.returned (.int .i32 ky)∧W=w'):=hy' fun W=>by rw[←ku];exact Ch.char_any y W
   have p4:IntKind.i64.wrap ky=ky:=by rw[Z5];omega
   have px:(q:Int)<m2:=by omega
   have p5:(0:Int)≤q:=by omega
   have qb:q<m2:=hltq;have nr:=hy' mv;clear bl bm e2 hy hlen bq jo ku k8 mv
   have hne:wr.heap.size≠bk:=fun e=>by
    obtain⟨b',o',cs,fo,lu,_⟩:=km.o (by rw[Ze,Zd,Ze,Zr,ZM,e5.o];omega);simp only[Zg,YR]at fo;obtain⟨rfl,rfl,_⟩:=fo;subst e;exact cm.o.not (by decide) _ _ lu
   have mj:=zA0 nk.o (by rw[nr.o];exact Rw.grown_set bk (ok+q) (.int .i64 ky));have aa:=cm.o.other (i:=ok+q) hne (.int .i64 ky);have o1:=hy' (Md.grown_drew mj);have kb:=hy' aa;clear hne mj aa;go_upto_region 13 with (fail)
   go_region_law
    (first
      | (refine zJU _ (by rfl) 35 _ _ (by rfl) (C.enter func35 (by kernel_rfl) rfl) (.int .i64 y) (by rfl) _ (n5.out _) ?_)
      | fail)
   all_goals go_wp2_with fail
   all_goals exact⟨⟨q+1,by omega,by go_num,kb.o,lx.o,o1.o⟩,by simp[intOf];omega⟩
 obtain rfl:m2=q:=by omega
 have br:=nx.o.grown e2 HA.o jw.o dp.o
 have nf:Below w.heap.size w wq:=(cq.o.trans (ka.o.mono cq.o.size)).trans (zAe e2 (Zh cq.o.size ka.o.size) fun p hp=>by
  obtain⟨_,y,hy,pz⟩:=dp.o p hp;have h1:=(jw.o.2 (aA,ac) (Zk HA.o) y hy).1;have h2:=j5.o;omega)
 have jl:w4.heap.size≤wq.heap.size:=by
  have h1:=ka.o.size;have h2:=e2.size;omega
 have iu:=bm.take m2;rw[←List.map_take,YX (by rw[Ze,Zr,e5.o];omega),Zi (by rw[Ze,Zr];omega)]at iu;have b5:((rm.take m2).map Ch.K).length=m2:=by rw[Ze,Zr,e5.o];omega
 have eg:∀c∈(rm.take m2).map Ch.K,-2147483648≤c∧c≤2147483647:=fun c hc=>by
  obtain⟨y,_,rfl⟩:=List.mem_map.1 hc;exact Ch.K_bd y
 obtain⟨mp,nh⟩:∃mp,(rm.take m2).map Ch.K=mp:=⟨_,rfl⟩;rw[nh]at iu b5 eg;have bh:=hy' br;have fe:=hy' nf;have k9:=hy' iu;have ax:=hy' b5;have kh:=hy' eg;have z1:=bl.cell 1 rfl;have z2:=bl.cell 2 rfl;clear br nf iu b5 eg nh bl bm e2 q2 hltq;obtain⟨gb,mg⟩:∃gb,decide (cl=0∧m2=0)=gb:=⟨_,rfl⟩;have i1:=hy' mg;clear mg;go_upto_region 15 with (fail)
 go_cut [67] (fun s wx=>s=.bool gb∧wx=wq)
 case first =>
  rcases h1:(cl == 0) with _|_
  · have cb:gb=false:=by
     rw[←i1.o];have a1:¬cl=0:=by simpa using h1
     simp[a1]
    subst cb;go_wp2_with fail;go_meet;exact⟨rfl,rfl⟩
  rcases h2:((m2:Int) == 0) with _|_
  · have cb:gb=false:=by
     rw[←i1.o];have a1:¬(m2:Int)=0:=by simpa using h2
     have a2:¬m2=0:=by omega
     simp[a2]
    subst cb;go_wp2_with fail;go_meet;exact⟨rfl,rfl⟩
  have cb:gb=true:=by
   rw[←i1.o];have a1:cl=0:=by simpa using h1
   have a2:(m2:Int)=0:=by simpa using h2
   have a3:m2=0:=by omega
   simp[a1,a3]
  subst cb;go_wp2_with fail;go_meet;exact⟨rfl,rfl⟩
 obtain⟨rfl,rfl⟩:=hcut;obtain⟨wq,rfl⟩:∃wq:World,wq=wc:=⟨_,rfl⟩;rcases gb with _|_
 rotate_left
 · go_wp2_with fail;have ft:k+1≤n2:=hlt;refine⟨⟨k+1,To,adso,vo,ft,?_,bh.o,fe.o,jl⟩,?_⟩
   · go_num
   simp[intOf];omega
 obtain⟨Ao,co,rfl⟩:=zA3 bh.o.out;obtain⟨on,eb⟩:∃on,To.length=on:=⟨_,rfl⟩;have bt:=bh.o;have aa:=bt.a3;rw[eb]at aa;have y1:=aa.cell 1 rfl;have k3:=aa.lt;have bg:Below wq.heap.size wq (wq.alloc (.cells #[.slice none 0 0,.slice XA2 xn2 xc2] 38)):=(Zc _ _).alloc (Za _) _;have fg:=Rw.At.new wq 38 [.slice none 0 0,.slice XA2 xn2 xc2];obtain⟨wn,h8⟩:∃wn,wq.alloc (.cells #[.slice none 0 0,.slice XA2 xn2 xc2] 38)=wn:=⟨_,rfl⟩;have dt:Rw.At wn wq.heap.size 38 [.slice none 0 0,.slice XA2 xn2 xc2]:=by rw[←h8];exact fg
 rw[h8]at bg
 have dl:Md.rok (kc,cl,mp):=by
  refine⟨l4,ki,by show mp.length≤2;rw[ax.o];exact kr,kh.o,fun h0 o2=>?_⟩;have h1:decide (cl=0∧m2=0)=false:=i1.o;rw[ZY]at h1;apply h1
  refine⟨h0,?_⟩;have:=ax.o;rw[show mp=[] from o2]at this;simpa using this.symm
 have dc:zGo [(aA,ac)] (ads.drop (k+1)):=fun x hx p hp y hy q hq=>by
  rw[Zp]at hx;subst hx;obtain⟨l1,l2⟩:=List.getElem?_eq_some_iff.1 HA.o;obtain⟨j,hj,l5⟩:=Xr hy;rw[List.getElem_drop]at l5;rw[ZM]at hj;have:=List.pairwise_iff_getElem.1 jw.o.1 k (k+1+j) l1 (by omega) (by omega) p q (by rw[l2];exact hp) (by rw[l5];exact hq);omega
 have gz:=hy' dl;have c6:=hy' dc;have bp:=hy' eb;have nw:=hy' h8;have h5:=hy' bg;have j3:Hy (Md.NX wq.heap.size (.slice XA2 xn2 xc2) (ads.drop (k+1)) wn [] [] (.slice none 0 0)):=hy' ⟨dt,⟨rfl,fun i r a h=>absurd h (by simp)⟩,ZI _ _ _ _,fun i r a h=>absurd h (by simp),fun r hr=>absurd hr (by simp),fun a ha=>absurd ha (by simp)⟩;have ol:=bg.size;clear bt aa eb bg fg dt h8 dl dc z1 z2;go_upto_region 17 with (fail)
 rw[nw.o];clear y1;have aa:=(bh.o.below h5.o).a3;rw[bp.o]at aa;have y0:=aa.cell 0 rfl;have k3:=aa.lt;clear aa;go_wp2_with fail;clear y0;have pg:on≤20:=by have h1:=bh.o.len;rw[bp.o]at h1;omega
 go_loopw [8,74] (fun v8 i ws=>∃(j:Nat) (d:Bool) (N:List Rw.Row) (nads:List (Option Addr × Nat)) (vn:Value),j≤on∧i=.int .i64 j∧v8=.bool d∧Md.NX wq.heap.size (.slice XA2 xn2 xc2) (ads.drop (k+1)) ws N nads vn∧N.length≤j+(if d=true then 1 else 0)∧Below wq.heap.size wq ws) (fun _ i _=>on-(intOf i).toNat)
 case atStart=>exact⟨0,false,[],[],.slice none 0 0,ZG _,rfl,rfl,j3.o,ZG _,h5.o⟩
 obtain⟨j,d,N,nads,vn,hj,rfl,rfl,fk,ic,dh⟩:=hrel;obtain⟨ws,rfl⟩:∃ws:World,ws=wr:=⟨_,rfl⟩;have e0:=hy' fk;have ie:=hy' ic;have ju:=hy' dh
 by_cases hltj:j<on
 · have bc:=bh.o.below dh;obtain⟨q,hq⟩:∃q,To[j]?=some q:=⟨_,Zb (by rw[bp.o];exact hltj)⟩;obtain⟨qa,fz⟩:∃qa,adso[j]?=some qa:=⟨_,Zb (by rw[bc.lens.1,bp.o];exact hltj)⟩;have cd:=bc.out;have b9:(zBj To adso).length=on*3:=by rw[zCI _ _ bc.lens.1,bp.o]
   rw[bp.o]at cd;obtain⟨b4,o4,rfl,kt,bq⟩:=(Sl.of_own cd) (by rw[b9];omega);obtain⟨g0,g1,g2⟩:=zF4 To adso j q qa hq fz;have c0:=bq (j*3) (by rw[b9];omega);have c1:=bq (j*3+1) (by rw[b9];omega);have c2:=bq (j*3+2) (by rw[b9];omega);rw[g0]at c0;rw[g1,←Yi]at c1;rw[g2,←Yi]at c2;have ji:=bc.mo j q qa hq fz;have ia:=bc.lens.2 j q qa hq fz;have kq:=bc.rok q (Zk hq)
   have mm:zGo [qa] (ads.drop (k+1)):=fun x hx p hp y hy z hz=>by
    rw[Zp]at hx;subst hx;exact bc.und x (Zk fz) p hp y hy z hz
   obtain⟨qc,qk,qm⟩:=q;obtain⟨qA,ae⟩:=qa;dsimp only at c0 c1 c2 ji ia;obtain⟨ql,jg⟩:∃ql,qm.length=ql:=⟨_,rfl⟩;rw[jg]at c2 ia;have po:=kq.1;dsimp only at po;have ix:=hy' jg;have mq:=hy' kq;have l3:=hy' mm;have qe:(j:Int)<on:=by omega
   have od:(0:Int)≤j:=by omega
   have gm:Below ws.heap.size ws (ws.alloc (.cells #[.int .i64 qc,.int .i64 qk,.slice qA ql ae] 74)):=(Zc _ _).alloc (Za _) _;have e9:=Rw.At.new ws 74 [.int .i64 qc,.int .i64 qk,.slice qA ql ae];obtain⟨wv,ib⟩:∃wv,ws.alloc (.cells #[.int .i64 qc,.int .i64 qk,.slice qA ql ae] 74)=wv:=⟨_,rfl⟩;have aw:Rw.At wv ws.heap.size 74 [.int .i64 qc,.int .i64 qk,.slice qA ql ae]:=by rw[←ib];exact e9
   rw[ib]at gm;have cg:=dh.trans (gm.mono dh.size);have o3:=hy' ib;have kf:=hy' aw;have lf:=hy' (ji.below gm);have j9:=hy' (k9.o.below cg);have ba:=hy' (fk.below gm);have cp:=hy' cg;have aj:=cm.o.below cg;have l7:=hy' aj;have r0:=aj.cell 0 rfl;have r1:=aj.cell 1 rfl;have r2:=aj.cell 2 rfl;have rl:=aj.lt;have p0:=aw.cell 0 rfl;have p1:=aw.cell 1 rfl;have p2:=aw.cell 2 rfl;have pl:=aw.lt;have fq:Hy (∀q,vn.ownBlock=some q→q<ws.heap.size):=hy' fun q hq=>(fk.own.lt q hq).2
   have fw:N.length≤30:=by have:=ic;split at this <;> omega
   clear bc hq fz cd b9 bq g0 g1 g2 ji kq mm jg gm e9 aw ib cg aj fk dh;obtain⟨gf,gp⟩:∃g,(!d&&decide (kc<qc))=g:=⟨_,rfl⟩;have ct:=hy' gp;clear gp;go_upto_region 21 with (fail)
   rw[o3.o];clear c0 c1 c2;go_cut [86] (fun s wx=>s=.bool gf∧wx=wv)
   case first =>
    cases d
    · by_cases hkq:kc<qc
      · have cb:gf=true:=by rw[←ct.o];simp[hkq]
        subst cb;go_wp2_with fail;go_meet;exact⟨rfl,rfl⟩
      have cb:gf=false:=by rw[←ct.o];simp[hkq]
      subst cb;go_wp2_with fail;go_meet;exact⟨rfl,rfl⟩
    have cb:gf=false:=by rw[←ct.o];rfl
    subst cb;go_wp2_with fail;go_meet;exact⟨rfl,rfl⟩
   obtain⟨rfl,rfl⟩:=hcut;obtain⟨wv,rfl⟩:∃wv:World,wv=wc:=⟨_,rfl⟩;rcases gf with _|_
   · obtain⟨oq,ov,rfl⟩:=zA3 ba.o.own;obtain⟨ig,eo⟩:∃nn,N.length=nn:=⟨_,rfl⟩;have bf:=ba.o.tab;have ay:=ba.o.own.alloc (.cells #[.int .i64 qc,.int .i64 qk,.slice qA ql ae] 74);rw[eo]at bf ay;have p8:=bf.cell 0 rfl;have pu:=bf.lt;have fj:wq.heap.size+1≤(wv.alloc (.cells #[.int .i64 qc,.int .i64 qk,.slice qA ql ae] 74)).heap.size:=by simp;omega
     have h3:=hy' (zCa (w:=wv.alloc (.cells #[.int .i64 qc,.int .i64 qk,.slice qA ql ae] 74)) (A:=some ⟨wv.heap.size,0,none⟩) (xs:=[.int .i64 qc,.int .i64 qk,.slice qA ql ae]) rfl 74 (0,0) (ZV wv _));have jt:=hy' (zBi ay wq.heap.size (ZN _));have ea:=hy' ay;have ec:=hy' (bf.alloc (.cells #[.int .i64 qc,.int .i64 qk,.slice qA ql ae] 74));have eu:=hy' eo;have mn:ig≤40:=by omega
     clear bf ay eo;go_wp2_with (first|(at_builtin;refine zAd _ rfl _ _ _ rfl (wq.heap.size+1) 74 j0 _ 3 40 underlying35 hj0 iy h6 iw rfl (by omega) (.slice oq ig ov) ig _ rfl ea.o _ (some ⟨wv.heap.size,0,none⟩) 1 1 [.int .i64 qc,.int .i64 qk,.slice qA ql ae] rfl rfl h3.out (by simp[Value.oneCell']) (by simp only[maxLen];omega) (by omega) fj ?_;intro v1 o0 cc j8 bw;have ai:=ec.o.grown bw jt.o;have u0:=ai.cell 0 rfl;have ij:=ai.frozen 0;have iv:=ai.lt;obtain⟨nu,o7,rfl⟩:=zA3 cc)|fail);have lm:=cc;rw[←ix.o,←eu.o]at lm;have cx:=ba.o.push (r:=(qc,qk,qm)) (a:=(qA,ae)) lf.o (by show _≤_;rw[ix.o];exact ia) mq.o l3.o lm (by rw[eu.o];exact bw);rw[eu.o]at cx;have jq:Below wq.heap.size wq ((o0).setCell ⟨wq.heap.size,0,none⟩ (.slice nu (ig+1) o7)):=((cp.o.alloc cp.o.size (.cells #[.int .i64 qc,.int .i64 qk,.slice qA ql ae] 74)).trans (j8.mono (ZW _))).setCell (p:=⟨wq.heap.size,0,none⟩) (Za _) _;exact⟨⟨j+1,d,_,_,_,by omega,by go_num,rfl,cx,by simp only[Zd,Ym];have:=ie.o;omega,jq⟩,by simp[intOf];omega⟩
   have ni:d=false:=by
    have h:=ct.o;cases d
    · rfl
    exact absurd h (by simp)
   subst ni;obtain⟨j4,ks,rfl⟩:=zA3 ba.o.own;obtain⟨bo,bj⟩:∃nn,N.length=nn:=⟨_,rfl⟩;have ag:=ba.o.tab;have af:=ba.o.own.alloc (.cells #[.int .i64 kc,.int .i64 cl,.slice aA m2 ac] 74);rw[bj]at ag af;have k5:=ag.cell 0 rfl;have k0:=ag.lt;have b1:wq.heap.size+1≤(wv.alloc (.cells #[.int .i64 kc,.int .i64 cl,.slice aA m2 ac] 74)).heap.size:=by simp;omega
   have b7:=hy' (zCa (w:=wv.alloc (.cells #[.int .i64 kc,.int .i64 cl,.slice aA m2 ac] 74)) (A:=some ⟨wv.heap.size,0,none⟩) (xs:=[.int .i64 kc,.int .i64 cl,.slice aA m2 ac]) rfl 74 (0,0) (ZV wv _));have ei:=hy' (zBi af wq.heap.size (ZN _));have a6:=hy' af;have bi:=hy' (ag.alloc (.cells #[.int .i64 kc,.int .i64 cl,.slice aA m2 ac] 74));have a8:=hy' bj;have gy:bo≤40:=by omega
   clear ag af bj;go_upto_region 24 with (first|(at_builtin;refine zAd _ rfl _ _ _ rfl (wq.heap.size+1) 74 j0 _ 3 40 underlying35 hj0 iy h6 iw rfl (by omega) (.slice j4 bo ks) bo _ rfl a6.o _ (some ⟨wv.heap.size,0,none⟩) 1 1 [.int .i64 kc,.int .i64 cl,.slice aA m2 ac] rfl rfl b7.out (by simp[Value.oneCell']) (by simp only[maxLen];omega) (by omega) b1 ?_;intro v1 i6 ap cu ah;have ai:=bi.o.grown ah ei.o;have u0:=ai.cell 0 rfl;have ij:=ai.frozen 0;have iv:=ai.lt;obtain⟨e4,ey,rfl⟩:=zA3 ap)|fail)
   have e3:=ap;rw[←ax.o,←a8.o]at e3;have ar:=ba.o.push (r:=(kc,cl,mp)) (a:=(aA,ac)) j9.o (by show _≤_;rw[ax.o];exact (by omega)) gz.o c6.o e3 (by rw[a8.o];exact ah);rw[a8.o]at ar;have kv:Below wq.heap.size wq (i6.setCell ⟨wq.heap.size,0,none⟩ (.slice e4 (bo+1) ey)):=((cp.o.alloc cp.o.size (.cells #[.int .i64 kc,.int .i64 cl,.slice aA m2 ac] 74)).trans (cu.mono (ZW _))).setCell (p:=⟨wq.heap.size,0,none⟩) (Za _) _;have au:=((kf.o.alloc (.cells #[.int .i64 kc,.int .i64 cl,.slice aA m2 ac] 74)).grown ah (fun e=>JD _ (fq.o _ (by rw[a8.o];exact e)))).other (b':=wq.heap.size) (i:=0) (by have:=ju.o.size;have:=e0.o.tab.lt;omega) (.slice e4 (bo+1) ey);have ed:=(((lf.o.below ((Zc _ _).alloc (Za _) (.cells #[.int .i64 kc,.int .i64 cl,.slice aA m2 ac] 74))).grown ah (zAy a6.o (by decide))).grown (Rw.grown_set wq.heap.size 0 (.slice e4 (bo+1) ey)) (by intro q hq;cases hq;exact ai.not (by decide)));obtain⟨wy,kz⟩:∃wy,i6.setCell ⟨wq.heap.size,0,none⟩ (.slice e4 (bo+1) ey)=wy:=⟨_,rfl⟩;rw[kz]at ar kv au ed;obtain⟨vy,ma⟩:∃v,Value.slice e4 (bo+1) ey=v:=⟨_,rfl⟩;rw[ma]at ar;clear ma;rw[kz];have cj:=hy' ar;have mi:=hy' kv;have ko:=hy' ed;have p0:=au.cell 0 rfl;have p1:=au.cell 1 rfl;have p2:=au.cell 2 rfl;have pl:=au.lt;clear ar kv au ed kz e3 ap cu ah ai u0 ij iv r0 r1 r2 rl k5 k0;obtain⟨ob,oz,rfl⟩:=zA3 cj.o.own;obtain⟨ih,cr⟩:∃nn,(N++[(kc,cl,mp)]).length=nn:=⟨_,rfl⟩;have bb:=cj.o.tab;have az:=cj.o.own.alloc (.cells #[.int .i64 qc,.int .i64 qk,.slice qA ql ae] 74);rw[cr]at bb az;have py:=bb.cell 0 rfl;have p7:=bb.lt;have h4:wq.heap.size+1≤(wy.alloc (.cells #[.int .i64 qc,.int .i64 qk,.slice qA ql ae] 74)).heap.size:=by simp;omega
   have gj:=hy' (zCa (w:=wy.alloc (.cells #[.int .i64 qc,.int .i64 qk,.slice qA ql ae] 74)) (A:=some ⟨wy.heap.size,0,none⟩) (xs:=[.int .i64 qc,.int .i64 qk,.slice qA ql ae]) rfl 74 (0,0) (ZV wy _));have jz:=hy' (zBi az wq.heap.size (ZN _));have dy:=hy' az;have dx:=hy' (bb.alloc (.cells #[.int .i64 qc,.int .i64 qk,.slice qA ql ae] 74));have ep:=hy' cr;have lc:ih≤40:=by rw[←cr,Zd,Ym];omega
   clear bb az cr;go_wp2_with (first|(at_builtin;refine zAd _ rfl _ _ _ rfl (wq.heap.size+1) 74 j0 _ 3 40 underlying35 hj0 iy h6 iw rfl (by omega) (.slice ob ih oz) ih _ rfl dy.o _ (some ⟨wy.heap.size,0,none⟩) 1 1 [.int .i64 qc,.int .i64 qk,.slice qA ql ae] rfl rfl gj.out (by simp[Value.oneCell']) (by simp only[maxLen];omega) (by omega) h4 ?_;intro v1 og b6 jf b3;have ai:=dx.o.grown b3 jz.o;have u0:=ai.cell 0 rfl;have ij:=ai.frozen 0;have iv:=ai.lt;obtain⟨n8,ph,rfl⟩:=zA3 b6)|fail);have lp:=b6;rw[←ix.o,←ep.o]at lp;have du:=cj.o.push (r:=(qc,qk,qm)) (a:=(qA,ae)) ko.o (by show _≤_;rw[ix.o];exact ia) mq.o l3.o lp (by rw[ep.o];exact b3);rw[ep.o]at du;have ke:Below wq.heap.size wq ((og).setCell ⟨wq.heap.size,0,none⟩ (.slice n8 (ih+1) ph)):=((mi.o.alloc mi.o.size (.cells #[.int .i64 qc,.int .i64 qk,.slice qA ql ae] 74)).trans (jf.mono (ZW _))).setCell (p:=⟨wq.heap.size,0,none⟩) (Za _) _;exact⟨⟨j+1,true,_,_,_,by omega,by go_num,rfl,du,by simp only[Zd,Ym];have h1:=ie.o;simp at h1 ⊢;omega,ke⟩,by simp[intOf];omega⟩
 obtain rfl:on=j:=by omega
 have mb:=ju;have aj:=cm.o.below dh;have r0:=aj.cell 0 rfl;have r1:=aj.cell 1 rfl;have r2:=aj.cell 2 rfl;have rl:=aj.lt;have j9:=hy' (k9.o.below dh);have fw:N.length≤30:=by have:=ic;split at this <;> omega
 clear fk ic dh aj hltj;go_upto_if 101 with (fail)
 go_cut [] (fun wx=>∃(N':List Rw.Row) (b2:List (Option Addr × Nat)) (k4:Value),Md.NX wq.heap.size (.slice XA2 xn2 xc2) (ads.drop (k+1)) wx N' b2 k4∧N'.length≤on+1∧Below wq.heap.size wq wx)
 case first =>
  cases d
  · have pc:N.length≤on:=by have h1:=ie.o;simpa using h1
    obtain⟨j4,ks,rfl⟩:=zA3 e0.o.own;obtain⟨bo,bj⟩:∃nn,N.length=nn:=⟨_,rfl⟩;have ag:=e0.o.tab;have af:=e0.o.own.alloc (.cells #[.int .i64 kc,.int .i64 cl,.slice aA m2 ac] 74);rw[bj]at ag af;have k5:=ag.cell 0 rfl;have k0:=ag.lt;have b1:wq.heap.size+1≤(ws.alloc (.cells #[.int .i64 kc,.int .i64 cl,.slice aA m2 ac] 74)).heap.size:=by simp;omega
    have b7:=hy' (zCa (w:=ws.alloc (.cells #[.int .i64 kc,.int .i64 cl,.slice aA m2 ac] 74)) (A:=some ⟨ws.heap.size,0,none⟩) (xs:=[.int .i64 kc,.int .i64 cl,.slice aA m2 ac]) rfl 74 (0,0) (ZV ws _));have ei:=hy' (zBi af wq.heap.size (ZN _));have a6:=hy' af;have bi:=hy' (ag.alloc (.cells #[.int .i64 kc,.int .i64 cl,.slice aA m2 ac] 74));have a8:=hy' bj;have gy:bo≤40:=by omega
    clear ag af bj;go_wp2_with (first|(at_builtin;refine zAd _ rfl _ _ _ rfl (wq.heap.size+1) 74 j0 _ 3 40 underlying35 hj0 iy h6 iw rfl (by omega) (.slice j4 bo ks) bo _ rfl a6.o _ (some ⟨ws.heap.size,0,none⟩) 1 1 [.int .i64 kc,.int .i64 cl,.slice aA m2 ac] rfl rfl b7.out (by simp[Value.oneCell']) (by simp only[maxLen];omega) (by omega) b1 ?_;intro v1 i6 ap cu ah;have ai:=bi.o.grown ah ei.o;have u0:=ai.cell 0 rfl;have ij:=ai.frozen 0;have iv:=ai.lt;obtain⟨e4,ey,rfl⟩:=zA3 ap)|fail);have e3:=ap;rw[←ax.o,←a8.o]at e3;have ar:=e0.o.push (r:=(kc,cl,mp)) (a:=(aA,ac)) j9.o (by show _≤_;rw[ax.o];exact (by omega)) gz.o c6.o e3 (by rw[a8.o];exact ah);rw[a8.o]at ar;go_meet;exact⟨_,_,_,ar,by rw[Zd,Ym];omega,(((mb.o.alloc mb.o.size (.cells #[.int .i64 kc,.int .i64 cl,.slice aA m2 ac] 74)).trans (cu.mono (ZW _))).setCell (p:=⟨wq.heap.size,0,none⟩) (Za _) _)⟩
  go_wp2_with fail;go_meet;exact⟨N,nads,vn,e0.o,by have h1:=ie.o;simpa using h1,ju.o⟩
 obtain⟨N',b2,k4,a7,kp,en⟩:=hcut;obtain⟨mf,rfl⟩:∃w':World,w'=wc:=⟨_,rfl⟩;obtain⟨An,cn,rfl⟩:=zA3 a7.own;have li:=bh.o.below en;have lr:=Sl.of_own li.excl;have gh:Md.Doc mf (zBd An N'.length cn XA2 E.length xc2) N' E:=⟨An,cn,XA2,xc2,rfl,zIw a7.lens.1 (Slt.of_own a7.own) a7.mo,lr⟩;have c8:=zFl a7.own;have l6:N'.length≤100000:=by omega
 have dr:E.length≤1000000:=Zh nc.o (by decide);have av:=a7.rok;have ee:Md.bd N':=fun r hr=>⟨(av r hr).1,(av r hr).2.2.2.1⟩
 have kt:∀r∈N',r.2.2.length≤1000:=fun r hr=>Zh (av r hr).2.2.1 (by decide)
 have lh:∀r∈N',-9223372036854775808≤r.2.1∧r.2.1≤9223372036854775807:=fun r hr=>⟨Ya (by decide) (av r hr).2.1.1,Ya (av r hr).2.1.2 (by decide)⟩
 have bn:=zL2 _ N' E mf l6 dr ee kt lh gh (zQs c8);clear lr l6 dr av ee kt lh;unfold zBd at bn;rw[lq.o]at bn;obtain⟨ck,kg⟩:∃ck,Md.chk N' (Md.xs E)=ck:=⟨_,rfl⟩;rw[kg]at bn;obtain⟨nn,jm⟩:∃nn,N'.length=nn:=⟨_,rfl⟩;have bz:=a7.tab;rw[jm]at bn bz kp;have t0:=bz.cell 0 rfl;have t1:=bz.cell 1 rfl;have tl:=bz.lt;have jr:=hy' bn;have gv:=hy' a7;have eh:=hy' en;have ou:=hy' kg;have ja:=hy' jm;clear a7 en li gh c8 bn kg jm bz;go_wp2_with fail;refine jr.o.mono ?_;rintro e w9 ⟨rfl,hg⟩;have kk:=(bh.o.below eh.o).below hg;have fu:=gv.o.below hg;rw[ja.o]at fu;have lb:=hy' kk;have pp:=hy' (gv.o.below hg);have il:=hy' (eh.o.trans (hg.mono eh.o.size));have t0:=fu.tab.cell 0 rfl;have t1:=fu.tab.cell 1 rfl;have tl:=fu.tab.lt;have ez:=kk.a3;have s0:=ez.cell 0 rfl;have s1:=ez.cell 1 rfl;have g0:=ez.frozen 0;have g1:=ez.frozen 1;have gl:=ez.lt;clear kk fu hg ez
 by_cases hck0:ck=0
 · subst hck0;have gi:zB9 0=⟨#[]⟩:=rfl;rw[gi];go_wp2_with fail;have ft:k+1≤n2:=hlt;have o9:=j5.o;have j7:=jb.o.len;rw[bp.o]at j7;have br:=Md.RI.take lb.o pp.o ou.o (by rw[ja.o];omega) (by omega) (by omega);rw[ja.o]at br;have kw:=fe.o.trans (il.o.mono fe.o.size);have oa:=il.o.size;refine⟨⟨k+1,N',b2,.slice An nn cn,ft,?_,br,?_,?_⟩,?_⟩
   · go_num
   · exact (kw.setCell (p:=⟨w3.heap.size,0,none⟩) (by show w.heap.size≤w3.heap.size;omega) _).setCell (p:=⟨w3.heap.size,1,none⟩) (by show w.heap.size≤w3.heap.size;omega) _
   · rw[ZP,ZP];omega
   simp[intOf];omega
 have kd:=zPr hck0
 have kx:¬zB9 ck=⟨#[]⟩:=fun e=>by
  rw[e]at kd;revert kd;decide +kernel
 obtain⟨nt,ll⟩:∃nt,zB9 ck=nt:=⟨_,rfl⟩;rw[ll]at kd kx ⊢;clear ll hck0;go_wp2_with fail;have ft:k+1≤n2:=hlt;have kw:=fe.o.trans (il.o.mono fe.o.size);have oa:=il.o.size;refine⟨⟨k+1,To,adso,_,ft,?_,lb.o,kw,by omega⟩,?_⟩
 · go_num
 simp[intOf];omega
end Go.Proofs.YthngjlllojiacaaGreatDoor
