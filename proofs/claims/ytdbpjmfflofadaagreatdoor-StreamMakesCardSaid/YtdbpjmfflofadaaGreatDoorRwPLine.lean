/- The law's Right: a table that may be, of any one: by walking its text. -/
import Derived.Test.YtdbpjmfflofadaaGreatDoorMdRef6
set_option maxRecDepth 100000
set_option maxHeartbeats 4000000
set_option linter.unusedVariables false
set_option linter.unusedSimpArgs false
namespace Go.Proofs.YtdbpjmfflofadaaGreatDoor
open Go.Proofs.Tryz
section
open Go.RowKit
def Md.rok (r:Rw.Row):Prop:=(-2147483648≤r.1∧r.1≤2147483647)∧(0≤r.2.1∧r.2.1≤254)∧r.2.2.length≤2∧(∀c∈r.2.2,-2147483648≤c∧c≤2147483647)∧(r.2.1=0→r.2.2≠[])
def zGV (ads rest:List (Option Addr × Nat)):Prop:=∀a∈ads,∀p,a.1=some p→∀a'∈rest,∀q,a'.1=some q→p.block<q.block
def zJQ (w:World) (e:Ending) (w':World):Prop :=
 ∃v T E,e=.returned v∧Md.Doc w' v T E∧(∀A n c A' n' c',v=.agg #[.slice A n c,.slice A' n' c']→n≤c∧n'≤c')∧T.length≤20∧E.length≤30∧(∀r∈T,Md.rok r)∧(∀c∈E,C.isC c=true)∧Md.chk T (Md.xs E)=0∧Below w.heap.size w w'
theorem Slt.grownA {w w':World} {t:TypeId} {A:Option Addr} {xs:List Value} {row:Option Nat} (h:Slt w t A xs) (hg:w.grownBy w' row) (hr:∀p,A=some p→row≠some p.block):Slt w' t A xs:=by
 intro hx;obtain⟨b,o,cs,hA,hb,hc⟩:=h hx;exact⟨b,o,cs,hA,(hg.block b (zCF hb) fun e=>hr _ hA e.symm).trans hb,hc⟩
theorem Slt.take {w:World} {t:TypeId} {A:Option Addr} {xs:List Value} (h:Slt w t A xs) (n:Nat):Slt w t A (xs.take n):=by
 intro hx;rw[Zn]at hx;obtain⟨b,o,cs,hA,hb,hc⟩:=h (by omega);refine⟨b,o,cs,hA,hb,fun i hi=>?_⟩;rw[Zn]at hi;rw[hc i (by omega),Yv,Zl (by omega)]
theorem Slt.set {w:World} {t:TypeId} {b o i:Nat} {xs:List Value} (h:Slt w t (some ⟨b,o,none⟩) xs) (hi:i<xs.length) (v:Value):Slt (w.setCell ⟨b,o+i,none⟩ v) t (some ⟨b,o,none⟩) (xs.set i v):=by
 intro _;obtain⟨b',o',cs,hA,hb,hc⟩:=h (by omega);simp only[Zg,YH]at hA;obtain⟨rfl,rfl,_⟩:=hA;have aa:=zCF hb;refine⟨b,o,cs.setIfInBounds (o+i) v,rfl,?_,fun j hj=>?_⟩
 · show (w.heap.modify b _)[b]?=_;have hk:=(Array.getElem?_eq_some_iff.1 hb).2;rw[Xr (by rw[QV];exact aa),QT,hk];simp
 rw[YF]at hj
 have hs:o+i<cs.size:=by
  have:=hc i hi;rw[Zb hi]at this;exact (Array.getElem?_eq_some_iff.1 this).1
 rw[Array.getElem?_setIfInBounds,XV]
 by_cases e:i=j
 · subst e;rw[Zl rfl,Zl rfl,Zl hs,Zl hi]
 rw[Zk (by omega),Zk e,hc j hj]
structure Md.RI (b2 b3 lo mid B4:Nat) (A2:Option Addr) (n2 c2:Nat) (XA2:Option Addr) (xn2 xc2:Nat) (T:List Rw.Row) (ads:List (Option Addr × Nat)) (E:List Int) (k:Nat) (wr:World) (To:List Rw.Row) (adso:List (Option Addr × Nat)) (vo:Value):Prop where
 a2:Rw.At wr b2 38 [.slice none 0 0,.slice none 0 0]
 a3:Rw.At wr b3 38 [vo,.slice XA2 xn2 xc2]
 rows:wr.ownsRow lo 73 3 (.slice A2 n2 c2) n2 (zBr T ads)
 maps:∀(j:Nat) (r:Rw.Row) (a:Option Addr × Nat),k≤j→T[j]?=some r→ads[j]?=some a→Slt wr 3 a.1 (r.2.2.map (Value.int .i64))
 excl:wr.ownsRow mid 3 1 (.slice XA2 xn2 xc2) xn2 (E.map (Value.int .i64))
 lens:adso.length=To.length∧Md.caps To adso
 out:wr.ownsRow B4 73 3 vo To.length (zBr To adso)
 mo:Rw.MapsI wr To adso
 rok:∀r∈To,Md.rok r
 und:zGV adso (ads.drop k)
 chk:Md.chk To (Md.xs E)=0
 len:To.length≤k
section
variable {b2 b3 lo mid B4 n2 c2 xn2 xc2 k:Nat} {A2 XA2:Option Addr} {T To:List Rw.Row} {ads adso:List (Option Addr × Nat)} {E:List Int} {wr w':World} {vo:Value}
theorem Md.RI.below (h:Md.RI b2 b3 lo mid B4 A2 n2 c2 XA2 xn2 xc2 T ads E k wr To adso vo) (hb:Below wr.heap.size wr w'):Md.RI b2 b3 lo mid B4 A2 n2 c2 XA2 xn2 xc2 T ads E k w' To adso vo :=
 ⟨h.a2.below hb,h.a3.below hb,zA6 h.rows hb (Za _),fun j r a h1 h2 h3=>(h.maps j r a h1 h2 h3).below hb,zA6 h.excl hb (Za _),h.lens,zA6 h.out hb (Za _),h.mo.below hb,h.rok,h.und,h.chk,h.len⟩
theorem Md.RI.grown (h:Md.RI b2 b3 lo mid B4 A2 n2 c2 XA2 xn2 xc2 T ads E k wr To adso vo) {row:Option Nat} (hg:wr.grownBy w' row) {a:Option Addr × Nat} (ha:ads[k]?=some a) (ag:Md.apart lo mid ads)
 (aa:∀p,row=some p→(∃cs z,wr.heap[p]?=some (.cells cs 3 z))∧∃q,a.1=some q∧q.block=p):Md.RI b2 b3 lo mid B4 A2 n2 c2 XA2 xn2 xc2 T ads E (k+1) w' To adso vo:=by
 have hk:k<ads.length:=(List.getElem?_eq_some_iff.1 ha).1
 have ae:ads.drop k=a::ads.drop (k+1):=by
  obtain⟨h1,h2⟩:=List.getElem?_eq_some_iff.1 ha;rw[ZJ h1,h2]
 have hne:∀(b:Nat) (t:TypeId) cs z,wr.heap[b]?=some (.cells cs t z)→t≠3→row≠some b:=fun b t cs z hb ht e=>by
  obtain⟨⟨cs',z',hc⟩,_⟩:=aa b e;rw[hb]at hc;simp only[Zg,XN]at hc;exact ht hc.2.1
 have af:∀{base n:Nat} {v:Value} {xs:List Value},wr.ownsRow base 73 3 v n xs→w'.ownsRow base 73 3 v n xs:=fun {base n v xs} ho=>by
  refine ho.kept hg ?_;rcases ho.2 with ⟨rfl,_⟩|⟨g,cap,aj,rfl,_,ai,_⟩
  · exact .inl rfl
  exact .inr fun e=>hne g _ _ _ ai (by decide) e.symm
 refine⟨h.a2.grown hg (hne _ _ _ _ h.a2 (by decide)),h.a3.grown hg (hne _ _ _ _ h.a3 (by decide)),af h.rows,fun j r a' h1 h2 h3=>?_,?_,h.lens,af h.out,fun i r a' h1 h2=>?_,h.rok,?_,h.chk,Nat.le_succ_of_le h.len⟩
 · refine (h.maps j r a' (by omega) h2 h3).grownA hg fun p hp e=>?_
   obtain⟨_,q,hq,ah⟩:=aa _ e;obtain⟨l1,l2⟩:=List.getElem?_eq_some_iff.1 h3;obtain⟨l3,l4⟩:=List.getElem?_eq_some_iff.1 ha;have:=List.pairwise_iff_getElem.1 ag.1 k j l3 l1 (by omega) q p (by rw[l4];exact hq) (by rw[l2];exact hp);omega
 · refine h.excl.kept hg ?_;rcases hv:(Value.slice XA2 xn2 xc2).ownBlock with _|g
   · exact .inl rfl
   refine .inr fun e=>?_
   obtain⟨_,q,hq,ah⟩:=aa g e.symm;have h1:=(h.excl.lt g hv).1;have h2:=(ag.2 a (Zj ha) q hq).2;omega
 · refine (h.mo i r a' h1 h2).grownA hg fun p hp e=>?_
   obtain⟨_,q,hq,ah⟩:=aa _ e;have:=h.und a' (Zj h2) p hp a (by rw[ae];exact ZI) q hq;omega
 intro x hx p hp y hy q hq;exact h.und x hx p hp y (by rw[ae];exact ZT _ hy) q hq
end
theorem zOY (f:Int→Int) {l:List Int} {q:Nat} {y:Int} (hy:l[q]?=some y):(((l.take q).map f++l.drop q).map (Value.int .i64))[q]?=some (.int .i64 y):=by
 obtain⟨h1,h2⟩:=List.getElem?_eq_some_iff.1 hy;have hl:((l.take q).map f).length=q:=by rw[Ze,Zn];omega
 rw[Zt,ZO (by omega),hl,Yu,XI,YQ,hy];rfl
theorem zOZ (f:Int→Int) {l:List Int} {q:Nat} {y:Int} (hy:l[q]?=some y):(((l.take q).map f++l.drop q).map (Value.int .i64)).set q (.int .i64 (f y))=((l.take (q+1)).map f++l.drop (q+1)).map (Value.int .i64):=by
 obtain⟨h1,h2⟩:=List.getElem?_eq_some_iff.1 hy;have hl:(((l.take q).map f).map (Value.int .i64)).length=q:=by rw[Ze,Ze,Zn];omega
 rw[ZL,Y9 _ _ (by omega),hl,Yu,ZJ h1,h2,ZU,Zx,Zy,hy];simp
structure Md.NX (b7:Nat) (x:Value) (rest:List (Option Addr × Nat)) (ws:World) (N:List Rw.Row) (nads:List (Option Addr × Nat)) (vn:Value):Prop where
 tab:Rw.At ws b7 38 [vn,x]
 lens:nads.length=N.length∧Md.caps N nads
 own:ws.ownsRow (b7+1) 73 3 vn N.length (zBr N nads)
 mo:Rw.MapsI ws N nads
 rok:∀r∈N,Md.rok r
 und:zGV nads rest
theorem Md.NX.below {b7:Nat} {x vn:Value} {rest nads:List (Option Addr × Nat)} {ws w':World} {N:List Rw.Row} (h:Md.NX b7 x rest ws N nads vn) (hb:Below ws.heap.size ws w'):Md.NX b7 x rest w' N nads vn :=
 ⟨h.tab.below hb,h.lens,zA6 h.own hb (Za _),h.mo.below hb,h.rok,h.und⟩
theorem Md.NX.push {b7:Nat} {x vn v6:Value} {rest nads:List (Option Addr × Nat)} {ws w6:World} {N:List Rw.Row} (h:Md.NX b7 x rest ws N nads vn) {r:Rw.Row} {a:Option Addr × Nat} (hs:Slt ws 3 a.1 (r.2.2.map (Value.int .i64))) (hc:r.2.2.length≤a.2) (hr:Md.rok r) (hu:zGV [a] rest)
 (ag:(w6.ownsRow (b7+1) 73 3 v6 (N.length+1) (zBr N nads++[.int .i64 r.1,.int .i64 r.2.1,.slice a.1 r.2.2.length a.2]))) {o:Obj} (hg:(ws.alloc o).grownBy w6 vn.ownBlock) :
 Md.NX b7 x rest (w6.setCell ⟨b7,0,none⟩ v6) (N++[r]) (nads++[a]) v6:=by
 have hb:Below ws.heap.size ws (ws.alloc o):=(Zd _ _).alloc (Za _) _;have aa:=zA6 h.own hb (Za _);have af:=(h.tab.below hb).grown hg (zBq h.own b7 (ZM _));have ai:=(h.mo.below hb).grown hg (zAE aa (by decide));have ah:=(hs.below hb).grown hg (zAE aa (by decide))
 have ae:∀q,some b7=some q→∀cs z,w6.heap[q]?≠some (.cells cs 3 z):=fun q hq=>by
  cases hq
  exact af.not (by decide)
 refine⟨af.set 0 v6,⟨by simp[h.lens.1],h.lens.2.app h.lens.1 hc⟩,?_,(ai.grown (Rw.grown_set b7 0 v6) ae).app h.lens.1 (ah.grown (Rw.grown_set b7 0 v6) ae),fun q hq=>?_,fun q hq=>?_⟩
 · rw[Zc,Z8,zHp _ _ _ _ h.lens.1];exact Rw.own_grown ag (ZM _) (Rw.grown_set b7 0 v6)
 · rcases List.mem_append.1 hq with hq|hq
   · exact h.rok q hq
   rw[List.mem_singleton.1 hq];exact hr
 rcases List.mem_append.1 hq with hq|hq
 · exact h.und q hq
 exact hu q hq
theorem Md.RI.take {b2 b3 b7 lo mid B4 n2 c2 xn2 xc2 k:Nat} {A2 XA2:Option Addr} {T To N:List Rw.Row} {ads adso nads:List (Option Addr × Nat)} {E:List Int} {wx:World} {vo vn:Value}
 (h:Md.RI b2 b3 lo mid B4 A2 n2 c2 XA2 xn2 xc2 T ads E k wx To adso vo) (nx:Md.NX b7 (.slice XA2 xn2 xc2) (ads.drop k) wx N nads vn) (hc:Md.chk N (Md.xs E)=0) (hl:N.length≤k) (hB:B4≤b7+1) (hne:b2≠b3) :
 Md.RI b2 b3 lo mid B4 A2 n2 c2 XA2 xn2 xc2 T ads E k ((wx.setCell ⟨b3,0,none⟩ vn).setCell ⟨b3,1,none⟩ (.slice XA2 xn2 xc2)) N nads vn:=by
 have k1:=h.a3.set 0 vn;have ag:∀q,some b3=some q→∀cs z,wx.heap[q]?≠some (.cells cs 3 z):=fun q hq=>by cases hq;exact h.a3.not (by decide)
 have af:∀q,some b3=some q→∀cs z,(wx.setCell ⟨b3,0,none⟩ vn).heap[q]?≠some (.cells cs 3 z):=fun q hq=>by cases hq;exact k1.not (by decide)
 have aa:∀{base n size:Nat} {e:TypeId} {v:Value} {xs:List Value},e≠38→wx.ownsRow base e size v n xs→((wx.setCell ⟨b3,0,none⟩ vn).setCell ⟨b3,1,none⟩ (.slice XA2 xn2 xc2)).ownsRow base e size v n xs:=fun {base n size e v xs} he ho=>by
  have h1:=ho.kept (Rw.grown_set b3 0 vn) (.inr fun e'=>zAE ho he _ e' _ _ h.a3);exact h1.kept (Rw.grown_set b3 1 _) (.inr fun e'=>zAE h1 he _ e' _ _ k1)
 have ae:∀{A:Option Addr} {xs:List Value},Slt wx 3 A xs→Slt ((wx.setCell ⟨b3,0,none⟩ vn).setCell ⟨b3,1,none⟩ (.slice XA2 xn2 xc2)) 3 A xs:=fun {A xs} hs =>
  (hs.grown (Rw.grown_set b3 0 vn) ag).grown (Rw.grown_set b3 1 _) af
 refine⟨(h.a2.other hne _).other hne _,k1.set 1 _,aa (by decide) h.rows,fun j r a h1 h2 h3=>ae (h.maps j r a h1 h2 h3),aa (by decide) h.excl,nx.lens,own_base (aa (by decide) nx.own) hB,fun i r a h1 h2=>ae (nx.mo i r a h1 h2),nx.rok,nx.und,hc,hl⟩
theorem zQF {k:Nat} (h:k≠0):(zBg k).toList.isEmpty=false:=by
 have g1:(zBg 1).toList.isEmpty=false:=by kernel_rfl
 have g2:(zBg 2).toList.isEmpty=false:=by kernel_rfl
 have g3:(zBg 3).toList.isEmpty=false:=by kernel_rfl
 have g4:(zBg 4).toList.isEmpty=false:=by kernel_rfl
 have g5:(zBg 5).toList.isEmpty=false:=by kernel_rfl
 match k,h with
 | 1,_=>exact g1
 | 2,_=>exact g2
 | 3,_=>exact g3
 | 4,_=>exact g4
 | _+5,_=>exact g5
theorem zRT {A XA:Option Addr} {m c xn xc:Nat} (h:m≤c):∀A' n' c' x',zB8 A m c XA xn xc=.agg #[.slice A' n' c',x']→n'≤c':=by
 intro A' n' c' x' he;unfold zB8 at he;simp only[XO,Ql,Z7,ZX,Yl]at he;obtain⟨⟨rfl,rfl,rfl⟩,_⟩:=he;exact h
theorem Md.grown_drew {w w':World} {row:Option Nat} (h:w.grownBy w' row):w.grownBy w'.drew row:=⟨h.os,h.tape,h.output,h.size,h.block⟩
theorem Md.and_8 (n:Int):bits .and .i64 n 255=n%256:=by
 have hm:(BitVec.ofInt 64 255).toNat=2 ^ 8-1:=by decide
 have key:(BitVec.ofInt 64 n &&& BitVec.ofInt 64 255).toNat=(n%((2 ^ 64:Nat):Int)).toNat%2 ^ 8:=by
  rw[XC,Xo,hm,Yj]
 show IntKind.i64.wrap ((BitVec.ofInt 64 n &&& BitVec.ofInt 64 255).toNat:Nat)=n%256;rw[key,Ya];omega
theorem zNt (A XA:Option Addr) (n c xn xc:Nat) (T0:List Rw.Row) (E0:List Int) (w:World) (hn:T0.length=n) (hxn:E0.length=xn) (hnb:n≤maxLen) (hxb:xn≤maxLen) (hbd:∀r∈T0,zEa r) (h2:Rw.SeesI w A T0) (hX:Sl w w.heap.size XA (E0.map (Value.int .i64))) :
 Calls prog 66 #[.agg #[.slice A n c,.slice XA xn xc]] w (zJQ w):=by
 obtain⟨j0,hj0,ig,h9,iz⟩:=Z9 zPl;obtain⟨T,hT⟩:∃T,zFg T0=T:=⟨_,rfl⟩;obtain⟨E,hE⟩:∃E,zFh E0=E:=⟨_,rfl⟩;have k6:T.length≤20:=by rw[←hT];unfold zFg;simp;omega
 have mb:E.length≤30:=by rw[←hE];unfold zFh;simp;omega
 have my:∀c∈E,C.isC c=true:=fun c hc=>by
  rw[←hE]at hc;unfold zFh at hc;obtain⟨x,_,rfl⟩:=List.mem_map.1 hc;exact zLK x
 have lb:∀r∈T,r.2.2.length≤4:=fun r hr=>by
  rw[←hT]at hr;unfold zFg at hr;obtain⟨q,_,rfl⟩:=List.mem_map.1 hr;unfold zLX;simp;omega
 obtain⟨wa,ez⟩:∃wa,(w.alloc (.cells #[.slice A n c,.slice XA xn xc] 38)).alloc (.cells #[.slice none 0 0,.slice none 0 0] 38)=wa:=⟨_,rfl⟩;have lm:Below w.heap.size w wa:=by rw[←ez];exact ((Zd _ _).alloc (Za _) _).alloc (by simp) _
 have aj:Rw.At wa w.heap.size 38 [.slice A n c,.slice XA xn xc]:=by rw[←ez];exact (Rw.At.new w 38 [.slice A n c,.slice XA xn xc]).alloc _
 have ap:Rw.At wa (w.heap.size+1) 38 [.slice none 0 0,.slice none 0 0]:=by
  have:=Rw.At.new (w.alloc (.cells #[.slice A n c,.slice XA xn xc] 38)) 38 [.slice none 0 0,.slice none 0 0];rw[←ez];simpa using this
 have ix:wa.heap.size=w.heap.size+2:=by rw[←ez];simp
 have o7:=hy' ez;have ke:=hy' lm;have gy:=hy' aj;have gh:=hy' ap;have o2:=hy' ix
 have gi:Hy (∀W,Below w.heap.size w W→Calls prog 102 #[.agg #[.slice A n c,.slice XA xn xc]] W fun e w'=>∃v,e=.returned v∧zRR w' v W.heap.size T E∧Below W.heap.size W w'):=hy' fun W hW=>by
  rw[←hT,←hE];exact zQC A XA n c xn xc T0 E0 W hn hxn hnb hxb (fun r hr=>(hbd r hr).2.2.1) (h2.below hW) (hX.below hW hW.size)
 have o6:=hy' k6;have mm:=hy' mb;have pj:=hy' my;have o3:=hy' lb;have z0:=aj.cell 0 rfl;have z1:=aj.cell 1 rfl;have j2:=aj.lt;clear hT hE ez lm aj ap ix k6 mb my lb hn hxn hnb hxb hbd h2 hX;go_enter func66,ntmps66;go_upto_region 1 with (fail)
 rw[o7.o];go_wp2_with fail;refine (gi.o wa ke.o).mono ?_;rintro e w2 ⟨v2,rfl,nx,dc⟩;obtain⟨A2,c2,XA2,xc2,ads,rfl,⟨ef,cz⟩,cf,dk,mid,fu,e6,la,b7⟩:=nx;obtain⟨n2,ie⟩:∃k,T.length=k:=⟨_,rfl⟩;obtain⟨xn2,cu⟩:∃k,E.length=k:=⟨_,rfl⟩;rw[ie]at ef cf;rw[cu]at b7;rw[ie,cu];unfold zB8;have aj:=gy.o.below dc;have ap:=gh.o.below dc;have y0:=aj.cell 0 rfl;have y1:=aj.cell 1 rfl;have y2:=aj.frozen 0;have y3:=aj.frozen 1;have pg:=aj.lt;have ix:=o2.o;have e1:=(aj.set 0 (.slice A2 n2 c2)).set 1 (.slice XA2 xn2 xc2);have j1:=(ap.other (b':=w.heap.size) (i:=0) (by omega) (.slice A2 n2 c2)).other (b':=w.heap.size) (i:=1) (by omega) (.slice XA2 xn2 xc2);have j4:=Rw.own_grown (Rw.own_grown cf (by omega) (Rw.grown_set w.heap.size 0 (.slice A2 n2 c2))) (by omega) (Rw.grown_set w.heap.size 1 (.slice XA2 xn2 xc2));have jb:=Rw.own_grown (Rw.own_grown b7 (by omega) (Rw.grown_set w.heap.size 0 (.slice A2 n2 c2))) (by omega) (Rw.grown_set w.heap.size 1 (.slice XA2 xn2 xc2));have kx:=(dk.grown (Rw.grown_set w.heap.size 0 (.slice A2 n2 c2)) (by intro q hq;cases hq;exact aj.not (by decide))).grown (Rw.grown_set w.heap.size 1 (.slice XA2 xn2 xc2)) (by intro q hq;cases hq;exact (aj.set 0 (.slice A2 n2 c2)).not (by decide))
 have ea:Below w.heap.size w ((w2.setCell ⟨w.heap.size,0,none⟩ (.slice A2 n2 c2)).setCell ⟨w.heap.size,1,none⟩ (.slice XA2 xn2 xc2)) :=
  ((ke.o.trans (dc.mono ke.o.size)).setCell (p:=⟨w.heap.size,0,none⟩) (Za _) _).setCell (p:=⟨w.heap.size,1,none⟩) (Za _) _
 have lg:((w2.setCell ⟨w.heap.size,0,none⟩ (.slice A2 n2 c2)).setCell ⟨w.heap.size,1,none⟩ (.slice XA2 xn2 xc2)).heap.size=w2.heap.size:=by rw[ZP,ZP]
 obtain⟨w3,i6⟩:∃w3,(w2.setCell ⟨w.heap.size,0,none⟩ (.slice A2 n2 c2)).setCell ⟨w.heap.size,1,none⟩ (.slice XA2 xn2 xc2)=w3:=⟨_,rfl⟩;rw[i6]at e1 j1 j4 jb kx ea lg;have mn:=hy' i6;have x0:=e1.cell 0 rfl;have x1:=e1.cell 1 rfl;have o1:=e1.lt;have ni:=dc.size;have bb:Below w3.heap.size w3 (w3.alloc (.cells #[.slice none 0 0,.slice XA2 xn2 xc2] 38)):=(Zd _ _).alloc (Za _) _;have aa:=Rw.At.new w3 38 [.slice none 0 0,.slice XA2 xn2 xc2];obtain⟨w4,gq⟩:∃w4,w3.alloc (.cells #[.slice none 0 0,.slice XA2 xn2 xc2] 38)=w4:=⟨_,rfl⟩;have aa:Rw.At w4 w3.heap.size 38 [.slice none 0 0,.slice XA2 xn2 xc2]:=by rw[←gq];exact aa
 rw[gq]at bb;have lx:w4.heap.size=w3.heap.size+1:=by rw[←gq];simp
 have ng:=hy' gq;have dw:=e1.below bb;have t0:=dw.cell 0 rfl;have pu:=dw.lt;have ov:=hy' (j1.below bb);have ob:=hy' aa;have oo:=hy' (zA6 j4 bb (Za _));have oz:=hy' (zA6 jb bb (Za _));have nv:=hy' (kx.below bb);have o5:=hy' (ea.trans (bb.mono ea.size));have fo:=hy' ef;have gm:=hy' cz;have iv:=hy' ie;have ma:=hy' cu;have kh:=hy' la;have kn:Hy (wa.heap.size=w.heap.size+2∧w.heap.size+2≤mid∧mid≤w3.heap.size∧w4.heap.size=w3.heap.size+1):=hy' ⟨by omega,by omega,by omega,lx⟩;clear ef cz cf dk b7 la aj ap e1 j1 j4 jb kx ea lg i6 bb aa gq lx dw ie cu fu e6 dc ix ni z0 z1 gi;go_upto_region 2 with (fail)
 rw[mn.o];clear y0 y1 y2 y3;go_upto_region 3 with (fail)
 rw[ng.o];clear x0 x1;have df:Md.chk [] (Md.xs E)=0:=rfl;have gp:=hy' df;clear df j2 pg o1 gy gh mn ng;go_wp2_with fail;clear t0;go_loopw [19] (fun i wr=>∃(k:Nat) (To:List Rw.Row) (adso:List (Option Addr × Nat)) (vo:Value),k≤n2∧i=.int .i64 k∧Md.RI (w.heap.size+1) w3.heap.size wa.heap.size mid w4.heap.size A2 n2 c2 XA2 xn2 xc2 T ads E k wr To adso vo∧Below w.heap.size w wr∧w4.heap.size≤wr.heap.size) (fun i _=>n2-(intOf i).toNat)
 case atStart=>exact⟨0,[],[],.slice none 0 0,Zq _,rfl,⟨ov.o,ob.o,oo.o,fun j r a _ h1 h2=>nv.o j r a h1 h2,oz.o,⟨rfl,fun i r a h=>absurd h (by simp)⟩,ZG _ _ _ _,fun i r a h=>absurd h (by simp),fun r hr=>absurd hr (by simp),fun a ha=>absurd ha (by simp),gp.o,Zq _⟩,o5.o,Za _⟩
 obtain⟨k,To,adso,vo,hk,rfl,cw,ei,pw⟩:=hrel;have ko:=hy' cw;have jr:n2≤20:=by rw[←iv.o];exact o6.o
 have ch:=hy' ei
 by_cases hlt:k<n2
 rotate_left
 · obtain rfl:n2=k:=by omega
   obtain⟨wz,rfl⟩:∃wz:World,wz=wr:=⟨_,rfl⟩;obtain⟨Ao,co,rfl⟩:=zA3 cw.out;obtain⟨on,er⟩:∃on,To.length=on:=⟨_,rfl⟩;have aa:=cw.a3;have ap:=cw.a2;rw[er]at aa;have pp:=kn.o;have y0:=aa.cell 0 rfl;have y1:=aa.cell 1 rfl;have x0:=ap.cell 0 rfl;have x1:=ap.cell 1 rfl;have f0:=ap.frozen 0;have f1:=ap.frozen 1;have p6:=ap.lt;have mv:=aa.lt;have bp:=hy' er;have c8:=hy' ap;clear ap aa er cw ei hlt hk;go_wp2_with fail;have k1:=c8.o.set 0 (.slice Ao on co);have k2:=k1.set 1 (.slice XA2 xn2 xc2);have b3:=ko.o;rw[bp.o]at b3;have fj:∀q,some (w.heap.size+1)=some q→∀cs z,wz.heap[q]?≠some (.cells cs 3 z):=fun q hq=>by cases hq;exact c8.o.not (by decide)
   have gw:∀q,some (w.heap.size+1)=some q→∀cs z,(wz.setCell ⟨w.heap.size+1,0,none⟩ (.slice Ao on co)).heap[q]?≠some (.cells cs 3 z):=fun q hq=>by cases hq;exact k1.not (by decide)
   have ho:=Rw.own_grown (Rw.own_grown b3.out (by omega) (Rw.grown_set (w.heap.size+1) 0 (.slice Ao on co))) (by omega) (Rw.grown_set (w.heap.size+1) 1 (.slice XA2 xn2 xc2));have hx:=Rw.own_grown (Rw.own_grown b3.excl (by omega) (Rw.grown_set (w.heap.size+1) 0 (.slice Ao on co))) (by omega) (Rw.grown_set (w.heap.size+1) 1 (.slice XA2 xn2 xc2));have hm:=(b3.mo.grown (Rw.grown_set (w.heap.size+1) 0 (.slice Ao on co)) fj).grown (Rw.grown_set (w.heap.size+1) 1 (.slice XA2 xn2 xc2)) gw;refine YD (zJo rfl _ _ (w.heap.size+1) _ _ _ _ rfl k2 underlying38 rfl (by kernel_rfl)) rfl ⟨_,To,E,rfl,⟨Ao,co,XA2,xc2,?_,zJi b3.lens.1 ?_ hm,Sl.of_own hx⟩,?_,Zh b3.len jr,mm.o,b3.rok,pj.o,b3.chk,?_⟩
   · rw[bp.o,ma.o];rfl
   · rw[bp.o]at ho;exact Slt.of_own ho
   · intro A' n' c' A7 n7 c7 he;simp only[XO,Ql,Z7,ZX,Yl]at he;obtain⟨⟨rfl,rfl,rfl⟩,rfl,rfl,rfl⟩:=he;rw[bp.o]at ho;exact⟨zFK ho,zFK hx⟩
   exact (ch.o.setCell (p:=⟨w.heap.size+1,0,none⟩) (ZZ _) _).setCell (p:=⟨w.heap.size+1,1,none⟩) (ZZ _) _
 obtain⟨r,hr⟩:∃r,T[k]?=some r:=⟨_,Zb (by rw[iv.o];exact hlt)⟩;obtain⟨a,ha⟩:∃a,ads[k]?=some a:=⟨_,Zb (by rw[fo.o];exact hlt)⟩;have fg:(zBr T ads).length=n2*3:=by rw[zCQ _ _ (by rw[fo.o,iv.o]),iv.o]
 obtain⟨b,o,rfl,hb,bq⟩:=(Sl.of_own cw.rows) (by rw[fg];omega);obtain⟨g0,g1,g2⟩:=zFt T ads k r a hr ha;have c0:=bq (k*3) (by rw[fg];omega);have c1:=bq (k*3+1) (by rw[fg];omega);have ib:=bq (k*3+2) (by rw[fg];omega);rw[g0]at c0;rw[g1,←Yi]at c1;rw[g2,←Yi]at ib;have gg:=o3.o r (Zj hr);have eb:=cw.maps k r a (Za _) hr ha;have dh:=gm.o k r a hr ha;obtain⟨rc,rk,rm⟩:=r;obtain⟨aA,ac⟩:=a;dsimp only at c0 c1 ib gg eb dh;obtain⟨ml,kv⟩:∃ml,rm.length=ml:=⟨_,rfl⟩;rw[kv]at ib gg dh;have e0:=hy' kv;have HR:=hy' hr;have HA:=hy' ha;have p8:(k:Int)<n2:=by omega
 have qe:(0:Int)≤k:=by omega
 have bb:Below wr.heap.size wr (wr.alloc (.cells #[.int .i64 rc,.int .i64 rk,.slice aA ml ac] 73)):=(Zd _ _).alloc (Za _) _;have ak:=Rw.At.new wr 73 [.int .i64 rc,.int .i64 rk,.slice aA ml ac];obtain⟨w5,ik⟩:∃w5,wr.alloc (.cells #[.int .i64 rc,.int .i64 rk,.slice aA ml ac] 73)=w5:=⟨_,rfl⟩;have ao:Rw.At w5 wr.heap.size 73 [.int .i64 rc,.int .i64 rk,.slice aA ml ac]:=by rw[←ik];exact ak
 rw[ik]at bb;have li:=hy' ik;have o9:=hy' bb;have jo:=hy' ao;have kf:=hy' eb;have q0:=ao.cell 0 rfl;have q1:=ao.cell 1 rfl;have q2:=ao.cell 2 rfl;have f0:=ao.frozen 0;have f1:=ao.frozen 1;have f2:=ao.frozen 2;have ol:=ao.lt;have k8:=zLL rc;have hK:=Ch.char_any rc w5;obtain⟨kc,kl⟩:∃kc,zId rc=kc:=⟨_,rfl⟩;rw[kl]at hK k8;have HK:=hy' hK;have pv:=hy' kl;have ek:IntKind.i64.wrap kc=kc:=by rw[Ya];omega
 have oc:=Md.and_8 rk;obtain⟨cl,ld⟩:∃cl,rk%256%255=cl:=⟨_,rfl⟩;have j8:0≤cl∧cl≤254:=by omega
 have jh:(rk%256).tmod 255=cl:=by rw[QR (by omega)];exact ld
 have kg:IntKind.i64.wrap cl=cl:=by rw[Ya];omega
 clear cw ei fg bq g0 g1 g2 eb kv hr ha bb ak ao ik hK kl hb ld;go_upto_region 6 with (fail)
 rw[li.o];clear c0 c1 ib;go_wp2_with fail;refine HK.o.mono ?_;rintro e w6 ⟨rfl,rfl⟩;go_upto_region 8 with (fail)
 obtain⟨w8,il⟩:∃w8,(w5.setCell ⟨wr.heap.size,0,none⟩ (.int .i64 kc)).setCell ⟨wr.heap.size,1,none⟩ (.int .i64 cl)=w8:=⟨_,rfl⟩;have b8:Rw.At w8 wr.heap.size 73 [.int .i64 kc,.int .i64 cl,.slice aA ml ac]:=by rw[←il];exact (jo.o.set 0 (.int .i64 kc)).set 1 (.int .i64 cl)
 have lq:Below wr.heap.size wr w8:=by rw[←il];exact (o9.o.setCell (p:=⟨wr.heap.size,0,none⟩) (Za _) _).setCell (p:=⟨wr.heap.size,1,none⟩) (Za _) _
 rw[il];have hh:=hy' b8;have nc:=hy' lq;have q2:=b8.cell 2 rfl;have f2:=b8.frozen 2;have nz:=b8.lt;clear b8 lq il q0 q1 f0 f1 ol ek oc jh kg li;go_upto_if 36 with (fail)
 go_cut [] (fun wx=>Rw.At wx wr.heap.size 73 [.int .i64 kc,.int .i64 cl,.slice aA (min ml 2) ac]∧Below wr.heap.size wr wx)
 case first =>
  by_cases h2:2<ml
  · have ot:(2:Int)<ml:=by omega
    have pr:(2:Int)≤ac:=by omega
    have cc:min ml 2=2:=by omega
    have ec:=hy' cc;clear cc;go_wp2_with fail;go_meet;rw[ec.o];exact⟨hh.o.set 2 _,nc.o.setCell (p:=⟨wr.heap.size,2,none⟩) (Za _) _⟩
  have ot:¬(2:Int)<ml:=by omega
  have cc:min ml 2=ml:=by omega
  have ec:=hy' cc;clear cc;go_wp2_with fail;go_meet;rw[ec.o];exact⟨hh.o,nc.o⟩
 obtain⟨bw,im⟩:=hcut;obtain⟨wx,rfl⟩:∃wx:World,wx=wc:=⟨_,rfl⟩;obtain⟨m2,kt⟩:∃m2,min ml 2=m2:=⟨_,rfl⟩;rw[kt]at bw;have km:m2≤2:=by omega
 have ou:m2≤ml:=by omega
 have qf:=hy' kt;have jv:=hy' bw;have j6:=hy' im;have eu:=kf.o.below im;have jc:=hy' eu;have o0:=hy' (ko.o.below im)
 obtain⟨row,dm,cv,dn⟩:∃row:Option Nat,(m2=0→row=none)∧(∀p,row=some p→(∃cs z,wx.heap[p]?=some (.cells cs 3 z))∧∃q,aA=some q∧q.block=p)∧(0<m2→∃bk ok,aA=some ⟨bk,ok,none⟩∧row=some bk):=by
  by_cases h0:m2=0
  · exact⟨none,fun _=>rfl,fun p hp=>absurd hp (by simp),fun h=>absurd h (by omega)⟩
  obtain⟨bk,ok,cs,hA,hc,_⟩:=eu (by rw[Ze,e0.o];omega);refine⟨some bk,fun h=>absurd h h0,fun p hp=>?_,fun _=>⟨bk,ok,hA,rfl⟩⟩;cases hp
  exact⟨⟨cs,_,hc⟩,_,hA,rfl⟩
 have lc:=hy' dm;have dv:=hy' cv;have hl:=hy' dn;have x2:=bw.cell 2 rfl;have py:=bw.lt;clear bw im eu kt dm cv dn q2 f2 nz;go_wp2_with fail;clear x2;go_loopw [44] (fun i wq=>∃q:Nat,q≤m2∧i=.int .i64 q∧Rw.At wq wr.heap.size 73 [.int .i64 kc,.int .i64 cl,.slice aA m2 ac]∧Slt wq 3 aA (((rm.take q).map zId++rm.drop q).map (Value.int .i64))∧wx.grownBy wq row) (fun i _=>m2-(intOf i).toNat)
 case atStart=>exact⟨0,Nat.zero_le _,rfl,jv.o,by simpa using jc.o,zAo (Below.refl _ _)⟩
 obtain⟨q,hq,rfl,bj,bi,e5⟩:=hrel;obtain⟨wq,rfl⟩:∃wq:World,wq=wr:=⟨_,rfl⟩;have cp:=hy' bj;have ku:=hy' bi;have n9:=hy' e5;have q2:=bj.cell 2 rfl;have pz:=bj.lt
 by_cases hltq:q<m2
 · obtain⟨y,hy⟩:∃y,rm[q]?=some y:=⟨_,Zb (by rw[e0.o];omega)⟩;obtain⟨bk,ok,hA,k4⟩:=hl.o (by omega);subst hA
   have hlen:(((rm.take q).map zId++rm.drop q).map (Value.int .i64)).length=ml:=by
    rw[Ze,Zc,Ze,Zn,ZH,e0.o];omega
   obtain⟨b',o',h4,nb,bq⟩:=bi.sl (by rw[hlen];omega);simp only[Zg,YH]at h4;obtain⟨rfl,rfl,_⟩:=h4;have cy:=bq q (by rw[hlen];omega);rw[zOY zId hy]at cy;have fy:=bi.frozen (by rw[hlen];omega) (ok+q);have kq:=bi.set (i:=q) (by rw[hlen];omega) (.int .i64 (zId y));rw[zOZ zId hy]at kq;have k9:=hy' kq;obtain⟨ky,jw⟩:∃ky,zId y=ky:=⟨_,rfl⟩;have lh:=zLL y;rw[jw]at lh k9;have om:Hy (∀W,Calls prog 34 #[.int .i64 y] W fun e w'=>e=.returned (.int .i32 ky)∧W=w'):=hy' fun W=>by rw[←jw];exact Ch.char_any y W
   have pq:IntKind.i64.wrap ky=ky:=by rw[Ya];omega
   have qd:(q:Int)<m2:=by omega
   have p7:(0:Int)≤q:=by omega
   have px:q<m2:=hltq;have od:=hy' k4;clear bj bi e5 hy hlen bq kq jw lh k4
   have hne:wr.heap.size≠bk:=fun e=>by
    obtain⟨b',o',cs,h4,nb,_⟩:=ku.o (by rw[Ze,Zc,Ze,Zn,ZH,e0.o];omega);simp only[Zg,YH]at h4;obtain⟨rfl,rfl,_⟩:=h4;subst e;exact cp.o.not (by decide) _ _ nb
   have mh:=zA0 n9.o (by rw[od.o];exact Rw.grown_set bk (ok+q) (.int .i64 ky));have aa:=cp.o.other (i:=ok+q) hne (.int .i64 ky);have pc:=hy' (Md.grown_drew mh);have j7:=hy' aa;clear hne mh aa;go_upto_region 13 with (fail)
   go_region_law
    (first
      | (refine zKL _ (by rfl) 34 _ _ (by rfl) (C.enter func34 (by kernel_rfl) rfl) (.int .i64 y) (by rfl) _ (om.out _) ?_)
      | fail)
   all_goals go_wp2_with fail
   all_goals exact⟨⟨q+1,by omega,by go_num,j7.o,k9.o,pc.o⟩,by simp[intOf];omega⟩
 obtain rfl:m2=q:=by omega
 have b1:=o0.o.grown e5 HA.o kh.o dv.o
 have mf:Below w.heap.size w wq:=(ch.o.trans (j6.o.mono ch.o.size)).trans (zAj e5 (Zh ch.o.size j6.o.size) fun p hp=>by
  obtain⟨_,y,hy,qg⟩:=dv.o p hp;have h1:=(kh.o.2 (aA,ac) (Zj HA.o) y hy).1;have h2:=kn.o;omega)
 have jt:w4.heap.size≤wq.heap.size:=by
  have h1:=j6.o.size;have h2:=e5.size;omega
 have h6:=bi.take m2;rw[←List.map_take,Yp (by rw[Ze,Zn,e0.o];omega),Zi (by rw[Ze,Zn];omega)]at h6;have b2:((rm.take m2).map zId).length=m2:=by rw[Ze,Zn,e0.o];omega
 have eh:∀c∈(rm.take m2).map zId,-2147483648≤c∧c≤2147483647:=fun c hc=>by
  obtain⟨y,_,rfl⟩:=List.mem_map.1 hc;exact zLL y
 obtain⟨mp,mj⟩:∃mp,(rm.take m2).map zId=mp:=⟨_,rfl⟩;rw[mj]at h6 b2 eh;have bg:=hy' b1;have fc:=hy' mf;have nh:=hy' h6;have au:=hy' b2;have ks:=hy' eh;have z1:=bj.cell 1 rfl;have z2:=bj.cell 2 rfl;clear b1 mf h6 b2 eh mj bj bi e5 q2 hltq;obtain⟨gb,mg⟩:∃gb,decide (cl=0∧m2=0)=gb:=⟨_,rfl⟩;have i1:=hy' mg;clear mg;go_upto_region 15 with (fail)
 go_cut [67] (fun s wx=>s=.bool gb∧wx=wq)
 case first =>
  rcases h1:(cl == 0) with _|_
  · have bs:gb=false:=by
     rw[←i1.o];have a1:¬cl=0:=by simpa using h1
     simp[a1]
    subst bs;go_wp2_with fail;go_meet;exact⟨rfl,rfl⟩
  rcases h2:((m2:Int) == 0) with _|_
  · have bs:gb=false:=by
     rw[←i1.o];have a1:¬(m2:Int)=0:=by simpa using h2
     have a2:¬m2=0:=by omega
     simp[a2]
    subst bs;go_wp2_with fail;go_meet;exact⟨rfl,rfl⟩
  have bs:gb=true:=by
   rw[←i1.o];have a1:cl=0:=by simpa using h1
   have a2:(m2:Int)=0:=by simpa using h2
   have a3:m2=0:=by omega
   simp[a1,a3]
  subst bs;go_wp2_with fail;go_meet;exact⟨rfl,rfl⟩
 obtain⟨rfl,rfl⟩:=hcut;obtain⟨wq,rfl⟩:∃wq:World,wq=wc:=⟨_,rfl⟩;rcases gb with _|_
 rotate_left
 · go_wp2_with fail;have e9:k+1≤n2:=hlt;refine⟨⟨k+1,To,adso,vo,e9,?_,bg.o,fc.o,jt⟩,?_⟩
   · go_num
   simp[intOf];omega
 obtain⟨Ao,co,rfl⟩:=zA3 bg.o.out;obtain⟨on,er⟩:∃on,To.length=on:=⟨_,rfl⟩;have b3:=bg.o;have aa:=b3.a3;rw[er]at aa;have y1:=aa.cell 1 rfl;have mv:=aa.lt;have bb:Below wq.heap.size wq (wq.alloc (.cells #[.slice none 0 0,.slice XA2 xn2 xc2] 38)):=(Zd _ _).alloc (Za _) _;have e7:=Rw.At.new wq 38 [.slice none 0 0,.slice XA2 xn2 xc2];obtain⟨wn,h8⟩:∃wn,wq.alloc (.cells #[.slice none 0 0,.slice XA2 xn2 xc2] 38)=wn:=⟨_,rfl⟩;have dl:Rw.At wn wq.heap.size 38 [.slice none 0 0,.slice XA2 xn2 xc2]:=by rw[←h8];exact e7
 rw[h8]at bb
 have cx:Md.rok (kc,cl,mp):=by
  refine⟨k8,j8,by show mp.length≤2;rw[au.o];exact km,ks.o,fun h0 oy=>?_⟩;have h1:decide (cl=0∧m2=0)=false:=i1.o;rw[Z2]at h1;apply h1
  refine⟨h0,?_⟩;have:=au.o;rw[show mp=[] from oy]at this;simpa using this.symm
 have dp:zGV [(aA,ac)] (ads.drop (k+1)):=fun x hx p hp y hy q hq=>by
  rw[ZE]at hx;subst hx;obtain⟨l1,l2⟩:=List.getElem?_eq_some_iff.1 HA.o;obtain⟨j,hj,k3⟩:=Xz hy;rw[List.getElem_drop]at k3;rw[ZH]at hj;have:=List.pairwise_iff_getElem.1 kh.o.1 k (k+1+j) l1 (by omega) (by omega) p q (by rw[l2];exact hp) (by rw[k3];exact hq);omega
 have gz:=hy' cx;have du:=hy' dp;have bp:=hy' er;have oh:=hy' h8;have h5:=hy' bb;have kj:Hy (Md.NX wq.heap.size (.slice XA2 xn2 xc2) (ads.drop (k+1)) wn [] [] (.slice none 0 0)):=hy' ⟨dl,⟨rfl,fun i r a h=>absurd h (by simp)⟩,ZG _ _ _ _,fun i r a h=>absurd h (by simp),fun r hr=>absurd hr (by simp),fun a ha=>absurd ha (by simp)⟩;have n8:=bb.size;clear b3 aa er bb e7 dl h8 cx dp z1 z2;go_upto_region 17 with (fail)
 rw[oh.o];clear y1;have aa:=(bg.o.below h5.o).a3;rw[bp.o]at aa;have y0:=aa.cell 0 rfl;have mv:=aa.lt;clear aa;go_wp2_with fail;clear y0;have nl:on≤20:=by have h1:=bg.o.len;rw[bp.o]at h1;omega
 go_loopw [8,74] (fun v8 i ws=>∃(j:Nat) (d:Bool) (N:List Rw.Row) (nads:List (Option Addr × Nat)) (vn:Value),j≤on∧i=.int .i64 j∧v8=.bool d∧Md.NX wq.heap.size (.slice XA2 xn2 xc2) (ads.drop (k+1)) ws N nads vn∧N.length≤j+(if d=true then 1 else 0)∧Below wq.heap.size wq ws) (fun _ i _=>on-(intOf i).toNat)
 case atStart=>exact⟨0,false,[],[],.slice none 0 0,Zq _,rfl,rfl,kj.o,Zq _,h5.o⟩
 obtain⟨j,d,N,nads,vn,hj,rfl,rfl,gu,ih,dr⟩:=hrel;obtain⟨ws,rfl⟩:∃ws:World,ws=wr:=⟨_,rfl⟩;have ew:=hy' gu;have ir:=hy' ih;have js:=hy' dr
 by_cases hltj:j<on
 · have ba:=bg.o.below dr;obtain⟨q,hq⟩:∃q,To[j]?=some q:=⟨_,Zb (by rw[bp.o];exact hltj)⟩;obtain⟨qa,hg⟩:∃qa,adso[j]?=some qa:=⟨_,Zb (by rw[ba.lens.1,bp.o];exact hltj)⟩;have b9:=ba.out;have cd:(zBr To adso).length=on*3:=by rw[zCQ _ _ ba.lens.1,bp.o]
   rw[bp.o]at b9;obtain⟨b4,o4,rfl,i7,bq⟩:=(Sl.of_own b9) (by rw[cd];omega);obtain⟨g0,g1,g2⟩:=zFt To adso j q qa hq hg;have c0:=bq (j*3) (by rw[cd];omega);have c1:=bq (j*3+1) (by rw[cd];omega);have c2:=bq (j*3+2) (by rw[cd];omega);rw[g0]at c0;rw[g1,←Yi]at c1;rw[g2,←Yi]at c2;have kr:=ba.mo j q qa hq hg;have ia:=ba.lens.2 j q qa hq hg;have jz:=ba.rok q (Zj hq)
   have lf:zGV [qa] (ads.drop (k+1)):=fun x hx p hp y hy z hz=>by
    rw[ZE]at hx;subst hx;exact ba.und x (Zj hg) p hp y hy z hz
   obtain⟨qc,qk,qm⟩:=q;obtain⟨qA,ae⟩:=qa;dsimp only at c0 c1 c2 kr ia;obtain⟨ql,jl⟩:∃ql,qm.length=ql:=⟨_,rfl⟩;rw[jl]at c2 ia;have pd:=jz.1;dsimp only at pd;have iq:=hy' jl;have lp:=hy' jz;have ll:=hy' lf;have p9:(j:Int)<on:=by omega
   have n5:(0:Int)≤j:=by omega
   have fp:Below ws.heap.size ws (ws.alloc (.cells #[.int .i64 qc,.int .i64 qk,.slice qA ql ae] 73)):=(Zd _ _).alloc (Za _) _;have fx:=Rw.At.new ws 73 [.int .i64 qc,.int .i64 qk,.slice qA ql ae];obtain⟨wv,iw⟩:∃wv,ws.alloc (.cells #[.int .i64 qc,.int .i64 qk,.slice qA ql ae] 73)=wv:=⟨_,rfl⟩;have av:Rw.At wv ws.heap.size 73 [.int .i64 qc,.int .i64 qk,.slice qA ql ae]:=by rw[←iw];exact fx
   rw[iw]at fp;have cg:=dr.trans (fp.mono dr.size);have oq:=hy' iw;have jm:=hy' av;have ly:=hy' (kr.below fp);have kb:=hy' (nh.o.below cg);have bf:=hy' (gu.below fp);have cr:=hy' cg;have ak:=cp.o.below cg;have l8:=hy' ak;have r0:=ak.cell 0 rfl;have r1:=ak.cell 1 rfl;have r2:=ak.cell 2 rfl;have rl:=ak.lt;have p0:=av.cell 0 rfl;have p1:=av.cell 1 rfl;have p2:=av.cell 2 rfl;have pl:=av.lt;have gf:Hy (∀q,vn.ownBlock=some q→q<ws.heap.size):=hy' fun q hq=>(gu.own.lt q hq).2
   have fw:N.length≤30:=by have:=ih;split at this <;> omega
   clear ba hq hg b9 cd bq g0 g1 g2 kr jz lf jl fp fx av iw cg ak gu dr;obtain⟨e8,gx⟩:∃g,(!d&&decide (kc<qc))=g:=⟨_,rfl⟩;have ct:=hy' gx;clear gx;go_upto_region 21 with (fail)
   rw[oq.o];clear c0 c1 c2;go_cut [86] (fun s wx=>s=.bool e8∧wx=wv)
   case first =>
    cases d
    · by_cases hkq:kc<qc
      · have bs:e8=true:=by rw[←ct.o];simp[hkq]
        subst bs;go_wp2_with fail;go_meet;exact⟨rfl,rfl⟩
      have bs:e8=false:=by rw[←ct.o];simp[hkq]
      subst bs;go_wp2_with fail;go_meet;exact⟨rfl,rfl⟩
    have bs:e8=false:=by rw[←ct.o];rfl
    subst bs;go_wp2_with fail;go_meet;exact⟨rfl,rfl⟩
   obtain⟨rfl,rfl⟩:=hcut;obtain⟨wv,rfl⟩:∃wv:World,wv=wc:=⟨_,rfl⟩;rcases e8 with _|_
   · obtain⟨po,nr,rfl⟩:=zA3 bf.o.own;obtain⟨iu,ep⟩:∃nn,N.length=nn:=⟨_,rfl⟩;have bh:=bf.o.tab;have az:=bf.o.own.alloc (.cells #[.int .i64 qc,.int .i64 qk,.slice qA ql ae] 73);rw[ep]at bh az;have qb:=bh.cell 0 rfl;have p5:=bh.lt;have fh:wq.heap.size+1≤(wv.alloc (.cells #[.int .i64 qc,.int .i64 qk,.slice qA ql ae] 73)).heap.size:=by simp;omega
     have h3:=hy' (Sl.lit (w:=wv.alloc (.cells #[.int .i64 qc,.int .i64 qk,.slice qA ql ae] 73)) (A:=some ⟨wv.heap.size,0,none⟩) (xs:=[.int .i64 qc,.int .i64 qk,.slice qA ql ae]) rfl 73 (0,0) (ZW wv _));have kk:=hy' (zBq az wq.heap.size (ZM _));have eo:=hy' az;have dx:=hy' (bh.alloc (.cells #[.int .i64 qc,.int .i64 qk,.slice qA ql ae] 73));have ed:=hy' ep;have l7:iu≤40:=by omega
     clear bh az ep;go_wp2_with (first|(at_builtin;refine zAh _ rfl _ _ _ rfl (wq.heap.size+1) 73 j0 _ 3 40 underlying35 hj0 ig h9 iz rfl (by omega) (.slice po iu nr) iu _ rfl eo.o _ (some ⟨wv.heap.size,0,none⟩) 1 1 [.int .i64 qc,.int .i64 qk,.slice qA ql ae] rfl rfl h3.out (by simp[Value.oneCell']) (by simp only[maxLen];omega) (by omega) fh ?_;intro v1 oa bu ja cb;have ai:=dx.o.grown cb kk.o;have u0:=ai.cell 0 rfl;have iy:=ai.frozen 0;have h7:=ai.lt;obtain⟨ox,og,rfl⟩:=zA3 bu)|fail);have k7:=bu;rw[←iq.o,←ed.o]at k7;have dt:=bf.o.push (r:=(qc,qk,qm)) (a:=(qA,ae)) ly.o (by show _≤_;rw[iq.o];exact ia) lp.o ll.o k7 (by rw[ed.o];exact cb);rw[ed.o]at dt;have jg:Below wq.heap.size wq ((oa).setCell ⟨wq.heap.size,0,none⟩ (.slice ox (iu+1) og)):=((cr.o.alloc cr.o.size (.cells #[.int .i64 qc,.int .i64 qk,.slice qA ql ae] 73)).trans (ja.mono (ZZ _))).setCell (p:=⟨wq.heap.size,0,none⟩) (Za _) _;exact⟨⟨j+1,d,_,_,_,by omega,by go_num,rfl,dt,by simp only[Zc,Z8];have:=ir.o;omega,jg⟩,by simp[intOf];omega⟩
   have ny:d=false:=by
    have h:=ct.o;cases d
    · rfl
    exact absurd h (by simp)
   subst ny;obtain⟨jx,j9,rfl⟩:=zA3 bf.o.own;obtain⟨bo,bl⟩:∃nn,N.length=nn:=⟨_,rfl⟩;have ah:=bf.o.tab;have af:=bf.o.own.alloc (.cells #[.int .i64 kc,.int .i64 cl,.slice aA m2 ac] 73);rw[bl]at ah af;have l6:=ah.cell 0 rfl;have l4:=ah.lt;have b6:wq.heap.size+1≤(wv.alloc (.cells #[.int .i64 kc,.int .i64 cl,.slice aA m2 ac] 73)).heap.size:=by simp;omega
   have br:=hy' (Sl.lit (w:=wv.alloc (.cells #[.int .i64 kc,.int .i64 cl,.slice aA m2 ac] 73)) (A:=some ⟨wv.heap.size,0,none⟩) (xs:=[.int .i64 kc,.int .i64 cl,.slice aA m2 ac]) rfl 73 (0,0) (ZW wv _));have dy:=hy' (zBq af wq.heap.size (ZM _));have a6:=hy' af;have bm:=hy' (ah.alloc (.cells #[.int .i64 kc,.int .i64 cl,.slice aA m2 ac] 73));have bc:=hy' bl;have gv:bo≤40:=by omega
   clear ah af bl;go_upto_region 24 with (first|(at_builtin;refine zAh _ rfl _ _ _ rfl (wq.heap.size+1) 73 j0 _ 3 40 underlying35 hj0 ig h9 iz rfl (by omega) (.slice jx bo j9) bo _ rfl a6.o _ (some ⟨wv.heap.size,0,none⟩) 1 1 [.int .i64 kc,.int .i64 cl,.slice aA m2 ac] rfl rfl br.out (by simp[Value.oneCell']) (by simp only[maxLen];omega) (by omega) b6 ?_;intro v1 kp aq cj ag;have ai:=bm.o.grown ag dy.o;have u0:=ai.cell 0 rfl;have iy:=ai.frozen 0;have h7:=ai.lt;obtain⟨e3,e2,rfl⟩:=zA3 aq)|fail)
   have e4:=aq;rw[←au.o,←bc.o]at e4;have ar:=bf.o.push (r:=(kc,cl,mp)) (a:=(aA,ac)) kb.o (by show _≤_;rw[au.o];exact (by omega)) gz.o du.o e4 (by rw[bc.o];exact ag);rw[bc.o]at ar;have ka:Below wq.heap.size wq (kp.setCell ⟨wq.heap.size,0,none⟩ (.slice e3 (bo+1) e2)):=((cr.o.alloc cr.o.size (.cells #[.int .i64 kc,.int .i64 cl,.slice aA m2 ac] 73)).trans (cj.mono (ZZ _))).setCell (p:=⟨wq.heap.size,0,none⟩) (Za _) _;have ax:=((jm.o.alloc (.cells #[.int .i64 kc,.int .i64 cl,.slice aA m2 ac] 73)).grown ag (fun e=>JU _ (gf.o _ (by rw[bc.o];exact e)))).other (b':=wq.heap.size) (i:=0) (by have:=js.o.size;have:=ew.o.tab.lt;omega) (.slice e3 (bo+1) e2);have en:=(((ly.o.below ((Zd _ _).alloc (Za _) (.cells #[.int .i64 kc,.int .i64 cl,.slice aA m2 ac] 73))).grown ag (zAE a6.o (by decide))).grown (Rw.grown_set wq.heap.size 0 (.slice e3 (bo+1) e2)) (by intro q hq;cases hq;exact ai.not (by decide)));obtain⟨wy,kw⟩:∃wy,kp.setCell ⟨wq.heap.size,0,none⟩ (.slice e3 (bo+1) e2)=wy:=⟨_,rfl⟩;rw[kw]at ar ka ax en;obtain⟨vy,l9⟩:∃v,Value.slice e3 (bo+1) e2=v:=⟨_,rfl⟩;rw[l9]at ar;clear l9;rw[kw];have cq:=hy' ar;have lr:=hy' ka;have ju:=hy' en;have p0:=ax.cell 0 rfl;have p1:=ax.cell 1 rfl;have p2:=ax.cell 2 rfl;have pl:=ax.lt;clear ar ka ax en kw e4 aq cj ag ai u0 iy h7 r0 r1 r2 rl l6 l4;obtain⟨nj,pn,rfl⟩:=zA3 cq.o.own;obtain⟨ic,cm⟩:∃nn,(N++[(kc,cl,mp)]).length=nn:=⟨_,rfl⟩;have a8:=cq.o.tab;have a7:=cq.o.own.alloc (.cells #[.int .i64 qc,.int .i64 qk,.slice qA ql ae] 73);rw[cm]at a8 a7;have p3:=a8.cell 0 rfl;have p4:=a8.lt;have fk:wq.heap.size+1≤(wy.alloc (.cells #[.int .i64 qc,.int .i64 qk,.slice qA ql ae] 73)).heap.size:=by simp;omega
   have fe:=hy' (Sl.lit (w:=wy.alloc (.cells #[.int .i64 qc,.int .i64 qk,.slice qA ql ae] 73)) (A:=some ⟨wy.heap.size,0,none⟩) (xs:=[.int .i64 qc,.int .i64 qk,.slice qA ql ae]) rfl 73 (0,0) (ZW wy _));have jn:=hy' (zBq a7 wq.heap.size (ZM _));have ej:=hy' a7;have et:=hy' (a8.alloc (.cells #[.int .i64 qc,.int .i64 qk,.slice qA ql ae] 73));have ee:=hy' cm;have lj:ic≤40:=by rw[←cm,Zc,Z8];omega
   clear a8 a7 cm;go_wp2_with (first|(at_builtin;refine zAh _ rfl _ _ _ rfl (wq.heap.size+1) 73 j0 _ 3 40 underlying35 hj0 ig h9 iz rfl (by omega) (.slice nj ic pn) ic _ rfl ej.o _ (some ⟨wy.heap.size,0,none⟩) 1 1 [.int .i64 qc,.int .i64 qk,.slice qA ql ae] rfl rfl fe.out (by simp[Value.oneCell']) (by simp only[maxLen];omega) (by omega) fk ?_;intro v1 nw bt je b5;have ai:=et.o.grown b5 jn.o;have u0:=ai.cell 0 rfl;have iy:=ai.frozen 0;have h7:=ai.lt;obtain⟨np,nu,rfl⟩:=zA3 bt)|fail);have mq:=bt;rw[←iq.o,←ee.o]at mq;have c6:=cq.o.push (r:=(qc,qk,qm)) (a:=(qA,ae)) ju.o (by show _≤_;rw[iq.o];exact ia) lp.o ll.o mq (by rw[ee.o];exact b5);rw[ee.o]at c6;have jy:Below wq.heap.size wq ((nw).setCell ⟨wq.heap.size,0,none⟩ (.slice np (ic+1) nu)):=((lr.o.alloc lr.o.size (.cells #[.int .i64 qc,.int .i64 qk,.slice qA ql ae] 73)).trans (je.mono (ZZ _))).setCell (p:=⟨wq.heap.size,0,none⟩) (Za _) _;exact⟨⟨j+1,true,_,_,_,by omega,by go_num,rfl,c6,by simp only[Zc,Z8];have h1:=ir.o;simp at h1 ⊢;omega,jy⟩,by simp[intOf];omega⟩
 obtain rfl:on=j:=by omega
 have mi:=js;have ak:=cp.o.below dr;have r0:=ak.cell 0 rfl;have r1:=ak.cell 1 rfl;have r2:=ak.cell 2 rfl;have rl:=ak.lt;have kb:=hy' (nh.o.below dr);have fw:N.length≤30:=by have:=ih;split at this <;> omega
 clear gu ih dr ak hltj;go_upto_if 101 with (fail)
 go_cut [] (fun wx=>∃(N':List Rw.Row) (bz:List (Option Addr × Nat)) (nf:Value),Md.NX wq.heap.size (.slice XA2 xn2 xc2) (ads.drop (k+1)) wx N' bz nf∧N'.length≤on+1∧Below wq.heap.size wq wx)
 case first =>
  cases d
  · have ow:N.length≤on:=by have h1:=ir.o;simpa using h1
    obtain⟨jx,j9,rfl⟩:=zA3 ew.o.own;obtain⟨bo,bl⟩:∃nn,N.length=nn:=⟨_,rfl⟩;have ah:=ew.o.tab;have af:=ew.o.own.alloc (.cells #[.int .i64 kc,.int .i64 cl,.slice aA m2 ac] 73);rw[bl]at ah af;have l6:=ah.cell 0 rfl;have l4:=ah.lt;have b6:wq.heap.size+1≤(ws.alloc (.cells #[.int .i64 kc,.int .i64 cl,.slice aA m2 ac] 73)).heap.size:=by simp;omega
    have br:=hy' (Sl.lit (w:=ws.alloc (.cells #[.int .i64 kc,.int .i64 cl,.slice aA m2 ac] 73)) (A:=some ⟨ws.heap.size,0,none⟩) (xs:=[.int .i64 kc,.int .i64 cl,.slice aA m2 ac]) rfl 73 (0,0) (ZW ws _));have dy:=hy' (zBq af wq.heap.size (ZM _));have a6:=hy' af;have bm:=hy' (ah.alloc (.cells #[.int .i64 kc,.int .i64 cl,.slice aA m2 ac] 73));have bc:=hy' bl;have gv:bo≤40:=by omega
    clear ah af bl;go_wp2_with (first|(at_builtin;refine zAh _ rfl _ _ _ rfl (wq.heap.size+1) 73 j0 _ 3 40 underlying35 hj0 ig h9 iz rfl (by omega) (.slice jx bo j9) bo _ rfl a6.o _ (some ⟨ws.heap.size,0,none⟩) 1 1 [.int .i64 kc,.int .i64 cl,.slice aA m2 ac] rfl rfl br.out (by simp[Value.oneCell']) (by simp only[maxLen];omega) (by omega) b6 ?_;intro v1 kp aq cj ag;have ai:=bm.o.grown ag dy.o;have u0:=ai.cell 0 rfl;have iy:=ai.frozen 0;have h7:=ai.lt;obtain⟨e3,e2,rfl⟩:=zA3 aq)|fail);have e4:=aq;rw[←au.o,←bc.o]at e4;have ar:=ew.o.push (r:=(kc,cl,mp)) (a:=(aA,ac)) kb.o (by show _≤_;rw[au.o];exact (by omega)) gz.o du.o e4 (by rw[bc.o];exact ag);rw[bc.o]at ar;go_meet;exact⟨_,_,_,ar,by rw[Zc,Z8];omega,(((mi.o.alloc mi.o.size (.cells #[.int .i64 kc,.int .i64 cl,.slice aA m2 ac] 73)).trans (cj.mono (ZZ _))).setCell (p:=⟨wq.heap.size,0,none⟩) (Za _) _)⟩
  go_wp2_with fail;go_meet;exact⟨N,nads,vn,ew.o,by have h1:=ir.o;simpa using h1,js.o⟩
 obtain⟨N',bz,nf,ay,jd,eg⟩:=hcut;obtain⟨lu,rfl⟩:∃w':World,w'=wc:=⟨_,rfl⟩;obtain⟨An,cn,rfl⟩:=zA3 ay.own;have na:=bg.o.below eg;have l3:=Sl.of_own na.excl;have gj:Md.Doc lu (zB8 An N'.length cn XA2 E.length xc2) N' E:=⟨An,cn,XA2,xc2,rfl,zJi ay.lens.1 (Slt.of_own ay.own) ay.mo,l3⟩;have di:=zFK ay.own;have mz:N'.length≤100000:=by omega
 have dc:E.length≤1000000:=Zh mm.o (by decide);have aw:=ay.rok;have ea:Md.bd N':=fun r hr=>⟨(aw r hr).1,(aw r hr).2.2.2.1⟩
 have i7:∀r∈N',r.2.2.length≤1000:=fun r hr=>Zh (aw r hr).2.2.1 (by decide)
 have k5:∀r∈N',-9223372036854775808≤r.2.1∧r.2.1≤9223372036854775807:=fun r hr=>⟨Yd (by decide) (aw r hr).2.1.1,Yd (aw r hr).2.1.2 (by decide)⟩
 have bn:=zM1 _ N' E lu mz dc ea i7 k5 gj (zRT di);clear l3 mz dc aw ea i7 k5;unfold zB8 at bn;rw[ma.o]at bn;obtain⟨ck,ji⟩:∃ck,Md.chk N' (Md.xs E)=ck:=⟨_,rfl⟩;rw[ji]at bn;obtain⟨nn,jf⟩:∃nn,N'.length=nn:=⟨_,rfl⟩;have bx:=ay.tab;rw[jf]at bn bx jd;have t0:=bx.cell 0 rfl;have t1:=bx.cell 1 rfl;have tl:=bx.lt;have kz:=hy' bn;have fm:=hy' ay;have dz:=hy' eg;have nk:=hy' ji;have jq:=hy' jf;clear ay eg na gj di bn ji jf bx;go_wp2_with fail;refine kz.o.mono ?_;rintro e w9 ⟨rfl,fz⟩;have ki:=(bg.o.below dz.o).below fz;have fq:=fm.o.below fz;rw[jq.o]at fq;have k0:=hy' ki;have o8:=hy' (fm.o.below fz);have ij:=hy' (dz.o.trans (fz.mono dz.o.size));have t0:=fq.tab.cell 0 rfl;have t1:=fq.tab.cell 1 rfl;have tl:=fq.tab.lt;have ey:=ki.a3;have s0:=ey.cell 0 rfl;have s1:=ey.cell 1 rfl;have g0:=ey.frozen 0;have g1:=ey.frozen 1;have gl:=ey.lt;clear ki fq fz ey
 by_cases hck0:ck=0
 · subst hck0;have ft:zBg 0=⟨#[]⟩:=rfl;rw[ft];go_wp2_with fail;have e9:k+1≤n2:=hlt;have pp:=kn.o;have j2:=ko.o.len;rw[bp.o]at j2;have b1:=Md.RI.take k0.o o8.o nk.o (by rw[jq.o];omega) (by omega) (by omega);rw[jq.o]at b1;have j3:=fc.o.trans (ij.o.mono fc.o.size);have ph:=ij.o.size;refine⟨⟨k+1,N',bz,.slice An nn cn,e9,?_,b1,?_,?_⟩,?_⟩
   · go_num
   · exact (j3.setCell (p:=⟨w3.heap.size,0,none⟩) (by show w.heap.size≤w3.heap.size;omega) _).setCell (p:=⟨w3.heap.size,1,none⟩) (by show w.heap.size≤w3.heap.size;omega) _
   · rw[ZP,ZP];omega
   simp[intOf];omega
 have j5:=zQF hck0
 have kd:¬zBg ck=⟨#[]⟩:=fun e=>by
  rw[e]at j5;revert j5;decide +kernel
 obtain⟨nt,l5⟩:∃nt,zBg ck=nt:=⟨_,rfl⟩;rw[l5]at j5 kd ⊢;clear l5 hck0;go_wp2_with fail;have e9:k+1≤n2:=hlt;have j3:=fc.o.trans (ij.o.mono fc.o.size);have ph:=ij.o.size;refine⟨⟨k+1,To,adso,_,e9,?_,k0.o,j3,by omega⟩,?_⟩
 · go_num
 simp[intOf];omega
theorem zIl {E:List Int} (h:∀c∈E,C.isC c=true):C.mem (C.chars E)=Md.xs E:=by
 funext d
 rw[(zBL _).2 d];unfold Md.xs
 by_cases hd:d∈E
 · rw[h d hd,KA]
 rw[Zp hd,Xp]
theorem Sl.setAt {w:World} {B:Nat} {A:Option Addr} {xs cs:List Value} {b:Nat} {t:TypeId} (h:Sl w B A xs) (aa:Rw.At w b t cs) (hd:∀x,xs[0]?=some x→x∉cs) (i:Nat) (v:Value):Sl (w.setCell ⟨b,i,none⟩ v) B A xs:=by
 intro hx;obtain⟨g,o,hA,hg,hc⟩:=h hx
 have hne:g≠b:=fun e=>by
  subst e;have h0:=hc 0 hx;rw[Zb hx]at h0;refine hd _ (Zb hx) ?_;unfold Rw.At at aa;simp[World.cell?,aa]at h0;exact Zj h0
 refine⟨g,o,hA,hg,fun j hj=>?_⟩;rw[←hc j hj];have he:=Yk w ⟨b,i,none⟩ v g hne;unfold World.cell?;simp only[he]
theorem Md.Doc.setAt {w:World} {v:Value} {T:List Rw.Row} {E:List Int} (h:Md.Doc w v T E) {b:Nat} {A0 A1:Option Addr} {n0 c0 n1 c1:Nat} {t:TypeId} (aa:Rw.At w b t [.slice A0 n0 c0,.slice A1 n1 c1]) (i:Nat) (u:Value):Md.Doc (w.setCell ⟨b,i,none⟩ u) v T E:=by
 have hi:∀(l:List Int) x,(l.map (Value.int .i64))[0]?=some x→x∉[Value.slice A0 n0 c0,Value.slice A1 n1 c1]:=by
  intro l x hx hm;cases l with
  | nil=>simp at hx
  | cons y l=>simp at hx;subst hx;simp at hm
 obtain⟨A,c,XA,xc,rfl,⟨ads,hl,hs,hm⟩,hx⟩:=h;refine⟨A,c,XA,xc,rfl,⟨ads,hl,?_,fun j r a h1 h2=>?_⟩,?_⟩
 · rw[ZP];refine hs.setAt aa (fun x hx hm=>?_) i u;cases T with
   | nil=>simp[zBr]at hx
   | cons r T =>
     cases ads with
     | nil=>simp at hl
     | cons a ads=>simp[zBr]at hx;subst hx;simp at hm
 · rw[ZP];exact (hm j r a h1 h2).setAt aa (hi _) i u
 rw[ZP];exact hx.setAt aa (hi _) i u
structure Ud.Right (T:List Rw.Row) (E S:List Int):Prop where
 tl:T.length≤20
 el:E.length≤30
 rok:∀r∈T,Md.rok r
 ec:∀c∈E,C.isC c=true
 ok:Ud.Ok T S
 mem:C.mem S=Md.xs E
 sl:S.length≤60
theorem zEG {r:Rw.Row} (h:Md.good r):Rw.right r :=
 ⟨(Ud.isC_bd h.1).1,(Ud.isC_bd h.1).2,h.2.1,h.2.2.1,h.2.2.2.1,fun c hc=>Ud.isC_bd (h.2.2.2.2.2 c hc).1⟩
theorem Ud.rise_of:∀(T:List Rw.Row) (c:Int),Md.rises T→(∀r∈T,c<r.1)→zDj c T
 | [],_,_,_=>trivial
 | r::T,c,h,hc=>by
   unfold Md.rises at h;rw[QJ]at h;exact⟨hc r ZI,Ud.rise_of T r.1 h.2 h.1⟩
theorem zP0 {T:List Rw.Row} {E:List Int} (h1:T.length≤20) (h2:E.length≤30) (h3:∀r∈T,Md.rok r) (h4:∀c∈E,C.isC c=true) (h5:Md.chk T (Md.xs E)=0):Ud.Right T E (C.chars (zAv E)):=by
 have hm:C.mem (C.chars (zAv E))=Md.xs E:=by
  rw[zIl fun c hc=>h4 c ((zCu _ _).1 hc)];funext d
  unfold Md.xs;rw[Yx,YE,YE,zCu]
 have hl:(C.chars (zAv E)).length≤60:=by
  have g1:=C.chars_len (zAv E);have g2:=zEE E;omega
 exact⟨h1,h2,h3,h4,⟨by rw[hm];exact h5,(zBL _).1.1,by omega,by omega⟩,hm,hl⟩
theorem Ud.parse_txt {T:List Rw.Row} {E S:List Int} (h:Ud.Right T E S):Rw.parse (zB4 T)=some T:=by
 rw[Rw.parse_txt T (fun r hr=>⟨zEG (h.ok.good r hr),.inl (h.ok.good r hr).1⟩) (Ud.rise_of T (-1) h.ok.rises fun r hr=>by have:=(Ud.isC_bd (h.ok.good r hr).1).1;omega) (by have:=h.tl;omega)];congr 1;rw[List.filter_eq_self];intro r hr;have hl:=(h.rok r hr).2.2.2.2;unfold Rw.quiet;simp only[YB,XS,Z2]
 by_cases h0:r.2.1=0
 · exact .inr fun e=>hl h0 (ZK e)
 exact .inl h0
theorem Ud.parse_btxt {T:List Rw.Row} {E S:List Int} (h:Ud.Right T E S):Ex.parse (zAk (zAv E))=some (zAv E) :=
 Ex.parse_btxt _ (fun c hc=>h.ec c ((zCu _ _).1 hc)) (zLW E) (by have:=zEE E;have:=h.el;omega)
theorem Sl.setAtK {w:World} {B:Nat} {A:Option Addr} {xs cs:List Value} {b:Nat} {t:TypeId} (h:Sl w B A xs) (ae:Rw.At w b t cs) (k:Nat) (hd:∀x,xs[k]?=some x→x∉cs) (hk:xs≠[]→k<xs.length) (i:Nat) (v:Value):Sl (w.setCell ⟨b,i,none⟩ v) B A xs:=by
 intro hx;obtain⟨g,o,hA,hg,hc⟩:=h hx;have aa:=hk (List.length_pos_iff.1 hx)
 have hne:g≠b:=fun e=>by
  subst e;have h0:=hc k aa;rw[Zb aa]at h0;refine hd _ (Zb aa) ?_;unfold Rw.At at ae;simp[World.cell?,ae]at h0;exact Zj h0
 refine⟨g,o,hA,hg,fun j hj=>?_⟩;rw[←hc j hj];have he:=Yk w ⟨b,i,none⟩ v g hne;unfold World.cell?;simp only[he]
theorem Sl.setInts {k:IntKind} {w:World} {B:Nat} {A:Option Addr} {l:List Int} {b:Nat} {t:TypeId} {A0 A1:Option Addr} {n0 c0 n1 c1:Nat} (h:Sl w B A (l.map (Value.int k))) (aa:Rw.At w b t [.slice A0 n0 c0,.slice A1 n1 c1]) (i:Nat) (u:Value):Sl (w.setCell ⟨b,i,none⟩ u) B A (l.map (Value.int k)):=by
 refine h.setAtK aa 0 (fun x hx hm=>?_) (fun hne=>List.length_pos_iff.2 hne) i u;cases l with
 | nil=>simp at hx
 | cons y l=>simp at hx;subst hx;simp at hm
theorem Rw.At.setAt {w:World} {b b':Nat} {t t':TypeId} {cs cs':List Value} (h:Rw.At w b' t' cs') (aa:Rw.At w b t cs) (hl:cs.length≠cs'.length) (i:Nat) (u:Value):Rw.At (w.setCell ⟨b,i,none⟩ u) b' t' cs':=by
 refine h.other (fun e=>?_) u;subst e;have:=h.symm.trans aa;simp only[Zg,XN]at this;have h2:=ZR Array.size this.1;simp at h2;omega
theorem Pg.Is.setAt {w:World} {v:Value} {idx:List Int} {bl:List (List Int)} (h:Pg.Is w v idx bl) (hx:2≤idx.length) {b:Nat} {t:TypeId} {A0 A1:Option Addr} {n0 c0 n1 c1:Nat} (aa:Rw.At w b t [.slice A0 n0 c0,.slice A1 n1 c1]) (i:Nat) (u:Value):Pg.Is (w.setCell ⟨b,i,none⟩ u) v idx bl:=by
 obtain⟨g,A,c,h1,h2,h3⟩:=h;refine⟨g,A,c,h1,h2.setAt aa (by simp;omega) i u,?_⟩;rw[ZP];exact h3.setInts aa i u
theorem Mp.Is.setAt {k:TypeId} {w:World} {m:Nat} {F:Value→Option Value} (h:Mp.Is prog k w m F) {b:Nat} {t:TypeId} {cs:List Value} (aa:Rw.At w b t cs) (i:Nat) (u:Value):Mp.Is prog k (w.setCell ⟨b,i,none⟩ u) m F:=by
 refine h.same (Yk w ⟨b,i,none⟩ u m fun e=>?_);subst e;exact h.notcells aa
theorem Rw.Sees.setAt {w:World} {A:Option Addr} {T:List Rw.Row} (h:Rw.Sees w A T) {b:Nat} {t:TypeId} {A0 A1:Option Addr} {n0 c0 n1 c1:Nat} (aa:Rw.At w b t [.slice A0 n0 c0,.slice A1 n1 c1]) (i:Nat) (u:Value):Rw.Sees (w.setCell ⟨b,i,none⟩ u) A T:=by
 obtain⟨ads,hl,hs,hm⟩:=h;refine⟨ads,hl,?_,fun j r a h1 h2=>?_⟩
 · rw[ZP];refine hs.setAtK aa 0 (fun x hx hm=>?_) (fun hne=>List.length_pos_iff.2 hne) i u;cases T with
   | nil=>simp[Rw.fl]at hx
   | cons r T =>
     cases ads with
     | nil=>simp at hl
     | cons a ads=>simp[Rw.fl]at hx;subst hx;simp at hm
 rw[ZP];exact (hm j r a h1 h2).setInts aa i u
theorem Ud.Ents.setAt {w:World} {T:List Rw.Row} {X:Int→Bool} {A:Option Addr} {es:List Ud.At} (h:Ud.Ents w T X A es) {b:Nat} {t:TypeId} {A0 A1:Option Addr} {n0 c0 n1 c1:Nat} (aa:Rw.At w b t [.slice A0 n0 c0,.slice A1 n1 c1]) (i:Nat) (u:Value):Ud.Ents (w.setCell ⟨b,i,none⟩ u) T X A es:=by
 refine⟨h.1,?_,fun j r a h1 h2=>?_⟩
 rotate_left
 · rw[ZP];exact⟨(h.2.2 j r a h1 h2).1.setInts aa i u,(h.2.2 j r a h1 h2).2.setInts aa i u⟩
 rw[ZP];have hl:=zHc T X (zAK T) es h.1;refine h.2.1.setAtK aa 2 (fun x hx hm=>?_) (fun hne=>?_) i u
 · cases hmr:zAK T with
   | nil=>rw[hmr]at hx;cases es <;> simp[zBB]at hx
   | cons r l =>
     rw[hmr]at hx;cases es with
     | nil=>simp[zBB]at hx
     | cons a es=>simp[zBB]at hx;subst hx;simp at hm
 have:=List.length_pos_iff.2 hne;rw[hl]at this ⊢;omega
theorem zJR (f:Int→Int):2≤(Pg.idx f 4352).length:=by rw[zCn];decide
theorem Ud.Is.setAt {w:World} {v:Value} {T:List Rw.Row} {S:List Int} (h:Ud.Is w v T S) {b:Nat} {t:TypeId} {B0 B1:Option Addr} {n0 d0 n1 d1:Nat} (aa:Rw.At w b t [.slice B0 n0 d0,.slice B1 n1 d1]) (i:Nat) (u:Value):Ud.Is (w.setCell ⟨b,i,none⟩ u) v T S:=by
 obtain⟨g,A0,c0,XA,xc,pc,pp,A3,c3,mb,jb,A4,c4,A5,c5,A6,c6,es,h1,h2,h3,h4,h5,h6,h7,⟨F,hF,ae⟩,⟨J,hJ,ai⟩,ag,ah,af⟩:=h.is;refine⟨g,A0,c0,XA,xc,pc,pp,A3,c3,mb,jb,A4,c4,A5,c5,A6,c6,es,h1,h2.setAt aa (by simp) i u,h3.setAt aa i u,?_,h5.setAt (zJR _) aa i u,h6.setAt (zJR _) aa i u,h7.setAt aa i u,⟨F,hF.setAt aa i u,fun c=>?_⟩,⟨J,hJ.setAt aa i u,ai⟩,?_,?_,?_⟩
 · rw[ZP];exact h4.setInts aa i u
 · rcases ae c with hh|⟨A,cap,g1,g2⟩
   · exact .inl hh
   refine .inr ⟨A,cap,g1,?_⟩;rw[ZP];exact g2.setInts aa i u
 · rw[ZP];exact ag.setInts aa i u
 · rw[ZP];exact ah.setInts aa i u
 rw[ZP];exact af.setInts aa i u
theorem zIv {P:Program} {fn:Func} {p u:Tmp} {ty:TypeId} (h:fn.results = #[.tmp u,.cell p ty]) (tmps:Array Value) (w:World) (g:Nat) (t:TypeId) (cs:Array Value) (fr:Nat × Nat) (d:TypeDesc)
 (hp:tmps.getD p undef=.pointer (some ⟨g,0,none⟩)) (hg:w.heap[g]?=some (.cells cs t fr))
 (hu:P.underlying ty=some d) (hd:(match d with | .struct _ | .array _ _=>true|_=>false)=true) (hi:(P.info? ty).map (·.size)=some cs.size) :
 (results fn tmps).run P w=.ok (.tuple #[tmps.getD u undef,.agg cs]) w:=by
 have aa:tmps[p]?.getD undef=.pointer (some ⟨g,0,none⟩):=by simpa using hp
 simp[results,h,aa,asAddr,Qf w g t ty cs fr d hg hu hd hi]
def zIm (w:World) (e:Ending) (w':World):Prop :=
 ∃p v T E S,e=.returned (.tuple #[p,v])∧Ud.Is w' p T S∧Md.Doc w' v T E∧Ud.Right T E S∧Below w.heap.size w w'
theorem zM2 (A XA:Option Addr) (n c xn xc:Nat) (T0:List Rw.Row) (E0:List Int) (w:World) (hn:T0.length=n) (hxn:E0.length=xn) (hnb:n≤maxLen) (hxb:xn≤maxLen) (hbd:∀r∈T0,zEa r) (h2:Rw.SeesI w A T0) (hX:Sl w w.heap.size XA (E0.map (Value.int .i64))) (hL:Rw.Laid w) :
 Calls prog 33 #[.agg #[.slice A n c,.slice XA xn xc]] w (zIm w):=by
 have af:Hy (∀W,Below w.heap.size w W→Calls prog 66 #[.agg #[.slice A n c,.slice XA xn xc]] W (zJQ W)):=hy' fun W hW =>
  zNt A XA n c xn xc T0 E0 W hn hxn hnb hxb hbd (h2.below hW) (hX.below hW hW.size)
 have HL:=hy' hL;have b3:=Rw.At.new w 38 [.slice A n c,.slice XA xn xc];have bl:Below w.heap.size w (w.alloc (.cells #[.slice A n c,.slice XA xn xc] 38)):=(Zd _ _).alloc (Za _) _;have aj:=Rw.At.new (w.alloc (.cells #[.slice A n c,.slice XA xn xc] 38)) 38 [.slice none 0 0,.slice none 0 0];rw[show (w.alloc (.cells #[.slice A n c,.slice XA xn xc] 38)).heap.size=w.heap.size+1 by simp]at aj;obtain⟨wa,ax⟩:∃wa,(w.alloc (.cells #[.slice A n c,.slice XA xn xc] 38)).alloc (.cells #[.slice none 0 0,.slice none 0 0] 38)=wa:=⟨_,rfl⟩;have av:Below w.heap.size w wa:=by rw[←ax];exact bl.alloc bl.size _
 have ae:Rw.At wa w.heap.size 38 [.slice A n c,.slice XA xn xc]:=by rw[←ax];exact b3.alloc _
 have ag:Rw.At wa (w.heap.size+1) 38 [.slice none 0 0,.slice none 0 0]:=by
  rw[←ax];exact aj
 have ch:=hy' ax;have HB:=hy' av;have b8:=hy' ae;have bn:=hy' ag;have x0:=ae.cell 0 rfl;have x1:=ae.cell 1 rfl;have xl:=ae.lt;clear hn hxn hnb hxb hbd h2 hX hL b3 bl aj ax av ae ag;go_enter func33,ntmps33;go_upto_region 1 with (fail)
 rw[ch.o];go_wp2_with fail;refine (af.o wa HB.o).mono ?_;rintro e w2 ⟨v2,T,E,rfl,ap,aw,bc,bb,ay,a1,au,ba⟩;have hR:=zP0 bc bb ay a1 au;obtain⟨A2,c2,XA2,xc2,rfl,bp⟩:=id ap;have bh:=(aw A2 T.length c2 XA2 E.length xc2 rfl).2;obtain⟨n2,bk⟩:∃k,T.length=k:=⟨_,rfl⟩;obtain⟨xn2,ao⟩:∃k,E.length=k:=⟨_,rfl⟩;rw[bk]at ap bc ⊢;rw[ao]at ap bb bh ⊢;unfold zB8 at ap ⊢;have aa:=b8.o.below ba;have bs:=bn.o.below ba;have y2:=aa.frozen 0;have y3:=aa.frozen 1;have yl:=aa.lt;have y0:=aa.cell 0 rfl;have y1:=aa.cell 1 rfl;have bq:=aa.set 0 (.slice A2 n2 c2);have aq:=bq.set 1 (.slice XA2 xn2 xc2);have a8:=(ap.setAt aa 0 (.slice A2 n2 c2)).setAt bq 1 (.slice XA2 xn2 xc2);have bj:=(bs.other (show w.heap.size+1≠w.heap.size by omega) (i:=0) (.slice A2 n2 c2)).other (show w.heap.size+1≠w.heap.size by omega) (i:=1) (.slice XA2 xn2 xc2)
 have bo:Below w.heap.size w ((w2.setCell ⟨w.heap.size,0,none⟩ (.slice A2 n2 c2)).setCell ⟨w.heap.size,1,none⟩ (.slice XA2 xn2 xc2)) :=
  ((HB.o.trans (ba.mono HB.o.size)).setCell (p:=⟨w.heap.size,0,none⟩) (Za _) _).setCell (p:=⟨w.heap.size,1,none⟩) (Za _) _
 obtain⟨w3,bf⟩:∃w3,(w2.setCell ⟨w.heap.size,0,none⟩ (.slice A2 n2 c2)).setCell ⟨w.heap.size,1,none⟩ (.slice XA2 xn2 xc2)=w3:=⟨_,rfl⟩;rw[bf]at aq a8 bo bj
 have bm:Calls prog 67 #[.agg #[.slice A2 n2 c2,.slice XA2 xn2 xc2]] w3 fun e w'=>e=.returned (.tuple #[.string ⟨(zB4 T).toArray⟩,.string ⟨(zAk (zAv E)).toArray⟩])∧Below w3.heap.size w3 w':=by
  obtain⟨A9,c9,X9,d9,he,b9,cc⟩:=a8;simp only[zB8,XO,Ql,Z7,ZX,Yl]at he;obtain⟨⟨rfl,_,rfl⟩,rfl,_,rfl⟩:=he;exact zNq A2 n2 c2 XA2 xn2 xc2 T E w3 bk (by omega) ao (by omega) bh (fun r hr=>zEG (hR.ok.good r hr)) (fun x hx=>Ud.isC_bd (a1 x hx)) b9 cc
 have a7:∀W,Below w.heap.size w W→Calls prog 23 #[.string ⟨(zB4 T).toArray⟩,.string ⟨(zAk (zAv E)).toArray⟩] W (zIC T (C.chars (zAv E)) W):=fun W hW=>by
  refine zJM _ _ ?_ ?_ T (zAv E) ?_ ?_ hR.ok hR.ok.bd W (HL.o.next hW)
  · rw[zAA];have:=zCt T (fun r hr=>zEG (hR.ok.good r hr));omega
  · rw[zAA];have h1:=zDl (zAv E) (fun d hd=>Ud.isC_bd (a1 d ((zCu _ _).1 hd)));have h2:=zEE E;omega
  · exact Ud.parse_txt hR
  exact Ud.parse_btxt hR
 obtain⟨s1,ak⟩:∃y:ByteArray,⟨(zB4 T).toArray⟩=y:=⟨_,rfl⟩;obtain⟨s2,ah⟩:∃y:ByteArray,⟨(zAk (zAv E)).toArray⟩=y:=⟨_,rfl⟩;rw[ak,ah]at bm;simp only[ak,ah]at a7;obtain⟨S,hS⟩:∃S,C.chars (zAv E)=S:=⟨_,rfl⟩;rw[hS]at hR a7;have cb:=hy' bf;have b5:=hy' aq;have cf:=hy' a8;have bt:=hy' bo;have cj:=hy' bj;have b2:=hy' a7;have HR:=hy' hR;have ck:=aq.lt;have z0:=aq.cell 0 rfl;have z1:=aq.cell 1 rfl;clear ap bp bq aq a8 bo bf aa bs bj bk ao ba aw bc bb ay a1 au bh hR a7 hS ak ah x0 x1;go_upto_region 2 with (fail)
 rw[cb.o];clear y0 y1 y2 y3 yl;go_wp2_with fail;refine bm.mono ?_;rintro e w4 ⟨rfl,ar⟩;have bg:=hy' (bt.o.trans (ar.mono bt.o.size));have b4:=hy' (cf.o.below ar);have bz:=hy' (b5.o.below ar);have b1:=hy' (cj.o.below ar);clear ar bm z0 z1;go_wp2_with fail;refine (b2.o w4 bg.o).mono ?_;rintro e w5 ⟨p,rfl,bw,az⟩;have b6:=hy' (bg.o.trans (az.mono bg.o.size));have cd:=hy' (b4.o.below az);have a6:=bz.o.below az;have ai:=b1.o.below az;have cg:=hy' bw;have z0:=a6.cell 0 rfl;have z1:=a6.cell 1 rfl;have zl:=a6.lt;have k0:=ai.frozen 0;have k1:=ai.frozen 1;have kl:=ai.lt;have k2:=ai.cell 0 rfl;have k3:=ai.cell 1 rfl;have bi:=hy' ai;clear bw az a6 ai b2 HL bz b1 b4 af;go_wp2_with fail;go_region;go_wp2_with fail;have h1:=bi.o.set 0 (.slice A2 n2 c2);have h2:=h1.set 1 (.slice XA2 xn2 xc2);have br:=(cg.o.setAt bi.o 0 (.slice A2 n2 c2)).setAt h1 1 (.slice XA2 xn2 xc2);have bx:=(cd.o.setAt bi.o 0 (.slice A2 n2 c2)).setAt h1 1 (.slice XA2 xn2 xc2)
 have bu:Below w.heap.size w ((w5.setCell ⟨w.heap.size+1,0,none⟩ (.slice A2 n2 c2)).setCell ⟨w.heap.size+1,1,none⟩ (.slice XA2 xn2 xc2)) :=
  (b6.o.setCell (p:=⟨w.heap.size+1,0,none⟩) (ZZ _) _).setCell (p:=⟨w.heap.size+1,1,none⟩) (ZZ _) _
 obtain⟨w6,b7⟩:∃w6,(w5.setCell ⟨w.heap.size+1,0,none⟩ (.slice A2 n2 c2)).setCell ⟨w.heap.size+1,1,none⟩ (.slice XA2 xn2 xc2)=w6:=⟨_,rfl⟩;rw[b7]at h2 br bx bu ⊢;refine YD (zIv rfl _ _ (w.heap.size+1) _ _ _ _ rfl (show w6.drew.heap[w.heap.size+1]?=_ from h2) underlying38 rfl (by kernel_rfl)) rfl ?_;exact⟨p,.agg #[.slice A2 n2 c2,.slice XA2 xn2 xc2],T,E,S,rfl,br.below (Zd _ _).drew,bx.below (Zd _ _).drew,HR.o,bu.drew⟩
end
section
open Go.RowKit Go.Stop
theorem Jn.len (sep:List UInt8) (M:Nat):∀xs:List (List UInt8),(∀x∈xs,x.length≤M)→(Lib.join xs sep).length≤xs.length*(M+sep.length)
 | [],_=>by rw[Lib.join_nil];simp
 | x::r,h=>by
   rw[Lib.join_cons,Zc];have h1:=h x (by simp)
   have h2:∀r:List (List UInt8),(∀x∈r,x.length≤M)→(Lib.joinTail sep r).length≤r.length*(M+sep.length):=by
    intro r
    induction r with
    | nil=>intro _;simp[Lib.joinTail]
    | cons y t ih =>
      intro hy;have h3:=ih (fun z hz=>hy z (by simp[hz]));have h4:=hy y (by simp);simp only[Lib.joinTail,ZU,Xi,Zc,ZB]at h3 ⊢;rw[Nat.succ_mul];omega
   have h5:=h2 r (fun z hz=>h z (by simp[hz]));rw[ZB,Nat.succ_mul];omega
theorem Jn.any (A:Option Addr) (c B n:Nat) (xs:List ByteArray) (sep:ByteArray) (w:World) (hn:xs.length=n) (h0:0<n) (hB:B≤w.heap.size) (hA:Sl w B A (xs.map Value.string)) (hc:n≤c) (hN:n≤1000000) (hl:∀x∈xs,x.size≤10000) (aa:sep.size≤10) :
 Calls prog 92 #[.slice A n c,.string sep] w fun e w'=>e=.returned (.string ⟨(Lib.join (xs.map (·.data.toList)) sep.data.toList).toArray⟩)∧Below w.heap.size w w':=by
 subst hn;obtain⟨b,o,rfl,hb,hcell⟩:=hA (by rw[Ze];exact h0)
 have hlen:=Jn.len sep.data.toList 10000 (xs.map (·.data.toList)) (fun x hx=>by
  obtain⟨y,hy,rfl⟩:=List.mem_map.1 hx;have:=hl y hy;simpa using this)
 have ae:sep.data.toList.length=sep.size:=by simp
 rw[Ze,ae]at hlen;have:xs.length*(10000+sep.size)≤1000000*10010:=Nat.mul_le_mul hN (by omega);refine (Tryz.strings_Join b o c xs sep w ?_ (by omega) (by omega) hc (by omega));intro j x hx;have hj:=(List.getElem?_eq_some_iff.1 hx).1;rw[hcell j (by rw[Ze];exact hj),Zt,hx];rfl
end
section
open Go.RowKit
theorem zEH (l:List UInt8):(⟨l.toArray⟩:ByteArray).size=l.length:=by show l.toArray.size=_;simp
theorem zP1 (k:Int) (h:0≤k):Lib.itoa k=Lib.decDigits k.toNat:=by
 unfold Lib.itoa;rw[Zk (by omega)]
theorem zJS (c:Int) (h0:0≤c) (h1:c<16777216) (w:World) (hL:Rw.Laid w) :
 Calls prog 90 #[.int .i32 c] w fun e w'=>e=.returned (.string ⟨(Fi.text c.toNat).toArray⟩)∧Below w.heap.size w w':=by
 obtain⟨n,rfl⟩:∃n:Nat,c=n:=⟨c.toNat,by omega⟩;rw[Y5];exact Fi.text_any n (by omega) w hL.1
theorem zNu (k:Int) (h0:0≤k) (h1:k≤1000000000) (w:World) (hL:Rw.Laid w) :
 Calls prog 91 #[.int .i64 k] w fun e w'=>e=.returned (.string ⟨(Lib.decDigits k.toNat).toArray⟩)∧Below w.heap.size w w':=by
 rw[←zP1 k h0];exact zJI k (by omega) (by omega) w hL.2
def zRU (x0 x3 x5:ByteArray):List Value:=[.string x0,.string ⟨#[88]⟩,.string ⟨#[]⟩,.string x3,.string ⟨#[]⟩,.string x5,.string ⟨#[]⟩,.string ⟨#[]⟩,.string ⟨#[]⟩,.string ⟨#[]⟩,.string ⟨#[]⟩,.string ⟨#[]⟩,.string ⟨#[]⟩,.string ⟨#[]⟩,.string ⟨#[]⟩]
def zGr (x0 x3 x5:ByteArray):List ByteArray:=[x0,⟨#[88]⟩,⟨#[]⟩,x3,⟨#[]⟩,x5,⟨#[]⟩,⟨#[]⟩,⟨#[]⟩,⟨#[]⟩,⟨#[]⟩,⟨#[]⟩,⟨#[]⟩,⟨#[]⟩,⟨#[]⟩]
theorem zNv (x0 x3 x5:ByteArray) (h0:x0.size≤10000) (h3:x3.size≤10000) (h5:x5.size≤10000):∀x∈zGr x0 x3 x5,x.size≤10000:=by
 intro x hx;have he:(⟨#[]⟩:ByteArray).size=0:=rfl;have aa:(⟨#[88]⟩:ByteArray).size=1:=rfl;unfold zGr at hx;simp only[XP,Xa,J7]at hx;rcases hx with rfl|rfl|rfl|rfl|rfl|rfl|rfl|rfl|rfl|rfl|rfl|rfl|rfl|rfl|rfl <;> omega
theorem zIn (c:UInt8):∀l:List (List UInt8),Lib.join l [c]=zAu c l
 | []=>by rw[Lib.join_nil];rfl
 | x::r=>by
   rw[Lib.join_cons];rfl
theorem zNw (c k:Int) (m:List Int):Lib.join ((zGr ⟨(Fi.text c.toNat).toArray⟩ ⟨(Lib.decDigits k.toNat).toArray⟩ ⟨(zB2 m).toArray⟩).map (·.data.toList)) [59]=Rw.line (c,k,m):=by
 rw[zIn];unfold zGr Rw.line zB2;simp[zAu]
theorem zP2 (m:List Int) (hm:m.length≤2) (hc:∀x∈m,0≤x∧x≤1114111):(zB2 m).length≤10000:=by
 unfold zB2;rcases m with _|⟨a,_|⟨b,_|⟨d,t⟩⟩⟩
 · simp[zAu]
 · have:=zAI a.toNat (by have:=(hc a (by simp)).2;omega);simp[zAu];omega
 · have h1:=zAI a.toNat (by have:=(hc a (by simp)).2;omega);have h2:=zAI b.toNat (by have:=(hc b (by simp)).2;omega);simp[zAu];omega
 simp at hm
def zFi:List Value:=[.string ByteArray.empty,.string ByteArray.empty,.string ByteArray.empty,.string ByteArray.empty,.string ByteArray.empty,.string ByteArray.empty,.string ByteArray.empty,.string ByteArray.empty,.string ByteArray.empty,.string ByteArray.empty,.string ByteArray.empty,.string ByteArray.empty,.string ByteArray.empty,.string ByteArray.empty,.string ByteArray.empty]
theorem zRV (w:World):(Instr.makeSlice 44 (.int .i64 15) (.int .i64 15)).run prog w=.ok (.slice (some ⟨w.heap.size,0,none⟩) 15 15) (w.alloc (.cells zFi.toArray 9)):=by kernel_rfl
theorem zNx (c k:Int) (A:Option Addr) (m:List Int) (n cp B:Nat) (w:World) (c0:0≤c) (c1:c≤1114111) (k0:0≤k) (k1:k≤254) (hn:m.length=n) (hm:n≤2) (hmb:∀x∈m,0≤x∧x≤1114111)
 (hB:B≤w.heap.size) (hA:Sl w B A (m.map (Value.int .i32))) (hL:Rw.Laid w) :
 Calls prog 52 #[.agg #[.int .i32 c,.int .i64 k,.slice A n cp]] w fun e w'=>e=.returned (.string ⟨(Rw.line (c,k,m)).toArray⟩)∧Below w.heap.size w w':=by
 have hX:=zJS c c0 (by omega);have hK:=zNu k k0 (by omega);obtain⟨x0,bi⟩:∃x:ByteArray,⟨(Fi.text c.toNat).toArray⟩=x:=⟨_,rfl⟩;obtain⟨x3,bb⟩:∃x:ByteArray,⟨(Lib.decDigits k.toNat).toArray⟩=x:=⟨_,rfl⟩;simp only[bi]at hX;simp only[bb]at hK;have bx:=hy' bi;have br:=hy' bb;have HN:=hy' hn;have ba:=hy' hmb;clear bi bb hn hmb;have cw:=zRV;go_enter func52,ntmps52;go_upto_region 2 with (fail)
 obtain⟨wa,aq⟩:∃wa,(w.alloc (.cells #[.int .i32 c,.int .i64 k,.slice A n cp] 103)).alloc (.cells zFi.toArray 9)=wa:=⟨_,rfl⟩;have hz:w.heap.size+1<wa.heap.size:=by rw[←aq];simp
 have ae:Below w.heap.size w wa:=by rw[←aq];exact ((Zd _ _).alloc (Za _) _).alloc (by simp) _
 have ar:Rw.At wa w.heap.size 103 [.int .i32 c,.int .i64 k,.slice A n cp]:=by rw[←aq];exact (Rw.At.new w 103 [.int .i32 c,.int .i64 k,.slice A n cp]).alloc _
 have az:Rw.At wa (w.heap.size+1) 9 zFi:=by
  have h:=Rw.At.new (w.alloc (.cells #[.int .i32 c,.int .i64 k,.slice A n cp] 103)) 9 zFi;rw[ZD]at h;rw[←aq];exact h
 have bc:=hL.next ae
 first
  | rw[aq]
  | (show Code.wp _ _ _ _ ((w.alloc (.cells #[.int .i32 c,.int .i64 k,.slice A n cp] 103)).alloc (.cells zFi.toArray 9));rw[aq])
 clear aq;obtain⟨d1,d2,d3,_,_,_⟩:=ar.three;go_cut [] (fun wx=>Rw.At wx (w.heap.size+1) 9 (zRU x0 x3 ⟨#[]⟩)∧Below (w.heap.size+1) wa wx)
 case first =>
  have b8:Rw.Laid wa.drew:=bc.next (Zd _ _).drew;have cd:w.heap.size<wa.heap.size:=by omega
  go_region_with (first
   | (go_at_call 90;refine (hX _ b8).mono ?_;rintro e wq ⟨rfl,cj⟩;have ai:Below wa.heap.size wa wq:=((Zd _ _).drew).trans cj;have cr:wq.cell? ⟨w.heap.size,1,none⟩=some (.int .i64 k):=((zAU ai).1 _ _ cd).trans d2;have cg:=bc.next ai)
   | (go_at_call 91;refine (hK _ cg).mono ?_;rintro e wz ⟨rfl,bz⟩;have bw:Below wa.heap.size wa wz:=ai.trans (bz.mono ai.size);have af:=az.below' bw hz;have y0:=af.cell 0 rfl;have y1:=af.cell 1 rfl;have y3:=af.cell 3 rfl;have g0:=af.frozen 0;have g1:=af.frozen 1;have g3:=af.frozen 3)
   | fail)
  all_goals
   go_wp2_with fail;go_meet;exact⟨((af.set 0 (.string x0)).set 1 (.string ⟨#[88]⟩)).set 3 (.string x3),(((bw.mono (Z5 hz)).setCell (p:=⟨w.heap.size+1,0,none⟩) (Za _) _).setCell (p:=⟨w.heap.size+1,1,none⟩) (Za _) _).setCell (p:=⟨w.heap.size+1,3,none⟩) (Za _) _⟩
 obtain⟨ap,ai⟩:=hcut;obtain⟨wx,rfl⟩:∃wx:World,wx=wc:=⟨_,rfl⟩;have ak:=ar.below' ai (ZM _);obtain⟨f1,f2,f3,_,_,_⟩:=ak.three;have bt:Sl wx B A (m.map (Value.int .i32)):=(hA.below (ae.mono hB) (Za _)).below (ai.mono (show B≤w.heap.size+1 by omega)) (Za _);have bl:Rw.Laid wx:=hL.next (ae.trans (ai.mono (ZZ _)));have cn:w.heap.size+1<wx.heap.size:=ap.lt;have bu:=hy' (ae.trans (ai.mono (ZZ _)));clear d1 d2 d3 ar az ae bc hX hK ak ai f1 f2;obtain⟨i0,hi,b9,b3,b5⟩:=Z9 zHC;have b2:=hy' bt;have b7:=hy' hL;have ct:=hy' bl;have cq:=hy' ap;clear bt bl hA hL ap;go_wp2_with fail;go_loopw [4,6,23] (fun v _ i wr=>∃j:Nat,j≤n∧i=.int .i64 j∧wr.ownsRow (w.heap.size+2) 9 1 v j ((m.take j).map fun x=>Value.string ⟨(Fi.text x.toNat).toArray⟩)∧Below (w.heap.size+2) wx wr) (fun _ _ i _=>n-(intOf i).toNat)
 case atStart=>exact⟨0,Zq _,rfl,ZG _ _ _ _,Zd _ _⟩
 obtain⟨j,hj,rfl,ag,aa⟩:=hrel;have bq:w.heap.size+2≤wr.heap.size:=Zh cn aa.size;have cm:Rw.Laid wr:=b7.o.next (bu.o.trans (aa.mono (by omega)))
 by_cases hlt:j<n
 · obtain⟨x,hx⟩:∃x,m[j]?=some x:=⟨_,Zb (by rw[HN.o];exact hlt)⟩;have hxb:=ba.o x (Zj hx);obtain⟨ab,ao,rfl,cy,bn⟩:=b2.o (by rw[Ze,HN.o];omega);have hc:=bn j (by rw[Ze,HN.o];exact hlt);rw[Zt,hx,Zw,←(zAU aa).1 _ _ (by omega)]at hc;have hT:=zJS x hxb.1 (by omega) wr cm
   have ah:(m.take (j+1)).map (fun x=>Value.string ⟨(Fi.text x.toNat).toArray⟩)=(m.take j).map (fun x=>Value.string ⟨(Fi.text x.toNat).toArray⟩)++[Value.string ⟨(Fi.text x.toNat).toArray⟩]:=by
    rw[Zy,hx];simp
   obtain⟨tx,bg⟩:∃y:ByteArray,⟨(Fi.text x.toNat).toArray⟩=y:=⟨_,rfl⟩;rw[bg]at ah;simp only[bg]at hT;have jI:(j:Int)<n:=by omega
   have cb:=hy' ah;have a8:=hy' aa;have bj:=hy' ag;clear ah aa ag hx bn bg;go_wp2_with fail;refine hT.mono ?_;rintro e w3 ⟨rfl,a7⟩;have a1:=zA6 bj.o a7 (Za _);have ck:=hy' (a8.o.trans (a7.mono bq));have b4:w.heap.size+2≤w3.heap.size:=Zh bq a7.size;clear a7 hT;go_wp2_with (first|(at_builtin;refine zAg _ rfl _ _ _ rfl (w.heap.size+2) 9 i0 _ 16 underlying44 hi b9 b3 b5 rfl _ j _ rfl a1 _ rfl rfl (by simp only[maxLen];omega) (by omega) b4 ?_;intro v1 w4 ax b1)|fail);exact⟨⟨j+1,by omega,by go_num,by rw[cb.o];exact ax,ck.o.trans b1⟩,by simp[intOf];omega⟩
 obtain rfl:j=n:=by omega
 have jI:¬(j:Int)<j:=by omega
 rw[Zi (by rw[HN.o];exact Za _)]at ag;obtain⟨A4,c4,rfl⟩:=zA3 ag;have bk:=Sl.of_own ag
 have aw:j≤c4:=by
  rcases ag.2 with ⟨hv,h0⟩|⟨g,cap,cv,hv,_,_,cu,_⟩
  · omega
  simp only[ZX]at hv;omega
 have hJ:∀W:World,W=wr→Calls prog 92 #[.slice A4 j c4,.string ⟨#[32]⟩] W fun e w'=>e=.returned (.string ⟨(zB2 m).toArray⟩)∧Below W.heap.size W w':=by
  rintro W rfl;rcases YM j with hj0|hj0
  · have cf:m=[]:=List.length_eq_zero_iff.1 (by rw[HN.o];exact hj0);subst hj0;refine (Tryz.strings_Join_none A4 c4 ⟨#[32]⟩ W).mono ?_;rintro e w' ⟨rfl,rfl⟩;exact⟨by rw[cf];rfl,Zd _ _⟩
  have h:=Jn.any A4 c4 W.heap.size j (m.map fun x=>⟨(Fi.text x.toNat).toArray⟩) ⟨#[32]⟩ W (by rw[Ze,HN.o]) hj0 (Za _) (by rw[Xd];exact bk) aw (by omega) (fun y hy=>by
   obtain⟨x,hx,rfl⟩:=List.mem_map.1 hy;rw[zEH];have:=zAI x.toNat (by have:=ba.o x hx;omega);omega) (by decide)
  refine h.mono ?_;rintro e w' ⟨rfl,hb⟩;refine⟨?_,hb⟩;rw[Xd,show (⟨#[32]⟩:ByteArray).data.toList=[32] from rfl,zIn];rfl
 have ay:=cq.o.below' aa (ZM _);have cc:=hy' (bu.o.trans (aa.mono (show w.heap.size≤w.heap.size+2 by omega)));obtain⟨mt,bf⟩:∃y:ByteArray,⟨(zB2 m).toArray⟩=y:=⟨_,rfl⟩;simp only[bf]at hJ;have bs:=hy' bf;clear ag bk aw aa bf;go_wp2_with fail;refine (hJ _ rfl).mono ?_;rintro e w5 ⟨rfl,a6⟩;have aj:=ay.below a6;have y5:=aj.cell 5 rfl;have g5:=aj.frozen 5;have au:=aj.set 5 (.string mt);have cx:wr.heap.size≤w5.heap.size:=a6.size;have ch:w.heap.size+1<w5.heap.size:=by omega
 have bp:=hy' (((cc.o.trans (a6.mono (by omega))).setCell (p:=⟨w.heap.size+1,5,none⟩) (show w.heap.size≤w.heap.size+1 by omega) (.string mt)))
 have bo:Sl (w5.setCell ⟨w.heap.size+1,5,none⟩ (.string mt)) (w5.setCell ⟨w.heap.size+1,5,none⟩ (.string mt)).heap.size (some ⟨w.heap.size+1,0,none⟩) ((zGr x0 x3 mt).map Value.string) :=
  Sl.lit rfl _ _ au
 have bh:=Jn.any (some ⟨w.heap.size+1,0,none⟩) 15 _ 15 (zGr x0 x3 mt) ⟨#[59]⟩ (w5.setCell ⟨w.heap.size+1,5,none⟩ (.string mt)) rfl (by decide) (Za _) bo (Za _) (by decide) (zNv x0 x3 mt (by rw[←bx.o,zEH];have:=zAI c.toNat (by omega);omega) (by
  rw[←br.o,zEH];have:=zD0 9 k.toNat (by rw[show (10:Nat) ^ (9+1)=10000000000 from by decide];omega);omega) (by
  rw[←bs.o,zEH];exact zP2 m (by rw[HN.o];exact hm) ba.o)) (by decide)
 have av:(⟨(Lib.join ((zGr x0 x3 mt).map (·.data.toList)) (⟨#[59]⟩:ByteArray).data.toList).toArray⟩:ByteArray)=⟨(Rw.line (c,k,m)).toArray⟩:=by
  rw[←bx.o,←br.o,←bs.o];exact ZR (fun l:List UInt8=>(⟨l.toArray⟩:ByteArray)) (zNw c k m)
 rw[av]at bh;clear aj au bo a6 hJ ay av;go_wp2_with fail;refine bh.mono ?_;rintro e w7 ⟨rfl,bm⟩;have b6:=hy' (bp.o.trans (bm.mono bp.o.size));clear bm bh;go_wp2_with fail;go_ret;exact⟨rfl,b6.o⟩
end
end Go.Proofs.YtdbpjmfflofadaaGreatDoor
