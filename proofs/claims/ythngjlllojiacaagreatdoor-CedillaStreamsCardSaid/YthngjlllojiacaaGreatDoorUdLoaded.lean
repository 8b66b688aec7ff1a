/- Where a box of two slices is stored to, what is read elsewhere stays. -/
import Derived.Test.YthngjlllojiacaaGreatDoorMdRight
set_option maxRecDepth 100000
set_option maxHeartbeats 4000000
set_option linter.unusedVariables false
set_option linter.unusedSimpArgs false
namespace Go.Proofs.YthngjlllojiacaaGreatDoor
open Go.Proofs.Tryz
open Go.RowKit
theorem zHA {E:List Int} (h:∀c∈E,C.isC c=true):C.mem (C.chars E)=Md.xs E:=by
 funext d
 rw[(zC0 _).2 d];unfold Md.xs
 by_cases hd:d∈E
 · rw[h d hd,Ki]
 rw[Zt hd,Xl]
theorem Sl.setAt {w:World} {B:Nat} {A:Option Addr} {xs cs:List Value} {b:Nat} {t:TypeId} (h:Sl w B A xs) (aa:Rw.At w b t cs) (hd:∀x,xs[0]?=some x→x∉cs) (i:Nat) (v:Value):Sl (w.setCell ⟨b,i,none⟩ v) B A xs:=by
 intro hx;obtain⟨g,o,hA,hg,hc⟩:=h hx
 have hne:g≠b:=fun e=>by
  subst e;have h0:=hc 0 hx;rw[Zb hx]at h0;refine hd _ (Zb hx) ?_;unfold Rw.At at aa;simp[World.cell?,aa]at h0;exact Zk h0
 refine⟨g,o,hA,hg,fun j hj=>?_⟩;rw[←hc j hj];have he:=Yl w ⟨b,i,none⟩ v g hne;unfold World.cell?;simp only[he]
theorem Md.Doc.setAt {w:World} {v:Value} {T:List Rw.Row} {E:List Int} (h:Md.Doc w v T E) {b:Nat} {A0 A1:Option Addr} {n0 c0 n1 c1:Nat} {t:TypeId} (aa:Rw.At w b t [.slice A0 n0 c0,.slice A1 n1 c1]) (i:Nat) (u:Value):Md.Doc (w.setCell ⟨b,i,none⟩ u) v T E:=by
 have hi:∀(l:List Int) x,(l.map (Value.int .i64))[0]?=some x→x∉[Value.slice A0 n0 c0,Value.slice A1 n1 c1]:=by
  intro l x hx hm;cases l with
  | nil=>simp at hx
  | cons y l=>simp at hx;subst hx;simp at hm
 obtain⟨A,c,XA,xc,rfl,⟨ads,hl,hs,hm⟩,hx⟩:=h;refine⟨A,c,XA,xc,rfl,⟨ads,hl,?_,fun j r a h1 h2=>?_⟩,?_⟩
 · rw[ZP];refine hs.setAt aa (fun x hx hm=>?_) i u;cases T with
   | nil=>simp[zBj]at hx
   | cons r T =>
     cases ads with
     | nil=>simp at hl
     | cons a ads=>simp[zBj]at hx;subst hx;simp at hm
 · rw[ZP];exact (hm j r a h1 h2).setAt aa (hi _) i u
 rw[ZP];exact hx.setAt aa (hi _) i u
structure Ud.Right (T:List Rw.Row) (E S:List Int):Prop where
 tl:T.length≤20
 el:E.length≤30
 rok:∀r∈T,Md.rok r
 ec:∀c∈E,C.isC c=true
 ok:Ud.Ok T S
 mem:C.mem S=Md.xs E
 sl:S.length≤60
theorem zEj {r:Rw.Row} (h:Md.good r):Rw.right r :=
 ⟨(Ud.isC_bd h.1).1,(Ud.isC_bd h.1).2,h.2.1,h.2.2.1,h.2.2.2.1,fun c hc=>Ud.isC_bd (h.2.2.2.2.2 c hc).1⟩
theorem Ud.rise_of:∀(T:List Rw.Row) (c:Int),Md.rises T→(∀r∈T,c<r.1)→zD7 c T
 | [],_,_,_=>trivial
 | r::T,c,h,hc=>by
   unfold Md.rises at h;rw[Xy]at h;exact⟨hc r Zq,Ud.rise_of T r.1 h.2 h.1⟩
theorem zNM {T:List Rw.Row} {E:List Int} (h1:T.length≤20) (h2:E.length≤30) (h3:∀r∈T,Md.rok r) (h4:∀c∈E,C.isC c=true) (h5:Md.chk T (Md.xs E)=0):Ud.Right T E (C.chars (zAs E)):=by
 have hm:C.mem (C.chars (zAs E))=Md.xs E:=by
  rw[zHA fun c hc=>h4 c ((zCk _ _).1 hc)];funext d
  unfold Md.xs;rw[Yg,Yu,Yu,zCk]
 have hl:(C.chars (zAs E)).length≤60:=by
  have g1:=C.chars_len (zAs E);have g2:=zEh E;omega
 exact⟨h1,h2,h3,h4,⟨by rw[hm];exact h5,(zC0 _).1.1,by omega,by omega⟩,hm,hl⟩
theorem Ud.parse_txt {T:List Rw.Row} {E S:List Int} (h:Ud.Right T E S):Rw.parse (zAX T)=some T:=by
 rw[Rw.parse_txt T (fun r hr=>⟨zEj (h.ok.good r hr),.inl (h.ok.good r hr).1⟩) (Ud.rise_of T (-1) h.ok.rises fun r hr=>by have:=(Ud.isC_bd (h.ok.good r hr).1).1;omega) (by have:=h.tl;omega)];congr 1;rw[List.filter_eq_self];intro r hr;have hl:=(h.rok r hr).2.2.2.2;unfold Rw.quiet;simp only[Yr,XI,ZY]
 by_cases h0:r.2.1=0
 · exact .inr fun e=>hl h0 (ZD e)
 exact .inl h0
theorem Ud.parse_btxt {T:List Rw.Row} {E S:List Int} (h:Ud.Right T E S):Ex.parse (zAf (zAs E))=some (zAs E) :=
 Ex.parse_btxt _ (fun c hc=>h.ec c ((zCk _ _).1 hc)) (zKX E) (by have:=zEh E;have:=h.el;omega)
theorem Sl.setAtK {w:World} {B:Nat} {A:Option Addr} {xs cs:List Value} {b:Nat} {t:TypeId} (h:Sl w B A xs) (ae:Rw.At w b t cs) (k:Nat) (hd:∀x,xs[k]?=some x→x∉cs) (hk:xs≠[]→k<xs.length) (i:Nat) (v:Value):Sl (w.setCell ⟨b,i,none⟩ v) B A xs:=by
 intro hx;obtain⟨g,o,hA,hg,hc⟩:=h hx;have aa:=hk (List.length_pos_iff.1 hx)
 have hne:g≠b:=fun e=>by
  subst e;have h0:=hc k aa;rw[Zb aa]at h0;refine hd _ (Zb aa) ?_;unfold Rw.At at ae;simp[World.cell?,ae]at h0;exact Zk h0
 refine⟨g,o,hA,hg,fun j hj=>?_⟩;rw[←hc j hj];have he:=Yl w ⟨b,i,none⟩ v g hne;unfold World.cell?;simp only[he]
theorem Sl.setInts {k:IntKind} {w:World} {B:Nat} {A:Option Addr} {l:List Int} {b:Nat} {t:TypeId} {A0 A1:Option Addr} {n0 c0 n1 c1:Nat} (h:Sl w B A (l.map (Value.int k))) (aa:Rw.At w b t [.slice A0 n0 c0,.slice A1 n1 c1]) (i:Nat) (u:Value):Sl (w.setCell ⟨b,i,none⟩ u) B A (l.map (Value.int k)):=by
 refine h.setAtK aa 0 (fun x hx hm=>?_) (fun hne=>List.length_pos_iff.2 hne) i u;cases l with
 | nil=>simp at hx
 | cons y l=>simp at hx;subst hx;simp at hm
theorem Rw.At.setAt {w:World} {b b':Nat} {t t':TypeId} {cs cs':List Value} (h:Rw.At w b' t' cs') (aa:Rw.At w b t cs) (hl:cs.length≠cs'.length) (i:Nat) (u:Value):Rw.At (w.setCell ⟨b,i,none⟩ u) b' t' cs':=by
 refine h.other (fun e=>?_) u;subst e;have:=h.symm.trans aa;simp only[Zg,XE]at this;have h2:=ZT Array.size this.1;simp at h2;omega
theorem Pg.Is.setAt {w:World} {v:Value} {idx:List Int} {bl:List (List Int)} (h:Pg.Is w v idx bl) (hx:2≤idx.length) {b:Nat} {t:TypeId} {A0 A1:Option Addr} {n0 c0 n1 c1:Nat} (aa:Rw.At w b t [.slice A0 n0 c0,.slice A1 n1 c1]) (i:Nat) (u:Value):Pg.Is (w.setCell ⟨b,i,none⟩ u) v idx bl:=by
 obtain⟨g,A,c,h1,h2,h3⟩:=h;refine⟨g,A,c,h1,h2.setAt aa (by simp;omega) i u,?_⟩;rw[ZP];exact h3.setInts aa i u
theorem Mp.Is.setAt {k:TypeId} {w:World} {m:Nat} {F:Value→Option Value} (h:Mp.Is prog k w m F) {b:Nat} {t:TypeId} {cs:List Value} (aa:Rw.At w b t cs) (i:Nat) (u:Value):Mp.Is prog k (w.setCell ⟨b,i,none⟩ u) m F:=by
 refine h.same (Yl w ⟨b,i,none⟩ u m fun e=>?_);subst e;exact h.notcells aa
theorem Rw.Sees.setAt {w:World} {A:Option Addr} {T:List Rw.Row} (h:Rw.Sees w A T) {b:Nat} {t:TypeId} {A0 A1:Option Addr} {n0 c0 n1 c1:Nat} (aa:Rw.At w b t [.slice A0 n0 c0,.slice A1 n1 c1]) (i:Nat) (u:Value):Rw.Sees (w.setCell ⟨b,i,none⟩ u) A T:=by
 obtain⟨ads,hl,hs,hm⟩:=h;refine⟨ads,hl,?_,fun j r a h1 h2=>?_⟩
 · rw[ZP];refine hs.setAtK aa 0 (fun x hx hm=>?_) (fun hne=>List.length_pos_iff.2 hne) i u;cases T with
   | nil=>simp[Rw.fl]at hx
   | cons r T =>
     cases ads with
     | nil=>simp at hl
     | cons a ads=>simp[Rw.fl]at hx;subst hx;simp at hm
 rw[ZP];exact (hm j r a h1 h2).setInts aa i u
theorem Ud.Ents.setAt {w:World} {T:List Rw.Row} {X:Int→Bool} {A:Option Addr} {es:List Ud.At} (h:Ud.Ents w T X A es) {b:Nat} {t:TypeId} {A0 A1:Option Addr} {n0 c0 n1 c1:Nat} (aa:Rw.At w b t [.slice A0 n0 c0,.slice A1 n1 c1]) (i:Nat) (u:Value):Ud.Ents (w.setCell ⟨b,i,none⟩ u) T X A es:=by
 refine⟨h.1,?_,fun j r a h1 h2=>?_⟩
 rotate_left
 · rw[ZP];exact⟨(h.2.2 j r a h1 h2).1.setInts aa i u,(h.2.2 j r a h1 h2).2.setInts aa i u⟩
 rw[ZP];have hl:=zGG T X (zAB T) es h.1;refine h.2.1.setAtK aa 2 (fun x hx hm=>?_) (fun hne=>?_) i u
 · cases hmr:zAB T with
   | nil=>rw[hmr]at hx;cases es <;> simp[zBw]at hx
   | cons r l =>
     rw[hmr]at hx;cases es with
     | nil=>simp[zBw]at hx
     | cons a es=>simp[zBw]at hx;subst hx;simp at hm
 have:=List.length_pos_iff.2 hne;rw[hl]at this ⊢;omega
theorem zJ1 (f:Int→Int):2≤(Pg.idx f 4352).length:=by rw[zCe];decide
theorem Ud.Is.setAt {w:World} {v:Value} {T:List Rw.Row} {S:List Int} (h:Ud.Is w v T S) {b:Nat} {t:TypeId} {B0 B1:Option Addr} {n0 d0 n1 d1:Nat} (aa:Rw.At w b t [.slice B0 n0 d0,.slice B1 n1 d1]) (i:Nat) (u:Value):Ud.Is (w.setCell ⟨b,i,none⟩ u) v T S:=by
 obtain⟨g,A0,c0,XA,xc,pc,pp,A3,c3,mb,jb,A4,c4,A5,c5,A6,c6,es,h1,h2,h3,h4,h5,h6,h7,⟨F,hF,ae⟩,⟨J,hJ,ai⟩,af,ag,ah⟩:=h.is;refine⟨g,A0,c0,XA,xc,pc,pp,A3,c3,mb,jb,A4,c4,A5,c5,A6,c6,es,h1,h2.setAt aa (by simp) i u,h3.setAt aa i u,?_,h5.setAt (zJ1 _) aa i u,h6.setAt (zJ1 _) aa i u,h7.setAt aa i u,⟨F,hF.setAt aa i u,fun c=>?_⟩,⟨J,hJ.setAt aa i u,ai⟩,?_,?_,?_⟩
 · rw[ZP];exact h4.setInts aa i u
 · rcases ae c with hh|⟨A,cap,g1,g2⟩
   · exact .inl hh
   refine .inr ⟨A,cap,g1,?_⟩;rw[ZP];exact g2.setInts aa i u
 · rw[ZP];exact af.setInts aa i u
 · rw[ZP];exact ag.setInts aa i u
 rw[ZP];exact ah.setInts aa i u
theorem zHK {P:Program} {fn:Func} {p u:Tmp} {ty:TypeId} (h:fn.results = #[.tmp u,.cell p ty]) (tmps:Array Value) (w:World) (g:Nat) (t:TypeId) (cs:Array Value) (fr:Nat × Nat) (d:TypeDesc)
 (hp:tmps.getD p undef=.pointer (some ⟨g,0,none⟩)) (hg:w.heap[g]?=some (.cells cs t fr))
 (hu:P.underlying ty=some d) (hd:(match d with | .struct _ | .array _ _=>true|_=>false)=true) (hi:(P.info? ty).map (·.size)=some cs.size) :
 (results fn tmps).run P w=.ok (.tuple #[tmps.getD u undef,.agg cs]) w:=by
 have aa:tmps[p]?.getD undef=.pointer (some ⟨g,0,none⟩):=by simpa using hp
 simp[results,h,aa,asAddr,X3 w g t ty cs fr d hg hu hd hi]
def zHB (w:World) (e:Ending) (w':World):Prop :=
 ∃p v T E S,e=.returned (.tuple #[p,v])∧Ud.Is w' p T S∧Md.Doc w' v T E∧Ud.Right T E S∧Below w.heap.size w w'
theorem zL3 (A XA:Option Addr) (n c xn xc:Nat) (T0:List Rw.Row) (E0:List Int) (w:World) (hn:T0.length=n) (hxn:E0.length=xn) (hnb:n≤maxLen) (hxb:xn≤maxLen) (hbd:∀r∈T0,zDQ r) (h2:Rw.SeesI w A T0) (hX:Sl w w.heap.size XA (E0.map (Value.int .i64))) (hL:Rw.Laid w) :
 Calls prog 34 #[.agg #[.slice A n c,.slice XA xn xc]] w (zHB w):=by
 have af:Hy (∀W,Below w.heap.size w W→Calls prog 67 #[.agg #[.slice A n c,.slice XA xn xc]] W (zJ0 W)):=hy' fun W hW =>
  zMm A XA n c xn xc T0 E0 W hn hxn hnb hxb hbd (h2.below hW) (hX.below hW hW.size)
 have HL:=hy' hL;have bu:=Rw.At.new w 38 [.slice A n c,.slice XA xn xc];have bj:Below w.heap.size w (w.alloc (.cells #[.slice A n c,.slice XA xn xc] 38)):=(Zc _ _).alloc (Za _) _;have aj:=Rw.At.new (w.alloc (.cells #[.slice A n c,.slice XA xn xc] 38)) 38 [.slice none 0 0,.slice none 0 0];rw[show (w.alloc (.cells #[.slice A n c,.slice XA xn xc] 38)).heap.size=w.heap.size+1 by simp]at aj;obtain⟨wa,az⟩:∃wa,(w.alloc (.cells #[.slice A n c,.slice XA xn xc] 38)).alloc (.cells #[.slice none 0 0,.slice none 0 0] 38)=wa:=⟨_,rfl⟩;have av:Below w.heap.size w wa:=by rw[←az];exact bj.alloc bj.size _
 have ae:Rw.At wa w.heap.size 38 [.slice A n c,.slice XA xn xc]:=by rw[←az];exact bu.alloc _
 have ag:Rw.At wa (w.heap.size+1) 38 [.slice none 0 0,.slice none 0 0]:=by
  rw[←az];exact aj
 have cb:=hy' az;have HB:=hy' av;have cf:=hy' ae;have bl:=hy' ag;have x0:=ae.cell 0 rfl;have x1:=ae.cell 1 rfl;have xl:=ae.lt;clear hn hxn hnb hxb hbd h2 hX hL bu bj aj az av ae ag;go_enter func34,ntmps34;go_upto_region 1 with (fail)
 rw[cb.o];go_wp2_with fail;refine (af.o wa HB.o).mono ?_;rintro e w2 ⟨v2,T,E,rfl,ap,aw,bk,bf,au,ba,ax,a6⟩;have hR:=zNM bk bf au ba ax;obtain⟨A2,c2,XA2,xc2,rfl,bn⟩:=id ap;have bh:=(aw A2 T.length c2 XA2 E.length xc2 rfl).2;obtain⟨n2,bo⟩:∃k,T.length=k:=⟨_,rfl⟩;obtain⟨xn2,ak⟩:∃k,E.length=k:=⟨_,rfl⟩;rw[bo]at ap bk ⊢;rw[ak]at ap bf bh ⊢;unfold zBd at ap ⊢;have aa:=cf.o.below a6;have bw:=bl.o.below a6;have y2:=aa.frozen 0;have y3:=aa.frozen 1;have yl:=aa.lt;have y0:=aa.cell 0 rfl;have y1:=aa.cell 1 rfl;have bm:=aa.set 0 (.slice A2 n2 c2);have aq:=bm.set 1 (.slice XA2 xn2 xc2);have a7:=(ap.setAt aa 0 (.slice A2 n2 c2)).setAt bm 1 (.slice XA2 xn2 xc2);have bb:=(bw.other (show w.heap.size+1≠w.heap.size by omega) (i:=0) (.slice A2 n2 c2)).other (show w.heap.size+1≠w.heap.size by omega) (i:=1) (.slice XA2 xn2 xc2)
 have bc:Below w.heap.size w ((w2.setCell ⟨w.heap.size,0,none⟩ (.slice A2 n2 c2)).setCell ⟨w.heap.size,1,none⟩ (.slice XA2 xn2 xc2)) :=
  ((HB.o.trans (a6.mono HB.o.size)).setCell (p:=⟨w.heap.size,0,none⟩) (Za _) _).setCell (p:=⟨w.heap.size,1,none⟩) (Za _) _
 obtain⟨w3,bi⟩:∃w3,(w2.setCell ⟨w.heap.size,0,none⟩ (.slice A2 n2 c2)).setCell ⟨w.heap.size,1,none⟩ (.slice XA2 xn2 xc2)=w3:=⟨_,rfl⟩;rw[bi]at aq a7 bc bb
 have bp:Calls prog 68 #[.agg #[.slice A2 n2 c2,.slice XA2 xn2 xc2]] w3 fun e w'=>e=.returned (.tuple #[.string ⟨(zAX T).toArray⟩,.string ⟨(zAf (zAs E)).toArray⟩])∧Below w3.heap.size w3 w':=by
  obtain⟨A9,c9,X9,d9,he,cc,b9⟩:=a7;simp only[zBd,XF,X8,Yb,Z2,YH]at he;obtain⟨⟨rfl,_,rfl⟩,rfl,_,rfl⟩:=he;exact zMk A2 n2 c2 XA2 xn2 xc2 T E w3 bo (by omega) ak (by omega) bh (fun r hr=>zEj (hR.ok.good r hr)) (fun x hx=>Ud.isC_bd (ba x hx)) cc b9
 have a1:∀W,Below w.heap.size w W→Calls prog 26 #[.string ⟨(zAX T).toArray⟩,.string ⟨(zAf (zAs E)).toArray⟩] W (zHR T (C.chars (zAs E)) W):=fun W hW=>by
  refine zIV _ _ ?_ ?_ T (zAs E) ?_ ?_ hR.ok hR.ok.bd W (HL.o.next hW)
  · rw[zAv];have:=zCj T (fun r hr=>zEj (hR.ok.good r hr));omega
  · rw[zAv];have h1:=zD9 (zAs E) (fun d hd=>Ud.isC_bd (ba d ((zCk _ _).1 hd)));have h2:=zEh E;omega
  · exact Ud.parse_txt hR
  exact Ud.parse_btxt hR
 obtain⟨s1,ai⟩:∃y:ByteArray,⟨(zAX T).toArray⟩=y:=⟨_,rfl⟩;obtain⟨s2,ah⟩:∃y:ByteArray,⟨(zAf (zAs E)).toArray⟩=y:=⟨_,rfl⟩;rw[ai,ah]at bp;simp only[ai,ah]at a1;obtain⟨S,hS⟩:∃S,C.chars (zAs E)=S:=⟨_,rfl⟩;rw[hS]at hR a1;have b6:=hy' bi;have b7:=hy' aq;have cd:=hy' a7;have b4:=hy' bc;have cj:=hy' bb;have bz:=hy' a1;have HR:=hy' hR;have ck:=aq.lt;have z0:=aq.cell 0 rfl;have z1:=aq.cell 1 rfl;clear ap bn bm aq a7 bc bi aa bw bb bo ak a6 aw bk bf au ba ax bh hR a1 hS ai ah x0 x1;go_upto_region 2 with (fail)
 rw[b6.o];clear y0 y1 y2 y3 yl;go_wp2_with fail;refine bp.mono ?_;rintro e w4 ⟨rfl,ar⟩;have bg:=hy' (b4.o.trans (ar.mono b4.o.size));have bs:=hy' (cd.o.below ar);have b1:=hy' (b7.o.below ar);have bx:=hy' (cj.o.below ar);clear ar bp z0 z1;go_wp2_with fail;refine (bz.o w4 bg.o).mono ?_;rintro e w5 ⟨p,rfl,b2,ay⟩;have cg:=hy' (bg.o.trans (ay.mono bg.o.size));have ch:=hy' (bs.o.below ay);have a8:=b1.o.below ay;have ao:=bx.o.below ay;have b8:=hy' b2;have z0:=a8.cell 0 rfl;have z1:=a8.cell 1 rfl;have zl:=a8.lt;have k0:=ao.frozen 0;have k1:=ao.frozen 1;have kl:=ao.lt;have k2:=ao.cell 0 rfl;have k3:=ao.cell 1 rfl;have bq:=hy' ao;clear b2 ay a8 ao bz HL b1 bx bs af;go_wp2_with fail;go_region;go_wp2_with fail;have h1:=bq.o.set 0 (.slice A2 n2 c2);have h2:=h1.set 1 (.slice XA2 xn2 xc2);have bt:=(b8.o.setAt bq.o 0 (.slice A2 n2 c2)).setAt h1 1 (.slice XA2 xn2 xc2);have b3:=(ch.o.setAt bq.o 0 (.slice A2 n2 c2)).setAt h1 1 (.slice XA2 xn2 xc2)
 have br:Below w.heap.size w ((w5.setCell ⟨w.heap.size+1,0,none⟩ (.slice A2 n2 c2)).setCell ⟨w.heap.size+1,1,none⟩ (.slice XA2 xn2 xc2)) :=
  (cg.o.setCell (p:=⟨w.heap.size+1,0,none⟩) (ZW _) _).setCell (p:=⟨w.heap.size+1,1,none⟩) (ZW _) _
 obtain⟨w6,b5⟩:∃w6,(w5.setCell ⟨w.heap.size+1,0,none⟩ (.slice A2 n2 c2)).setCell ⟨w.heap.size+1,1,none⟩ (.slice XA2 xn2 xc2)=w6:=⟨_,rfl⟩;rw[b5]at h2 bt b3 br ⊢;refine YF (zHK rfl _ _ (w.heap.size+1) _ _ _ _ rfl (show w6.drew.heap[w.heap.size+1]?=_ from h2) underlying38 rfl (by kernel_rfl)) rfl ?_;exact⟨p,.agg #[.slice A2 n2 c2,.slice XA2 xn2 xc2],T,E,S,rfl,bt.below (Zc _ _).drew,b3.below (Zc _ _).drew,HR.o,br.drew⟩
end Go.Proofs.YthngjlllojiacaaGreatDoor
