/- Where a box of two slices is stored to, what is read elsewhere stays. -/
import Derived.Test.YtddbccflcekdpaaGreatDoorMdRight
set_option maxRecDepth 100000
set_option maxHeartbeats 4000000
set_option linter.unusedVariables false
set_option linter.unusedSimpArgs false
namespace Go.Proofs.YtddbccflcekdpaaGreatDoor
open Go.Proofs.Tryz
open Go.RowKit
theorem zI2 {E:List Int} (h:∀c∈E,C.isC c=true):C.mem (C.chars E)=Md.xs E:=by
 funext d
 rw[(zC5 _).2 d];unfold Md.xs
 by_cases hd:d∈E
 · rw[h d hd,JP]
 rw[Zu hd,Xx]
theorem Sl.setAt {w:World} {B:Nat} {A:Option Addr} {xs cs:List Value} {b:Nat} {t:TypeId} (h:Sl w B A xs) (aa:Rw.At w b t cs) (hd:∀x,xs[0]?=some x→x∉cs) (i:Nat) (v:Value):Sl (w.setCell ⟨b,i,none⟩ v) B A xs:=by
 intro hx;obtain⟨g,o,hA,hg,hc⟩:=h hx
 have hne:g≠b:=fun e=>by
  subst e;have h0:=hc 0 hx;rw[Zb hx]at h0;refine hd _ (Zb hx) ?_;unfold Rw.At at aa;simp[World.cell?,aa]at h0;exact Zn h0
 refine⟨g,o,hA,hg,fun j hj=>?_⟩;rw[←hc j hj];have he:=Yn w ⟨b,i,none⟩ v g hne;unfold World.cell?;simp only[he]
theorem Md.Doc.setAt {w:World} {v:Value} {T:List Rw.Row} {E:List Int} (h:Md.Doc w v T E) {b:Nat} {A0 A1:Option Addr} {n0 c0 n1 c1:Nat} {t:TypeId} (aa:Rw.At w b t [.slice A0 n0 c0,.slice A1 n1 c1]) (i:Nat) (u:Value):Md.Doc (w.setCell ⟨b,i,none⟩ u) v T E:=by
 have hi:∀(l:List Int) x,(l.map (Value.int .i64))[0]?=some x→x∉[Value.slice A0 n0 c0,Value.slice A1 n1 c1]:=by
  intro l x hx hm;cases l with
  | nil=>simp at hx
  | cons y l=>simp at hx;subst hx;simp at hm
 obtain⟨A,c,XA,xc,rfl,⟨ads,hl,hs,hm⟩,hx⟩:=h;refine⟨A,c,XA,xc,rfl,⟨ads,hl,?_,fun j r a h1 h2=>?_⟩,?_⟩
 · rw[ZQ];refine hs.setAt aa (fun x hx hm=>?_) i u;cases T with
   | nil=>simp[zBn]at hx
   | cons r T =>
     cases ads with
     | nil=>simp at hl
     | cons a ads=>simp[zBn]at hx;subst hx;simp at hm
 · rw[ZQ];exact (hm j r a h1 h2).setAt aa (hi _) i u
 rw[ZQ];exact hx.setAt aa (hi _) i u
structure Ud.Right (T:List Rw.Row) (E S:List Int):Prop where
 tl:T.length≤20
 el:E.length≤30
 rok:∀r∈T,Md.rok r
 ec:∀c∈E,C.isC c=true
 ok:Ud.Ok T S
 mem:C.mem S=Md.xs E
 sl:S.length≤60
theorem zEB {r:Rw.Row} (h:Md.good r):Rw.right r :=
 ⟨(Ud.isC_bd h.1).1,(Ud.isC_bd h.1).2,h.2.1,h.2.2.1,h.2.2.2.1,fun c hc=>Ud.isC_bd (h.2.2.2.2.2 c hc).1⟩
theorem Ud.rise_of:∀(T:List Rw.Row) (c:Int),Md.rises T→(∀r∈T,c<r.1)→zDj c T
 | [],_,_,_=>trivial
 | r::T,c,h,hc=>by
   unfold Md.rises at h;rw[XD]at h;exact⟨hc r Zt,Ud.rise_of T r.1 h.2 h.1⟩
theorem zOj {T:List Rw.Row} {E:List Int} (h1:T.length≤20) (h2:E.length≤30) (h3:∀r∈T,Md.rok r) (h4:∀c∈E,C.isC c=true) (h5:Md.chk T (Md.xs E)=0):Ud.Right T E (C.chars (zAu E)):=by
 have hm:C.mem (C.chars (zAu E))=Md.xs E:=by
  rw[zI2 fun c hc=>h4 c ((zCv _ _).1 hc)];funext d
  unfold Md.xs;rw[Z9,ZW,ZW,zCv]
 have hl:(C.chars (zAu E)).length≤60:=by
  have g1:=C.chars_len (zAu E);have g2:=zEz E;omega
 exact⟨h1,h2,h3,h4,⟨by rw[hm];exact h5,(zC5 _).1.1,by omega,by omega⟩,hm,hl⟩
theorem Ud.parse_txt {T:List Rw.Row} {E S:List Int} (h:Ud.Right T E S):Rw.parse (zB2 T)=some T:=by
 rw[Rw.parse_txt T (fun r hr=>⟨zEB (h.ok.good r hr),.inl (h.ok.good r hr).1⟩) (Ud.rise_of T (-1) h.ok.rises fun r hr=>by have:=(Ud.isC_bd (h.ok.good r hr).1).1;omega) (by have:=h.tl;omega)];congr 1;rw[List.filter_eq_self];intro r hr;have hl:=(h.rok r hr).2.2.2.2;unfold Rw.quiet;simp only[Yv,XL,Z0]
 by_cases h0:r.2.1=0
 · exact .inr fun e=>hl h0 (Zz e)
 exact .inl h0
theorem Ud.parse_btxt {T:List Rw.Row} {E S:List Int} (h:Ud.Right T E S):Ex.parse (zAg (zAu E))=some (zAu E) :=
 Ex.parse_btxt _ (fun c hc=>h.ec c ((zCv _ _).1 hc)) (zLr E) (by have:=zEz E;have:=h.el;omega)
theorem Sl.setAtK {w:World} {B:Nat} {A:Option Addr} {xs cs:List Value} {b:Nat} {t:TypeId} (h:Sl w B A xs) (ae:Rw.At w b t cs) (k:Nat) (hd:∀x,xs[k]?=some x→x∉cs) (hk:xs≠[]→k<xs.length) (i:Nat) (v:Value):Sl (w.setCell ⟨b,i,none⟩ v) B A xs:=by
 intro hx;obtain⟨g,o,hA,hg,hc⟩:=h hx;have aa:=hk (List.length_pos_iff.1 hx)
 have hne:g≠b:=fun e=>by
  subst e;have h0:=hc k aa;rw[Zb aa]at h0;refine hd _ (Zb aa) ?_;unfold Rw.At at ae;simp[World.cell?,ae]at h0;exact Zn h0
 refine⟨g,o,hA,hg,fun j hj=>?_⟩;rw[←hc j hj];have he:=Yn w ⟨b,i,none⟩ v g hne;unfold World.cell?;simp only[he]
theorem Sl.setInts {k:IntKind} {w:World} {B:Nat} {A:Option Addr} {l:List Int} {b:Nat} {t:TypeId} {A0 A1:Option Addr} {n0 c0 n1 c1:Nat} (h:Sl w B A (l.map (Value.int k))) (aa:Rw.At w b t [.slice A0 n0 c0,.slice A1 n1 c1]) (i:Nat) (u:Value):Sl (w.setCell ⟨b,i,none⟩ u) B A (l.map (Value.int k)):=by
 refine h.setAtK aa 0 (fun x hx hm=>?_) (fun hne=>List.length_pos_iff.2 hne) i u;cases l with
 | nil=>simp at hx
 | cons y l=>simp at hx;subst hx;simp at hm
theorem Rw.At.setAt {w:World} {b b':Nat} {t t':TypeId} {cs cs':List Value} (h:Rw.At w b' t' cs') (aa:Rw.At w b t cs) (hl:cs.length≠cs'.length) (i:Nat) (u:Value):Rw.At (w.setCell ⟨b,i,none⟩ u) b' t' cs':=by
 refine h.other (fun e=>?_) u;subst e;have:=h.symm.trans aa;simp only[Zh,XH]at this;have h2:=Yb Array.size this.1;simp at h2;omega
theorem Pg.Is.setAt {w:World} {v:Value} {idx:List Int} {bl:List (List Int)} (h:Pg.Is w v idx bl) (hx:2≤idx.length) {b:Nat} {t:TypeId} {A0 A1:Option Addr} {n0 c0 n1 c1:Nat} (aa:Rw.At w b t [.slice A0 n0 c0,.slice A1 n1 c1]) (i:Nat) (u:Value):Pg.Is (w.setCell ⟨b,i,none⟩ u) v idx bl:=by
 obtain⟨g,A,c,h1,h2,h3⟩:=h;refine⟨g,A,c,h1,h2.setAt aa (by simp;omega) i u,?_⟩;rw[ZQ];exact h3.setInts aa i u
theorem Mp.Is.setAt {k:TypeId} {w:World} {m:Nat} {F:Value→Option Value} (h:Mp.Is prog k w m F) {b:Nat} {t:TypeId} {cs:List Value} (aa:Rw.At w b t cs) (i:Nat) (u:Value):Mp.Is prog k (w.setCell ⟨b,i,none⟩ u) m F:=by
 refine h.same (Yn w ⟨b,i,none⟩ u m fun e=>?_);subst e;exact h.notcells aa
theorem Rw.Sees.setAt {w:World} {A:Option Addr} {T:List Rw.Row} (h:Rw.Sees w A T) {b:Nat} {t:TypeId} {A0 A1:Option Addr} {n0 c0 n1 c1:Nat} (aa:Rw.At w b t [.slice A0 n0 c0,.slice A1 n1 c1]) (i:Nat) (u:Value):Rw.Sees (w.setCell ⟨b,i,none⟩ u) A T:=by
 obtain⟨ads,hl,hs,hm⟩:=h;refine⟨ads,hl,?_,fun j r a h1 h2=>?_⟩
 · rw[ZQ];refine hs.setAtK aa 0 (fun x hx hm=>?_) (fun hne=>List.length_pos_iff.2 hne) i u;cases T with
   | nil=>simp[Rw.fl]at hx
   | cons r T =>
     cases ads with
     | nil=>simp at hl
     | cons a ads=>simp[Rw.fl]at hx;subst hx;simp at hm
 rw[ZQ];exact (hm j r a h1 h2).setInts aa i u
theorem Ud.Ents.setAt {w:World} {T:List Rw.Row} {X:Int→Bool} {A:Option Addr} {es:List Ud.At} (h:Ud.Ents w T X A es) {b:Nat} {t:TypeId} {A0 A1:Option Addr} {n0 c0 n1 c1:Nat} (aa:Rw.At w b t [.slice A0 n0 c0,.slice A1 n1 c1]) (i:Nat) (u:Value):Ud.Ents (w.setCell ⟨b,i,none⟩ u) T X A es:=by
 refine⟨h.1,?_,fun j r a h1 h2=>?_⟩
 rotate_left
 · rw[ZQ];exact⟨(h.2.2 j r a h1 h2).1.setInts aa i u,(h.2.2 j r a h1 h2).2.setInts aa i u⟩
 rw[ZQ];have hl:=zGY T X (zAD T) es h.1;refine h.2.1.setAtK aa 2 (fun x hx hm=>?_) (fun hne=>?_) i u
 · cases hmr:zAD T with
   | nil=>rw[hmr]at hx;cases es <;> simp[zBz]at hx
   | cons r l =>
     rw[hmr]at hx;cases es with
     | nil=>simp[zBz]at hx
     | cons a es=>simp[zBz]at hx;subst hx;simp at hm
 have:=List.length_pos_iff.2 hne;rw[hl]at this ⊢;omega
theorem zJw (f:Int→Int):2≤(Pg.idx f 4352).length:=by rw[zCm];decide
theorem Ud.Is.setAt {w:World} {v:Value} {T:List Rw.Row} {S:List Int} (h:Ud.Is w v T S) {b:Nat} {t:TypeId} {B0 B1:Option Addr} {n0 d0 n1 d1:Nat} (aa:Rw.At w b t [.slice B0 n0 d0,.slice B1 n1 d1]) (i:Nat) (u:Value):Ud.Is (w.setCell ⟨b,i,none⟩ u) v T S:=by
 obtain⟨g,A0,c0,XA,xc,pc,pp,A3,c3,mb,jb,A4,c4,A5,c5,A6,c6,es,h1,h2,h3,h4,h5,h6,h7,⟨F,hF,ae⟩,⟨J,hJ,ai⟩,af,ah,ag⟩:=h.is;refine⟨g,A0,c0,XA,xc,pc,pp,A3,c3,mb,jb,A4,c4,A5,c5,A6,c6,es,h1,h2.setAt aa (by simp) i u,h3.setAt aa i u,?_,h5.setAt (zJw _) aa i u,h6.setAt (zJw _) aa i u,h7.setAt aa i u,⟨F,hF.setAt aa i u,fun c=>?_⟩,⟨J,hJ.setAt aa i u,ai⟩,?_,?_,?_⟩
 · rw[ZQ];exact h4.setInts aa i u
 · rcases ae c with hh|⟨A,cap,g1,g2⟩
   · exact .inl hh
   refine .inr ⟨A,cap,g1,?_⟩;rw[ZQ];exact g2.setInts aa i u
 · rw[ZQ];exact af.setInts aa i u
 · rw[ZQ];exact ah.setInts aa i u
 rw[ZQ];exact ag.setInts aa i u
theorem zIc {P:Program} {fn:Func} {p u:Tmp} {ty:TypeId} (h:fn.results = #[.tmp u,.cell p ty]) (tmps:Array Value) (w:World) (g:Nat) (t:TypeId) (cs:Array Value) (fr:Nat × Nat) (d:TypeDesc)
 (hp:tmps.getD p undef=.pointer (some ⟨g,0,none⟩)) (hg:w.heap[g]?=some (.cells cs t fr))
 (hu:P.underlying ty=some d) (hd:(match d with | .struct _ | .array _ _=>true|_=>false)=true) (hi:(P.info? ty).map (·.size)=some cs.size) :
 (results fn tmps).run P w=.ok (.tuple #[tmps.getD u undef,.agg cs]) w:=by
 have aa:tmps[p]?.getD undef=.pointer (some ⟨g,0,none⟩):=by simpa using hp
 simp[results,h,aa,asAddr,X6 w g t ty cs fr d hg hu hd hi]
def zI3 (w:World) (e:Ending) (w':World):Prop :=
 ∃p v T E S,e=.returned (.tuple #[p,v])∧Ud.Is w' p T S∧Md.Doc w' v T E∧Ud.Right T E S∧Below w.heap.size w w'
theorem zLx (A XA:Option Addr) (n c xn xc:Nat) (T0:List Rw.Row) (E0:List Int) (w:World) (hn:T0.length=n) (hxn:E0.length=xn) (hnb:n≤maxLen) (hxb:xn≤maxLen) (hbd:∀r∈T0,zE3 r) (h2:Rw.SeesI w A T0) (hX:Sl w w.heap.size XA (E0.map (Value.int .i64))) (hL:Rw.Laid w) :
 Calls prog 39 #[.agg #[.slice A n c,.slice XA xn xc]] w (zI3 w):=by
 have ae:Hy (∀W,Below w.heap.size w W→Calls prog 67 #[.agg #[.slice A n c,.slice XA xn xc]] W (zJv W)):=hy' fun W hW =>
  zMS A XA n c xn xc T0 E0 W hn hxn hnb hxb hbd (h2.below hW) (hX.below hW hW.size)
 have HL:=hy' hL;have b2:=Rw.At.new w 25 [.slice A n c,.slice XA xn xc];have bh:Below w.heap.size w (w.alloc (.cells #[.slice A n c,.slice XA xn xc] 25)):=(Zc _ _).alloc (Za _) _;have ah:=Rw.At.new (w.alloc (.cells #[.slice A n c,.slice XA xn xc] 25)) 25 [.slice none 0 0,.slice none 0 0];rw[show (w.alloc (.cells #[.slice A n c,.slice XA xn xc] 25)).heap.size=w.heap.size+1 by simp]at ah;obtain⟨wa,az⟩:∃wa,(w.alloc (.cells #[.slice A n c,.slice XA xn xc] 25)).alloc (.cells #[.slice none 0 0,.slice none 0 0] 25)=wa:=⟨_,rfl⟩;have au:Below w.heap.size w wa:=by rw[←az];exact bh.alloc bh.size _
 have af:Rw.At wa w.heap.size 25 [.slice A n c,.slice XA xn xc]:=by rw[←az];exact b2.alloc _
 have ag:Rw.At wa (w.heap.size+1) 25 [.slice none 0 0,.slice none 0 0]:=by
  rw[←az];exact ah
 have ch:=hy' az;have HB:=hy' au;have b9:=hy' af;have bk:=hy' ag;have x0:=af.cell 0 rfl;have x1:=af.cell 1 rfl;have xl:=af.lt;clear hn hxn hnb hxb hbd h2 hX hL b2 bh ah az au af ag;go_enter func39,ntmps39;go_upto_region 1 with (fail)
 rw[ch.o];go_wp2_with fail;refine (ae.o wa HB.o).mono ?_;rintro e w2 ⟨v2,T,E,rfl,ap,ay,bo,bm,aw,a1,ax,a8⟩;have hR:=zOj bo bm aw a1 ax;obtain⟨A2,c2,XA2,xc2,rfl,bn⟩:=id ap;have bi:=(ay A2 T.length c2 XA2 E.length xc2 rfl).2;obtain⟨n2,bp⟩:∃k,T.length=k:=⟨_,rfl⟩;obtain⟨xn2,ai⟩:∃k,E.length=k:=⟨_,rfl⟩;rw[bp]at ap bo ⊢;rw[ai]at ap bm bi ⊢;unfold zBs at ap ⊢;have aa:=b9.o.below a8;have bw:=bk.o.below a8;have y2:=aa.frozen 0;have y3:=aa.frozen 1;have yl:=aa.lt;have y0:=aa.cell 0 rfl;have y1:=aa.cell 1 rfl;have bb:=aa.set 0 (.slice A2 n2 c2);have aq:=bb.set 1 (.slice XA2 xn2 xc2);have a6:=(ap.setAt aa 0 (.slice A2 n2 c2)).setAt bb 1 (.slice XA2 xn2 xc2);have bf:=(bw.other (show w.heap.size+1≠w.heap.size by omega) (i:=0) (.slice A2 n2 c2)).other (show w.heap.size+1≠w.heap.size by omega) (i:=1) (.slice XA2 xn2 xc2)
 have bc:Below w.heap.size w ((w2.setCell ⟨w.heap.size,0,none⟩ (.slice A2 n2 c2)).setCell ⟨w.heap.size,1,none⟩ (.slice XA2 xn2 xc2)) :=
  ((HB.o.trans (a8.mono HB.o.size)).setCell (p:=⟨w.heap.size,0,none⟩) (Za _) _).setCell (p:=⟨w.heap.size,1,none⟩) (Za _) _
 obtain⟨w3,bj⟩:∃w3,(w2.setCell ⟨w.heap.size,0,none⟩ (.slice A2 n2 c2)).setCell ⟨w.heap.size,1,none⟩ (.slice XA2 xn2 xc2)=w3:=⟨_,rfl⟩;rw[bj]at aq a6 bc bf
 have bq:Calls prog 69 #[.agg #[.slice A2 n2 c2,.slice XA2 xn2 xc2]] w3 fun e w'=>e=.returned (.tuple #[.string ⟨(zB2 T).toArray⟩,.string ⟨(zAg (zAu E)).toArray⟩])∧Below w3.heap.size w3 w':=by
  obtain⟨A9,c9,X9,d9,he,cd,cf⟩:=a6;simp only[zBs,XI,Qg,YI,Z3,Xd]at he;obtain⟨⟨rfl,_,rfl⟩,rfl,_,rfl⟩:=he;exact zMP A2 n2 c2 XA2 xn2 xc2 T E w3 bp (by omega) ai (by omega) bi (fun r hr=>zEB (hR.ok.good r hr)) (fun x hx=>Ud.isC_bd (a1 x hx)) cd cf
 have a7:∀W,Below w.heap.size w W→Calls prog 68 #[.string ⟨(zB2 T).toArray⟩,.string ⟨(zAg (zAu E)).toArray⟩] W (zIi T (C.chars (zAu E)) W):=fun W hW=>by
  refine zJq _ _ ?_ ?_ T (zAu E) ?_ ?_ hR.ok hR.ok.bd W (HL.o.next hW)
  · rw[zAy];have:=zCu T (fun r hr=>zEB (hR.ok.good r hr));omega
  · rw[zAy];have h1:=zDl (zAu E) (fun d hd=>Ud.isC_bd (a1 d ((zCv _ _).1 hd)));have h2:=zEz E;omega
  · exact Ud.parse_txt hR
  exact Ud.parse_btxt hR
 obtain⟨s1,aj⟩:∃y:ByteArray,⟨(zB2 T).toArray⟩=y:=⟨_,rfl⟩;obtain⟨s2,ao⟩:∃y:ByteArray,⟨(zAg (zAu E)).toArray⟩=y:=⟨_,rfl⟩;rw[aj,ao]at bq;simp only[aj,ao]at a7;obtain⟨S,hS⟩:∃S,C.chars (zAu E)=S:=⟨_,rfl⟩;rw[hS]at hR a7;have b5:=hy' bj;have b8:=hy' aq;have cg:=hy' a6;have bt:=hy' bc;have cc:=hy' bf;have br:=hy' a7;have HR:=hy' hR;have ck:=aq.lt;have z0:=aq.cell 0 rfl;have z1:=aq.cell 1 rfl;clear ap bn bb aq a6 bc bj aa bw bf bp ai a8 ay bo bm aw a1 ax bi hR a7 hS aj ao x0 x1;go_upto_region 2 with (fail)
 rw[b5.o];clear y0 y1 y2 y3 yl;go_wp2_with fail;refine bq.mono ?_;rintro e w4 ⟨rfl,ar⟩;have bg:=hy' (bt.o.trans (ar.mono bt.o.size));have bx:=hy' (cg.o.below ar);have bs:=hy' (b8.o.below ar);have b3:=hy' (cc.o.below ar);clear ar bq z0 z1;go_wp2_with fail;refine (br.o w4 bg.o).mono ?_;rintro e w5 ⟨p,rfl,b4,av⟩;have b6:=hy' (bg.o.trans (av.mono bg.o.size));have b7:=hy' (bx.o.below av);have ba:=bs.o.below av;have ak:=b3.o.below av;have cj:=hy' b4;have z0:=ba.cell 0 rfl;have z1:=ba.cell 1 rfl;have zl:=ba.lt;have k0:=ak.frozen 0;have k1:=ak.frozen 1;have kl:=ak.lt;have k2:=ak.cell 0 rfl;have k3:=ak.cell 1 rfl;have bl:=hy' ak;clear b4 av ba ak br HL bs b3 bx ae;go_wp2_with fail;go_region;go_wp2_with fail;have h1:=bl.o.set 0 (.slice A2 n2 c2);have h2:=h1.set 1 (.slice XA2 xn2 xc2);have bz:=(cj.o.setAt bl.o 0 (.slice A2 n2 c2)).setAt h1 1 (.slice XA2 xn2 xc2);have b1:=(b7.o.setAt bl.o 0 (.slice A2 n2 c2)).setAt h1 1 (.slice XA2 xn2 xc2)
 have bu:Below w.heap.size w ((w5.setCell ⟨w.heap.size+1,0,none⟩ (.slice A2 n2 c2)).setCell ⟨w.heap.size+1,1,none⟩ (.slice XA2 xn2 xc2)) :=
  (b6.o.setCell (p:=⟨w.heap.size+1,0,none⟩) (ZX _) _).setCell (p:=⟨w.heap.size+1,1,none⟩) (ZX _) _
 obtain⟨w6,cb⟩:∃w6,(w5.setCell ⟨w.heap.size+1,0,none⟩ (.slice A2 n2 c2)).setCell ⟨w.heap.size+1,1,none⟩ (.slice XA2 xn2 xc2)=w6:=⟨_,rfl⟩;rw[cb]at h2 bz b1 bu ⊢;refine YH (zIc rfl _ _ (w.heap.size+1) _ _ _ _ rfl (show w6.drew.heap[w.heap.size+1]?=_ from h2) underlying25 rfl (by kernel_rfl)) rfl ?_;exact⟨p,.agg #[.slice A2 n2 c2,.slice XA2 xn2 xc2],T,E,S,rfl,bz.below (Zc _ _).drew,b1.below (Zc _ _).drew,HR.o,bu.drew⟩
theorem zFB (k:Int) {L:Int} (h:0<L) : -L<k.tmod L∧k.tmod L<L:=by
 rw[Kf];have h1:=Int.emod_nonneg k (show L≠0 by omega);have h2:=JY k h;split
 · omega
 have h3:(L.natAbs:Int)=L:=by omega
 omega
theorem Tx.pick (k:Int) {L:Nat} (h0:0<L) (h:L≤1000000):∃j:Nat,j<L∧(wrap64 (k.tmod L+L)).tmod L=(j:Int):=by
 obtain⟨a1,a2⟩:=zFB k (show (0:Int)<L by omega);have e1:wrap64 (k.tmod L+L)=k.tmod L+L:=by unfold wrap64;omega
 rw[e1];have a3:0≤(k.tmod L+L).tmod L:=Kq _ (by omega);obtain⟨_,a4⟩:=zFB (k.tmod L+L) (show (0:Int)<L by omega);exact⟨((k.tmod L+L).tmod L).toNat,by omega,by omega⟩
theorem zJx {P:Program} {fn:Func} {p u u2 u3:Tmp} {ty:TypeId} (h:fn.results = #[.tmp u,.cell p ty,.tmp u2,.tmp u3]) (tmps:Array Value) (w:World) (g:Nat) (t:TypeId) (cs:Array Value) (fr:Nat × Nat) (d:TypeDesc)
 (hp:tmps.getD p undef=.pointer (some ⟨g,0,none⟩)) (hg:w.heap[g]?=some (.cells cs t fr))
 (hu:P.underlying ty=some d) (hd:(match d with | .struct _ | .array _ _=>true|_=>false)=true) (hi:(P.info? ty).map (·.size)=some cs.size) :
 (results fn tmps).run P w=.ok (.tuple #[tmps.getD u undef,.agg cs,tmps.getD u2 undef,tmps.getD u3 undef]) w:=by
 have aa:tmps[p]?.getD undef=.pointer (some ⟨g,0,none⟩):=by simpa using hp
 simp[results,h,aa,asAddr,X6 w g t ty cs fr d hg hu hd hi]
theorem zOk (k:Int) {L:Nat} (hk:k<0) (h0:0<L) (h:L≤maxLen):∃j:Nat,j<L∧(wrap64 (k.tmod L+L)).tmod L=(j:Int):=by
 simp only[maxLen]at h;obtain⟨a1,a2⟩:=zFB k (show (0:Int)<L by omega)
 have a5:k.tmod L≤0:=by
  rw[Kf];have h2:=JY k (show (0:Int)<L by omega);split
  · rename_i hh;rcases hh with hh|hh
    · omega
    rw[Int.emod_eq_zero_of_dvd hh];exact Yq _
  have h3:((L:Int).natAbs:Int)=L:=by omega
  omega
 have e1:wrap64 (k.tmod L+L)=k.tmod L+L:=by unfold wrap64;omega
 rw[e1];have a3:0≤(k.tmod L+L).tmod L:=Kq _ (by omega);obtain⟨_,a4⟩:=zFB (k.tmod L+L) (show (0:Int)<L by omega);exact⟨((k.tmod L+L).tmod L).toNat,by omega,by omega⟩
theorem zLy {B:Nat} {w w':World} (h:Below B w w') (a:Addr) (u:Value):Below B (w.setCell a u) (w'.setCell a u) :=
 ⟨h.os,h.tape,h.output,by simp[World.setCell];exact h.size,fun k hk=>by simp only[World.setCell,YX,h.block k hk]⟩
def zKC (aa:Nat) (w:World) (e:Ending) (w':World):Prop :=
 ∃(p v:Value) (T:List Rw.Row) (E S l:List Int) (A:Option Addr) (c:Nat),e=.returned (.tuple #[p,v,.slice A l.length c,.bool true])∧Ud.Is w' p T S∧Md.Doc w' v T E∧Ud.Right T E S∧w'.ownsRow w.heap.size 3 1 (.slice A l.length c) l.length (l.map (Value.int .i64))∧(∀x∈l,C.isC x=true)∧l.length≤aa∧(∀w'',w'.grownBy w'' (Value.slice A l.length c).ownBlock→Ud.Is w'' p T S∧Md.Doc w'' v T E)∧Below w.heap.size w w'
theorem zPT {T:List Rw.Row} {E S:List Int} (h:Ud.Right T E S) {r:Rw.Row} (hr:r∈T):C.isC r.1=true∧∀c∈r.2.2,C.isC c=true :=
 ⟨(h.ok.good r hr).1,fun c hc=>((h.ok.good r hr).2.2.2.2.2 c hc).1⟩
theorem zPU:∀c∈([65,97,768,4352,4449,4520,44032,44033]:List Int),C.isC c=true:=by decide
theorem zOl (A XA PA MA:Option Addr) (n c xn xc pn pc mn mc:Nat) (T0:List Rw.Row) (E0 P M:List Int) (au:Nat) (w:World) (hn:T0.length=n) (hxn:E0.length=xn) (hpn:P.length=pn) (hmn:M.length=mn) (hnb:n≤maxLen) (hxb:xn≤maxLen) (hpb:pn≤maxLen) (hmb:mn≤maxLen) (fm:au≤1000) (hbd:∀r∈T0,zE3 r)
 (h2:Rw.SeesI w A T0) (hX:Sl w w.heap.size XA (E0.map (Value.int .i64))) (hP:Sl w w.heap.size PA (P.map (Value.int .i64))) (hM:Sl w w.heap.size MA (M.map (Value.int .i64))) (hL:Rw.Laid w) :
 Calls prog 11 #[.agg #[.slice A n c,.slice XA xn xc,.slice PA pn pc,.slice MA mn mc],.int .i64 au] w (zKC au w):=by
 obtain⟨i0,c8,ct,ch,cd⟩:=Z7 zDE
 have bs:Hy (∀W,Below w.heap.size w W→Calls prog 39 #[.agg #[.slice A n c,.slice XA xn xc]] W (zI3 W)):=hy' fun W hW =>
  zLx A XA n c xn xc T0 E0 W hn hxn hnb hxb hbd (h2.below hW) (hX.below hW hW.size) (hL.next hW)
 obtain⟨wa,cn⟩:∃wa,(w.alloc (.cells #[.slice A n c,.slice XA xn xc,.slice PA pn pc,.slice MA mn mc] 27)).alloc (.cells #[.slice none 0 0,.slice none 0 0] 25)=wa:=⟨_,rfl⟩;have b5:Below w.heap.size w wa:=by rw[←cn];exact ((Zc _ _).alloc (Za _) _).alloc (by simp) _
 have cm:Rw.At wa w.heap.size 27 [.slice A n c,.slice XA xn xc,.slice PA pn pc,.slice MA mn mc]:=by
  rw[←cn];exact (Rw.At.new w 27 [.slice A n c,.slice XA xn xc,.slice PA pn pc,.slice MA mn mc]).alloc _
 have c7:Rw.At wa (w.heap.size+1) 25 [.slice none 0 0,.slice none 0 0]:=by
  have:=Rw.At.new (w.alloc (.cells #[.slice A n c,.slice XA xn xc,.slice PA pn pc,.slice MA mn mc] 27)) 25 [.slice none 0 0,.slice none 0 0];rw[ZL]at this;rw[←cn];exact this
 have fk:=hy' cn;have ei:=hy' b5;have ew:=hy' cm;have b9:=hy' c7;have eb:=hy' hpn;have eu:=hy' hmn;have gw:=hy' (hP.below b5 b5.size);have fo:=hy' (hM.below b5 b5.size);have x0:=cm.cell 0 rfl;have x1:=cm.cell 1 rfl;have xl:=cm.lt;clear cn b5 cm c7 hn hxn hnb hxb hbd h2 hX hL hP hM hpn hmn;go_enter func11,ntmps11;go_upto_region 1 with (fail)
 rw[fk.o];go_wp2_with fail;refine (bs.o wa ei.o).mono ?_;rintro e w2 ⟨p,v2,T,E,S,rfl,en,bz,hR,bb⟩;obtain⟨pb,rfl,gz⟩:=en.form;obtain⟨A2,c2,XA2,xc2,rfl,ef⟩:=id bz;obtain⟨n2,ej⟩:∃k,T.length=k:=⟨_,rfl⟩;obtain⟨xn2,cz⟩:∃k,E.length=k:=⟨_,rfl⟩;rw[ej,cz]at bz ⊢;unfold zBs at bz ⊢;obtain⟨w3,dt⟩:∃w3,w2.alloc (.cells #[.slice A2 n2 c2,.slice XA2 xn2 xc2] 25)=w3:=⟨_,rfl⟩;have bn:Below w2.heap.size w2 w3:=by rw[←dt];exact (Zc _ _).alloc (Za _) _
 have aa:Rw.At w3 w2.heap.size 25 [.slice A2 n2 c2,.slice XA2 xn2 xc2]:=by rw[←dt];exact Rw.At.new w2 25 [.slice A2 n2 c2,.slice XA2 xn2 xc2]
 have df:=ew.o.below (bb.trans (bn.mono bb.size));have gq:=hy' dt;have cj:Below w.heap.size w w3:=ei.o.trans ((bb.trans (bn.mono bb.size)).mono ei.o.size);have cc:=hy' (bb.trans (bn.mono bb.size));have b3:=hy' cj;have hk:=hy' df;have ap:=hy' (b9.o.below (bb.trans (bn.mono bb.size)));have bx:=hy' aa;have bk:=hy' (en.below bn);have dr:=hy' (bz.below bn)
 have e4:Hy (Rw.SeesI w3 A2 T):=by
  obtain⟨A9,c9,X9,d9,he,gh,h6⟩:=bz.below bn;simp only[zBs,XI,Qg,YI,Z3,Xd]at he;obtain⟨⟨rfl,_,rfl⟩,rfl,_,rfl⟩:=he;exact hy' gh
 have HR:=hy' hR;have hh:=hy' ej;have gv:n2≤20:=by have:=hR.tl;omega
 have gu:w.heap.size+1<w2.heap.size:=Zg b9.o.lt bb.size;clear x0 x1 bz ef bb bn aa en dt cj df hR ej cz bs fk;go_upto_region 2 with (fail)
 rw[gq.o]
 have ag:(w3.alloc (.cells #[.int .i64 65,.int .i64 97,.int .i64 768,.int .i64 4352,.int .i64 4449,.int .i64 4520,.int .i64 44032,.int .i64 44033] 3)).ownsRow w3.heap.size 3 1 (.slice (some ⟨w3.heap.size,0,none⟩) 8 8) 8 (([65,97,768,4352,4449,4520,44032,44033]:List Int).map (Value.int .i64)) :=
  World.ownsRow_lit w3 #[.int .i64 65,.int .i64 97,.int .i64 768,.int .i64 4352,.int .i64 4449,.int .i64 4520,.int .i64 44032,.int .i64 44033] 8 (Za _) (by decide) rfl
 obtain⟨w4,dp⟩:∃w4,w3.alloc (.cells #[.int .i64 65,.int .i64 97,.int .i64 768,.int .i64 4352,.int .i64 4449,.int .i64 4520,.int .i64 44032,.int .i64 44033] 3)=w4:=⟨_,rfl⟩;have bg:Below w3.heap.size w3 w4:=by rw[←dp];exact (Zc _ _).alloc (Za _) _
 rw[dp]at ag;have cr:=hy' ag;have gg:=hy' bg;have gf:=hy' dp;have aw:=bx.o.below bg;have y0:=aw.cell 0 rfl;have yl:=aw.lt;clear dp ag bg aw;go_upto_region 5 with (fail)
 rw[gf.o];go_wp2_with fail;clear y0 yl;go_loopw [10,29] (fun v6 i wr=>∃(j:Nat) (v:Value) (xs:List Int),j≤n2∧i=.int .i64 j∧v6=v∧wr.ownsRow w3.heap.size 3 1 v xs.length (xs.map (Value.int .i64))∧(∀x∈xs,C.isC x=true)∧(xs.length≤8+j*3∧0<xs.length)∧Below w3.heap.size w3 wr) (fun _ i _=>n2-(intOf i).toNat)
 case atStart=>exact⟨0,_,[65,97,768,4352,4449,4520,44032,44033],ZG _,rfl,rfl,cr.o,zPU,by simp,gg.o⟩
 obtain⟨j,h0,xs,hj,rfl,rfl,ak,hxb,e6,aj⟩:=hrel;have ba:Below w3.heap.size w3 wr:=aj;have ae:=hy' ak;have et:=hy' hxb;have ah:=hy' aj
 by_cases hlt:j<n2
 · obtain⟨r,hr⟩:∃r,T[j]?=some r:=⟨_,Zb (by rw[hh.o];exact hlt)⟩;have eo:=Zn hr;have fg:=zPT HR.o eo;have fy:=(HR.o.rok r eo).2.2.1;have cp:=e4.o;obtain⟨b,o,a,fz,hb,fu,fh,ft,fc⟩:=cp.row hr;have c0:=((zAI ba).1 b (o+j*3) hb).trans fu;have c1:=((zAI ba).1 b (o+j*3+1) hb).trans fh;have c2:=((zAI ba).1 b (o+j*3+2) hb).trans ft;have hz:b<wr.heap.size:=Zg hb ba.size;obtain⟨ml,bu⟩:∃k,r.2.2.length=k:=⟨_,rfl⟩;rw[bu]at c2 fy;have jI:(j:Int)<n2:=by omega
   have h7:(0:Int)≤j:=by omega
   obtain⟨wb,dy⟩:∃wb,wr.alloc (.cells #[.int .i64 r.1,.int .i64 r.2.1,.slice a.1 ml a.2] 68)=wb:=⟨_,rfl⟩;have cf:Rw.At wb wr.heap.size 68 [.int .i64 r.1,.int .i64 r.2.1,.slice a.1 ml a.2]:=by rw[←dy];exact Rw.At.new wr 68 [.int .i64 r.1,.int .i64 r.2.1,.slice a.1 ml a.2]
   have dv:Below wr.heap.size wr wb:=by rw[←dy];exact (Zc _ _).alloc (Za _) _
   have ho:=hy' dy;have bc:=hy' cf;have dx:=hy' dv;have cb:=hy' (zA4 ak dv (Za _));have eh:=hy' ((fc.below ba (Za _)).below (dv.mono ba.size) (Za _));have cu:=hy' bu;subst fz;clear fu fh ft fc ba ak hxb aj hr eo bu dy cf dv cp;go_upto_region 8 with (fail)
   rw[ho.o];refine Stg.wp_region (by kernel_rfl) (Stg.Keep (· = wr.heap.size)) (Stg.Keep.rel _) ?_;have e0:=Stg.Keep.cells (s:=(· = wr.heap.size)) (w:=wb.drew) (bc.o.cell 0 rfl) rfl;have e2:=Stg.Keep.cells (s:=(· = wr.heap.size)) (w:=wb.drew) (bc.o.cell 2 rfl) rfl;(iterate 3 (refine Stg.read 0 (by kernel_rfl) wb.drew rfl ?_;intro K hK;go_big_quiet_op;go_big_quiet_on))
   refine Stg.stepW (by kernel_rfl) wb.drew rfl ?_;intro K hK;go_simp;obtain⟨wd,az⟩:∃wd,(wb.alloc (.cells #[.int .i64 r.1] 3)).drew=wd:=⟨_,rfl⟩;have hbd:Below wb.heap.size wb wd:=by rw[←az];exact ((Zc _ _).alloc (Za _) _).drew
   have ck:wd.cell? ⟨wb.heap.size,0,none⟩=some (.int .i64 r.1):=by rw[←az];exact (Rw.At.new wb 3 [.int .i64 r.1]).cell 0 rfl
   have ao:=zA4 cb.o hbd (Za _);have bl:=Zi ah.o.size (Zi dx.o.size hbd.size);have ax:=bc.o.below hbd;refine hK _ _ (by rintro q rfl;rw[az];exact ax.trans bc.o.symm) ?_;rw[az];intro A' av;subst av;refine Stg.stepW (by kernel_rfl) wd rfl ?_;intro K hK;refine zKL _ _ _ _ rfl w3.heap.size 3 i0 _ 8 underlying23 c8 ct ch cd rfl _ xs.length _ rfl ao (.int .i64 r.1) rfl wb.heap.size rfl ck (by simp only[maxLen];omega) (by omega) bl ?_;intro v9 w9 aq bo dw;have aa:=ax.grown dw (fun e=>zAC ao (by decide) _ e _ _ ax);have fj:=(dx.o.mono ah.o.size).trans ((hbd.mono (Zi ah.o.size dx.o.size)).trans bo);have di:=eh.o.below ((hbd.mono (Zi ah.o.size dx.o.size)).trans bo) (Za _);refine hK _ _ (by rintro q rfl;exact aa.trans ax.symm) ?_;intro A' av;simp only[Act.put,Zf,Zk,Zj]at av;subst av;(iterate 2 (refine Stg.read 2 (by kernel_rfl) wb.drew rfl ?_;intro K hK;go_big_quiet_op;go_big_quiet_on))
   refine Stg.stepW (by kernel_rfl) w9 rfl ?_;intro K hK;refine zAO _ _ _ _ rfl w3.heap.size 3 i0 _ 1 8 underlying23 c8 ct ch cd rfl (by decide) v9 (xs.length+1) _ rfl aq w3.heap.size a.1 ml _ (r.2.2.map (Value.int .i64)) rfl (by rw[Ze,cu.o];omega) di (by intro u hu;obtain⟨y,_,rfl⟩:=List.mem_map.1 hu;rfl) (by simp only[maxLen];omega) (by omega) (Zi bl bo.size) ?_;intro v10 fw ay cw dh;have bp:=aa.grown dh (fun e=>zAC aq (by decide) _ e _ _ aa);refine hK _ _ (by rintro q rfl;exact bp.trans aa.symm) ?_;intro A' av;simp only[Act.put,Zf,Zk,Zj]at av;subst av;refine Stg.readW (by kernel_rfl) ?_;intro K hK;go_big_quiet_op;go_big_quiet_on;refine Stg.nil fw rfl ?_;have e9:(xs++[r.1]++r.2.2).length=xs.length+1+ml:=by simp[cu.o];omega
   have a8:fw.ownsRow w3.heap.size 3 1 v10 (xs++[r.1]++r.2.2).length ((xs++[r.1]++r.2.2).map (Value.int .i64)):=by
    rw[e9];simpa using ay
   have ee:=hy' a8;have eg:=hy' (ah.o.trans (fj.trans cw));have hl:=hy' e9;clear a8 ay aq ao bp aa ax dh dw cw bo di fj hbd ck az e9;go_wp2_with fail
   exact⟨⟨j+1,_,xs++[r.1]++r.2.2,by omega,by go_num,rfl,ee.o,fun x hx=>by
    rcases List.mem_append.1 hx with hx|hx
    · rcases List.mem_append.1 hx with hx|hx
      · exact et.o x hx
      rw[Zw]at hx;subst hx;exact fg.1
    exact fg.2 x hx,by rw[hl.o];omega,eg.o⟩,by simp[intOf];omega⟩
 obtain rfl:n2=j:=by omega
 have jI:¬(n2:Int)<n2:=by omega
 obtain⟨A9,c9,rfl⟩:=zA2 ak;obtain⟨w5,rfl⟩:∃w5:World,w5=wr:=⟨_,rfl⟩;obtain⟨xn,hxn⟩:∃k,xs.length=k:=⟨_,rfl⟩;rw[hxn]at ak e6 ⊢;have b1:=hy' hxn;have gm:=hy' (Sl.of_own ak);have du:=hy' (cc.o.trans (ba.mono cc.o.size));have af:=hy' ba;have dk:=e6.2;have gy:xn≤1000:=by omega
 clear ak hxb aj ba hxn e6 ae hj jI;go_upto_region 10 with (fail)
 go_upto_region 12 with (fail)
 go_loopw [13,14] (fun gi i wr=>∃(k:Nat) (sl:Value) (l:List Int),k≤pn∧k≤au∧i=.int .i64 k∧gi=sl∧wr.ownsRow w5.heap.size 3 1 sl k (l.map (Value.int .i64))∧l.length=k∧(∀x∈l,C.isC x=true)∧Below w5.heap.size w5 wr) (fun _ i _=>au-(intOf i).toNat)
 case atStart=>exact⟨0,_,[],ZG _,ZG _,rfl,rfl,ZI _ _ _ _,rfl,fun x hx=>absurd hx Z6,Zc _ _⟩
 obtain⟨k,sl,l,hkp,fe,rfl,rfl,ak,b2,fp,aj⟩:=hrel;have ae:=hy' ak;have cq:=hy' fp;have b7:=hy' b2;have ah:=hy' aj;have dl:=aj.size;have b4:=du.o.trans (aj.mono du.o.size);have bi:=ew.o.below b4;have x2:=bi.cell 2 rfl;have x3:=bi.cell 3 rfl;have xl:=bi.lt;have b8:=hy' (gm.o.below aj aj.size);have e7:=hy' (gw.o.below b4 b4.size);have gj:=hy' (fo.o.below b4 b4.size);clear ak fp b2 aj bi
 by_cases hp:k<pn
 rotate_left
 · have kP:¬(k:Int)<pn:=by omega
   obtain⟨a7,a6,rfl⟩:=zA2 ae.o;have ai:=af.o.trans (ah.o.mono af.o.size);have aa:=bx.o.below ai;have h5:=ap.o.below ai;have y0:=aa.cell 0 rfl;have y1:=aa.cell 1 rfl;have yl:=aa.lt;have k2:=h5.cell 0 rfl;have k3:=h5.cell 1 rfl;have k4:=h5.frozen 0;have k5:=h5.frozen 1;have kl:=h5.lt;have e5:=hy' (bk.o.below ai);have ez:=hy' (dr.o.below ai);have H5:=hy' h5;have bm:=hy' (b3.o.trans (ai.mono b3.o.size));have bf:=hy' (zAw ae.o (Zi b3.o.size af.o.size))
   have hne:(Value.slice a7 k a6).ownBlock=none∨(Value.slice a7 k a6).ownBlock≠some (w.heap.size+1):=by
    cases hg:(Value.slice a7 k a6).ownBlock with
    | none=>exact .inl rfl
    | some g =>
      refine .inr fun e=>?_
      obtain rfl:=X8 e;have h1:=(zB8 ae.o hg).1;have h2:=af.o.size;have h3:=ap.o.lt;omega
   have ed:=hy' hne;have ec:=hy' (fun g (hg:(Value.slice a7 k a6).ownBlock=some g)=>(zB8 ae.o hg).1);clear ai aa h5 ae hne;go_upto_region 18 with (fail)
   go_region;go_wp2_with fail;have h1:=H5.o.set 0 (.slice A2 n2 c2);have h2:=h1.set 1 (.slice XA2 xn2 xc2);have cy:=(e5.o.setAt H5.o 0 (.slice A2 n2 c2)).setAt h1 1 (.slice XA2 xn2 xc2);have dc:=(ez.o.setAt H5.o 0 (.slice A2 n2 c2)).setAt h1 1 (.slice XA2 xn2 xc2)
   have cv:Below w.heap.size w ((wr.setCell ⟨w.heap.size+1,0,none⟩ (.slice A2 n2 c2)).setCell ⟨w.heap.size+1,1,none⟩ (.slice XA2 xn2 xc2)) :=
    (bm.o.setCell (p:=⟨w.heap.size+1,0,none⟩) (ZX _) _).setCell (p:=⟨w.heap.size+1,1,none⟩) (ZX _) _
   have ey:wr.grownBy ((wr.setCell ⟨w.heap.size+1,0,none⟩ (.slice A2 n2 c2)).setCell ⟨w.heap.size+1,1,none⟩ (.slice XA2 xn2 xc2)) (some (w.heap.size+1)):=zA0 (Rw.grown_set _ _ _) (Rw.grown_set _ _ _);have ar:=JZ bf.o ey ed.o;obtain⟨w6,c6⟩:∃w6,(wr.setCell ⟨w.heap.size+1,0,none⟩ (.slice A2 n2 c2)).setCell ⟨w.heap.size+1,1,none⟩ (.slice XA2 xn2 xc2)=w6:=⟨_,rfl⟩;rw[c6]at h2 cy dc cv ar ⊢;have bt:=ap.o.below af.o;have dm:=bt.set 0 (.slice A2 n2 c2);have i5:=((bk.o.below af.o).setAt bt 0 (.slice A2 n2 c2)).setAt dm 1 (.slice XA2 xn2 xc2);have d5:=((dr.o.below af.o).setAt bt 0 (.slice A2 n2 c2)).setAt dm 1 (.slice XA2 xn2 xc2);have bj:=zLy (zLy ah.o ⟨w.heap.size+1,0,none⟩ (.slice A2 n2 c2)) ⟨w.heap.size+1,1,none⟩ (.slice XA2 xn2 xc2);rw[c6]at bj;obtain⟨w7,dn⟩:∃w7,(w5.setCell ⟨w.heap.size+1,0,none⟩ (.slice A2 n2 c2)).setCell ⟨w.heap.size+1,1,none⟩ (.slice XA2 xn2 xc2)=w7:=⟨_,rfl⟩;have cg:w7.heap.size=w5.heap.size:=by rw[←dn,ZQ,ZQ]
   rw[dn]at i5 d5 bj;refine YH (zJx rfl _ _ (w.heap.size+1) _ _ _ _ rfl (show w6.drew.heap[w.heap.size+1]?=_ from h2) underlying25 rfl (by kernel_rfl)) rfl ?_;have b2:=b7.o;subst b2
   exact⟨_,.agg #[.slice A2 n2 c2,.slice XA2 xn2 xc2],T,E,S,l,a7,a6,rfl,cy.below (Zc _ _).drew,dc.below (Zc _ _).drew,HR.o,zA4 ar (Zc _ _).drew (Za _),cq.o,fe,(fun w'' hg=>by
    have cx:Below w7.heap.size w7 w'':=by
     rw[cg];exact bj.trans ((Zc _ _).drew.trans (zAf hg (by have:=bj.size;rw[cg]at this;exact this) fun q hq=>ec.o q hq))
    exact⟨i5.below cx,d5.below cx⟩),cv.drew⟩
 by_cases hm:k<au
 rotate_left
 · have kP:(k:Int)<pn:=by omega
   have kM:¬(k:Int)<au:=by omega
   obtain⟨a7,a6,rfl⟩:=zA2 ae.o;have ai:=af.o.trans (ah.o.mono af.o.size);have aa:=bx.o.below ai;have h5:=ap.o.below ai;have y0:=aa.cell 0 rfl;have y1:=aa.cell 1 rfl;have yl:=aa.lt;have k2:=h5.cell 0 rfl;have k3:=h5.cell 1 rfl;have k4:=h5.frozen 0;have k5:=h5.frozen 1;have kl:=h5.lt;have e5:=hy' (bk.o.below ai);have ez:=hy' (dr.o.below ai);have H5:=hy' h5;have bm:=hy' (b3.o.trans (ai.mono b3.o.size));have bf:=hy' (zAw ae.o (Zi b3.o.size af.o.size))
   have hne:(Value.slice a7 k a6).ownBlock=none∨(Value.slice a7 k a6).ownBlock≠some (w.heap.size+1):=by
    cases hg:(Value.slice a7 k a6).ownBlock with
    | none=>exact .inl rfl
    | some g =>
      refine .inr fun e=>?_
      obtain rfl:=X8 e;have h1:=(zB8 ae.o hg).1;have h2:=af.o.size;have h3:=ap.o.lt;omega
   have ed:=hy' hne;have ec:=hy' (fun g (hg:(Value.slice a7 k a6).ownBlock=some g)=>(zB8 ae.o hg).1);clear ai aa h5 ae hne;go_upto_region 18 with (fail)
   go_region;go_wp2_with fail;have h1:=H5.o.set 0 (.slice A2 n2 c2);have h2:=h1.set 1 (.slice XA2 xn2 xc2);have cy:=(e5.o.setAt H5.o 0 (.slice A2 n2 c2)).setAt h1 1 (.slice XA2 xn2 xc2);have dc:=(ez.o.setAt H5.o 0 (.slice A2 n2 c2)).setAt h1 1 (.slice XA2 xn2 xc2)
   have cv:Below w.heap.size w ((wr.setCell ⟨w.heap.size+1,0,none⟩ (.slice A2 n2 c2)).setCell ⟨w.heap.size+1,1,none⟩ (.slice XA2 xn2 xc2)) :=
    (bm.o.setCell (p:=⟨w.heap.size+1,0,none⟩) (ZX _) _).setCell (p:=⟨w.heap.size+1,1,none⟩) (ZX _) _
   have ey:wr.grownBy ((wr.setCell ⟨w.heap.size+1,0,none⟩ (.slice A2 n2 c2)).setCell ⟨w.heap.size+1,1,none⟩ (.slice XA2 xn2 xc2)) (some (w.heap.size+1)):=zA0 (Rw.grown_set _ _ _) (Rw.grown_set _ _ _);have ar:=JZ bf.o ey ed.o;obtain⟨w6,c6⟩:∃w6,(wr.setCell ⟨w.heap.size+1,0,none⟩ (.slice A2 n2 c2)).setCell ⟨w.heap.size+1,1,none⟩ (.slice XA2 xn2 xc2)=w6:=⟨_,rfl⟩;rw[c6]at h2 cy dc cv ar ⊢;have bt:=ap.o.below af.o;have dm:=bt.set 0 (.slice A2 n2 c2);have i5:=((bk.o.below af.o).setAt bt 0 (.slice A2 n2 c2)).setAt dm 1 (.slice XA2 xn2 xc2);have d5:=((dr.o.below af.o).setAt bt 0 (.slice A2 n2 c2)).setAt dm 1 (.slice XA2 xn2 xc2);have bj:=zLy (zLy ah.o ⟨w.heap.size+1,0,none⟩ (.slice A2 n2 c2)) ⟨w.heap.size+1,1,none⟩ (.slice XA2 xn2 xc2);rw[c6]at bj;obtain⟨w7,dn⟩:∃w7,(w5.setCell ⟨w.heap.size+1,0,none⟩ (.slice A2 n2 c2)).setCell ⟨w.heap.size+1,1,none⟩ (.slice XA2 xn2 xc2)=w7:=⟨_,rfl⟩;have cg:w7.heap.size=w5.heap.size:=by rw[←dn,ZQ,ZQ]
   rw[dn]at i5 d5 bj;refine YH (zJx rfl _ _ (w.heap.size+1) _ _ _ _ rfl (show w6.drew.heap[w.heap.size+1]?=_ from h2) underlying25 rfl (by kernel_rfl)) rfl ?_;have b2:=b7.o;subst b2
   exact⟨_,.agg #[.slice A2 n2 c2,.slice XA2 xn2 xc2],T,E,S,l,a7,a6,rfl,cy.below (Zc _ _).drew,dc.below (Zc _ _).drew,HR.o,zA4 ar (Zc _ _).drew (Za _),cq.o,fe,(fun w'' hg=>by
    have cx:Below w7.heap.size w7 w'':=by
     rw[cg];exact bj.trans ((Zc _ _).drew.trans (zAf hg (by have:=bj.size;rw[cg]at this;exact this) fun q hq=>ec.o q hq))
    exact⟨i5.below cx,d5.below cx⟩),cv.drew⟩
 have kP:(k:Int)<pn:=by omega
 have kM:(k:Int)<au:=by omega
 have k0:(0:Int)≤k:=by omega
 obtain⟨q,hq⟩:∃q,P[k]?=some q:=⟨_,Zb (by rw[eb.o];exact hp)⟩;obtain⟨h4,po,rfl,gx,fx⟩:=e7.o (by rw[Ze,eb.o];omega);have gl:=fx k (by rw[Ze,eb.o];exact hp);rw[Zs,hq,ZA]at gl;clear fx hq
 by_cases hq0:q<0
 rotate_left
 · obtain⟨jj,br,a1⟩:=Tx.pick q dk (show xn≤1000000 by omega);rw[QT (show 0≤q by omega)]at a1;obtain⟨y,hy⟩:∃y,xs[jj]?=some y:=⟨_,Zb (by rw[b1.o];exact br)⟩;obtain⟨e8,mo,rfl,bh,bq⟩:=b8.o (by rw[Ze,b1.o];omega);have b6:=bq jj (by rw[Ze,b1.o];exact br);rw[Zs,hy,ZA]at b6;have jI:(jj:Int)<xn:=by omega
   have j0:(0:Int)≤jj:=by omega
   have mI:(0:Int)<xn:=by omega
   have m0:(xn:Int)≠0:=by omega
   have bw:=hy' (et.o y (Zn hy));clear bq hy;go_wp2_with (at_builtin;refine zAj _ rfl _ _ _ rfl w5.heap.size 3 i0 _ 8 underlying23 c8 ct ch cd rfl _ k _ rfl ae.o _ rfl rfl (by simp only[maxLen];omega) (by omega) dl ?_;intro v1 w4 ag bg;have bf:=hy' ag;have bm:=hy' (ah.o.trans bg);clear ag bg);refine⟨⟨k+1,_,l++[y],by omega,by omega,by go_num,rfl,?_,by rw[Zd,b7.o];rfl,?_,bm.o⟩,by simp[intOf];omega⟩
   · rw[ZK];exact bf.o
   intro x hx;rcases List.mem_append.1 hx with hx|hx
   · exact cq.o x hx
   rw[Zw]at hx;subst hx;exact bw.out
 by_cases hm0:0<mn
 · have mI:(0:Int)<mn:=by omega
   have mN:((mn:Int) == 0)=false:=by simp;omega
   have m0:(mn:Int)≠0:=by omega
   obtain⟨jj,br,a1⟩:=zOk q hq0 hm0 hmb;obtain⟨y,hy⟩:∃y,M[jj]?=some y:=⟨_,Zb (by rw[eu.o];exact br)⟩;obtain⟨e8,mo,rfl,bh,bq⟩:=fo.o (by rw[Ze,eu.o];omega);have b6:=bq jj (by rw[Ze,eu.o];exact br);rw[Zs,hy,ZA,←(zAI b4).1 _ _ bh]at b6;have dz:e8<w5.heap.size:=Zg bh du.o.size;have ep:w.heap.size<w5.heap.size:=Zg ew.o.lt du.o.size;have jI:(jj:Int)<mn:=by omega
   have j0:(0:Int)≤jj:=by omega
   have bw:=Ch.K_is y;have gb:=Ch.K_bd y;have fq:Hy (∀W,Calls prog 40 #[.int .i64 y] W fun e w'=>e=.returned (.int .i32 (Ch.K y))∧W=w'):=hy' fun W=>Ch.char_any y W
   obtain⟨ky,ea⟩:∃ky,Ch.K y=ky:=⟨_,rfl⟩;rw[ea]at bw gb;simp only[ea]at fq;have ek:IntKind.i64.wrap ky=ky:=by rw[Ya];omega
   clear bq hy ea;go_upto_region 16 with (fail)
   refine Stg.wp_region (by kernel_rfl) (Stg.Keep (· < w5.heap.size)) (Stg.Keep.rel _) ?_;have e3:=Stg.Keep.cells (s:=(· < w5.heap.size)) (w:=wr.drew) x3 ep;have em:=Stg.Keep.cells (s:=(· < w5.heap.size)) (w:=wr.drew) b6 dz;(iterate 2 (refine Stg.readW (by kernel_rfl) ?_;intro K hK;go_big_quiet_op;go_big_quiet_on))
   refine Stg.read 0 (by kernel_rfl) wr.drew rfl ?_;intro K hK;go_big_quiet_op;go_big_quiet_on;(iterate 2 (refine Stg.readW (by kernel_rfl) ?_;intro K hK;go_big_quiet_op;go_big_quiet_on));refine Stg.read 0 (by kernel_rfl) wr.drew rfl ?_;intro K hK;go_big_quiet_op;go_big_quiet_on;(iterate 3 (refine Stg.readW (by kernel_rfl) ?_;intro K hK;go_big_quiet_op;go_big_quiet_on));refine Stg.read 0 (by kernel_rfl) wr.drew rfl ?_;intro K hK;go_big_quiet_op;go_big_quiet_on;(iterate 3 (refine Stg.readW (by kernel_rfl) ?_;intro K hK;go_big_quiet_op;go_big_quiet_on));refine Stg.read 0 (by kernel_rfl) wr.drew rfl ?_;intro K hK;go_big_quiet_op;go_big_quiet_on;(iterate 3 (refine Stg.readW (by kernel_rfl) ?_;intro K hK;go_big_quiet_op;go_big_quiet_on));refine Stg.read 0 (by kernel_rfl) wr.drew rfl ?_;intro K hK;go_big_quiet_op;go_big_quiet_on;refine Stg.call 40 _ _ rfl func40 [.int .i64 y] rfl wr.drew _ (fq.o _) (by kernel_rfl) rfl ?_;rintro e w' ⟨rfl,rfl⟩;refine⟨_,rfl,fun b hb=>rfl,?_⟩;intro A' av;simp only[Act.put,Zf,Zk,Zj]at av;subst av;refine Stg.readW (by kernel_rfl) ?_;intro K hK;go_big_quiet_op;go_big_quiet_on;refine Stg.stepW (by kernel_rfl) wr.drew rfl ?_;intro K hK;go_simp;obtain⟨wd,az⟩:∃wd,(wr.alloc (.cells #[.int .i64 ky] 3)).drew=wd:=⟨_,rfl⟩;have hbd:Below wr.heap.size wr wd:=by rw[←az];exact ((Zc _ _).alloc (Za _) _).drew
   have ck:wd.cell? ⟨wr.heap.size,0,none⟩=some (.int .i64 ky):=by rw[←az];exact (Rw.At.new wr 3 [.int .i64 ky]).cell 0 rfl
   have ao:=zA4 ae.o hbd (Za _);have bl:=Zi dl hbd.size;refine hK _ _ (by rw[az];exact fun b hb=>Stg.Keep.of_below (s:=(· < w5.heap.size)) (hbd.mono dl) (fun b hb=>hb) b hb) ?_;rw[az];intro A' av;subst av;refine Stg.stepW (by kernel_rfl) wd rfl ?_;intro K hK;refine zKL _ _ _ _ rfl w5.heap.size 3 i0 _ 8 underlying23 c8 ct ch cd rfl _ k _ rfl ao (.int .i64 ky) rfl wr.heap.size rfl ck (by simp only[maxLen];omega) (by omega) bl ?_;intro v9 w9 aq bo dw;refine hK _ _ (Stg.Keep.of_below bo fun b hb=>hb) ?_;intro A' av;simp only[Act.put,Zf,Zk,Zj]at av;subst av;refine Stg.readW (by kernel_rfl) ?_;intro K hK;go_big_quiet_op;go_big_quiet_on;refine Stg.nil w9 rfl ?_;have bf:=hy' aq;have bm:=hy' (ah.o.trans ((hbd.mono dl).trans bo));have e1:=hy' bw;clear aq bo dw ao ck hbd az bw;go_wp2_with fail;refine⟨⟨k+1,_,l++[ky],by omega,by omega,by go_num,rfl,?_,by rw[Zd,b7.o];rfl,?_,bm.o⟩,by simp[intOf];omega⟩
   · rw[ZK];exact bf.o
   intro x hx;rcases List.mem_append.1 hx with hx|hx
   · exact cq.o x hx
   rw[Zw]at hx;subst hx;exact e1.out
 have gp:mn=0:=by omega
 subst gp;obtain⟨jj,br,a1⟩:=Tx.pick q dk (show xn≤1000000 by omega);obtain⟨y,hy⟩:∃y,xs[jj]?=some y:=⟨_,Zb (by rw[b1.o];exact br)⟩;obtain⟨e8,mo,rfl,bh,bq⟩:=b8.o (by rw[Ze,b1.o];omega);have b6:=bq jj (by rw[Ze,b1.o];exact br);rw[Zs,hy,ZA]at b6;have jI:(jj:Int)<xn:=by omega
 have j0:(0:Int)≤jj:=by omega
 have mI:(0:Int)<xn:=by omega
 have m0:(xn:Int)≠0:=by omega
 have bw:=hy' (et.o y (Zn hy));clear bq hy;go_wp2_with (at_builtin;refine zAj _ rfl _ _ _ rfl w5.heap.size 3 i0 _ 8 underlying23 c8 ct ch cd rfl _ k _ rfl ae.o _ rfl rfl (by simp only[maxLen];omega) (by omega) dl ?_;intro v1 w4 ag bg;have bf:=hy' ag;have bm:=hy' (ah.o.trans bg);clear ag bg);refine⟨⟨k+1,_,l++[y],by omega,by omega,by go_num,rfl,?_,by rw[Zd,b7.o];rfl,?_,bm.o⟩,by simp[intOf];omega⟩
 · rw[ZK];exact bf.o
 intro x hx;rcases List.mem_append.1 hx with hx|hx
 · exact cq.o x hx
 rw[Zw]at hx;subst hx;exact bw.out
structure Tx.In (A XA PA MA:Option Addr) (n c xn xc pn pc mn mc:Nat) (T0:List Rw.Row) (E0 P M:List Int) (w:World):Prop where
 hn:T0.length=n
 hxn:E0.length=xn
 hpn:P.length=pn
 hmn:M.length=mn
 hnb:n≤maxLen
 hxb:xn≤maxLen
 hpb:pn≤maxLen
 hmb:mn≤maxLen
 hbd:∀r∈T0,zE3 r
 ht:Rw.SeesI w A T0
 hx:Sl w w.heap.size XA (E0.map (Value.int .i64))
 hp:Sl w w.heap.size PA (P.map (Value.int .i64))
 hm:Sl w w.heap.size MA (M.map (Value.int .i64))
theorem Tx.In.below {A XA PA MA:Option Addr} {n c xn xc pn pc mn mc:Nat} {T0:List Rw.Row} {E0 P M:List Int} {w w':World} (h:Tx.In A XA PA MA n c xn xc pn pc mn mc T0 E0 P M w) (hb:Below w.heap.size w w'):Tx.In A XA PA MA n c xn xc pn pc mn mc T0 E0 P M w' :=
 ⟨h.hn,h.hxn,h.hpn,h.hmn,h.hnb,h.hxb,h.hpb,h.hmb,h.hbd,h.ht.below hb,h.hx.below hb hb.size,h.hp.below hb hb.size,h.hm.below hb hb.size⟩
theorem zHl (A XA PA MA:Option Addr) (n c xn xc pn pc mn mc:Nat) (T0:List Rw.Row) (E0 P M:List Int) (aa:Nat) (w:World) (ae:aa≤1000) (h:Tx.In A XA PA MA n c xn xc pn pc mn mc T0 E0 P M w) (hL:Rw.Laid w) :
 Calls prog 11 #[.agg #[.slice A n c,.slice XA xn xc,.slice PA pn pc,.slice MA mn mc],.int .i64 aa] w (zKC aa w) :=
 zOl A XA PA MA n c xn xc pn pc mn mc T0 E0 P M aa w h.hn h.hxn h.hpn h.hmn h.hnb h.hxb h.hpb h.hmb ae h.hbd h.ht h.hx h.hp h.hm hL
theorem Tx.isC_i32 {c:Int} (h:C.isC c=true) : -2147483648≤c∧c≤2147483647:=by have:=Ud.isC_bd h;omega
theorem Sl.takeN {w:World} {B:Nat} {A:Option Addr} {xs:List Value} (h:Sl w B A xs) (k:Nat):Sl w B A (xs.take k):=fun h0=>by
 rw[Zq]at h0;obtain⟨b,o,hA,hb,hc⟩:=h (by omega);refine⟨b,o,hA,hb,fun i hi=>?_⟩;rw[Zq]at hi;rw[hc i (by omega),X0 (by omega)]
theorem Sl.dropN {w:World} {B:Nat} {b o:Nat} {xs:List Value} (h:Sl w B (some ⟨b,o,none⟩) xs) (k:Nat):Sl w B (some ⟨b,o+k,none⟩) (xs.drop k):=fun h0=>by
 rw[ZO]at h0;obtain⟨b',o',hA,hb,hc⟩:=h (by omega);cases hA
 refine⟨b,o+k,rfl,hb,fun i hi=>?_⟩;rw[ZO]at hi;rw[Yk,hc (k+i) (by omega),Xe]
def Or.at0 (f:Int→Int) (l:List Int) (k:Nat):Prop:=k=l.length∨∃x,l[k]?=some x∧f x=0
theorem Or.at0.of {f:Int→Int} {l:List Int} {k:Nat} (h:Or.at0 f l k):Or.of f l=Or.of f (l.take k)++Or.of f (l.drop k):=by
 rcases h with rfl|⟨x,hx,h0⟩
 · rw[Qu,Kg];simp[Or.of,zBq]
 obtain⟨h1,h2⟩:=List.getElem?_eq_some_iff.1 hx;rw[ZM h1,h2,←zLH (by omega),←h2,←ZM h1,ZF]
theorem zSJ {f:Int→Int} {l:List Int} {k:Nat} (h:Or.at0 f l k):Or.inB f 0 l=(Or.inB f 0 (l.take k)&&Or.inB f 0 (l.drop k)):=by
 rcases h with rfl|⟨x,hx,h0⟩
 · rw[Qu,Kg];simp[Or.inB]
 obtain⟨h1,h2⟩:=List.getElem?_eq_some_iff.1 hx;have hd:l.drop k=x::l.drop (k+1):=by rw[ZM h1,h2]
 conv=>lhs;rw[←ZF k l,hd,zCQ (by omega)]
 rw[hd]
 conv=>rhs;rhs;unfold Or.inB
 rw[Zl (by omega)]
end Go.Proofs.YtddbccflcekdpaaGreatDoor
