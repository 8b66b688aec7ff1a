/- Where a box of two slices is stored to, what is read elsewhere stays. -/
import Derived.Test.YtjakbblocbicjaaGreatDoorStC
import Derived.Test.YtjakbblocbicjaaGreatDoorMdRight
set_option maxRecDepth 100000
set_option maxHeartbeats 4000000
set_option linter.unusedVariables false
set_option linter.unusedSimpArgs false
namespace Go.Proofs.YtjakbblocbicjaaGreatDoor
open Go.Proofs.Tryz
section
open Go.RowKit
theorem zHQ {E:List Int} (h:∀c∈E,C.isC c=true):C.mem (C.chars E)=Md.xs E:=by
 funext d
 rw[(zBH _).2 d];unfold Md.xs
 by_cases hd:d∈E
 · rw[h d hd,Ko]
 rw[Zq hd,Y8]
theorem Sl.setAt {w:World} {B:Nat} {A:Option Addr} {xs cs:List Value} {b:Nat} {t:TypeId} (h:Sl w B A xs) (aa:Rw.At w b t cs) (hd:∀x,xs[0]?=some x→x∉cs) (i:Nat) (v:Value):Sl (w.setCell ⟨b,i,none⟩ v) B A xs:=by
 intro hx;obtain⟨g,o,hA,hg,hc⟩:=h hx
 have hne:g≠b:=fun e=>by
  subst e;have h0:=hc 0 hx;rw[Zb hx]at h0;refine hd _ (Zb hx) ?_;unfold Rw.At at aa;simp[World.cell?,aa]at h0;exact Zj h0
 refine⟨g,o,hA,hg,fun j hj=>?_⟩;rw[←hc j hj];have he:=Yq w ⟨b,i,none⟩ v g hne;unfold World.cell?;simp only[he]
theorem Md.Doc.setAt {w:World} {v:Value} {T:List Rw.Row} {E:List Int} (h:Md.Doc w v T E) {b:Nat} {A0 A1:Option Addr} {n0 c0 n1 c1:Nat} {t:TypeId} (aa:Rw.At w b t [.slice A0 n0 c0,.slice A1 n1 c1]) (i:Nat) (u:Value):Md.Doc (w.setCell ⟨b,i,none⟩ u) v T E:=by
 have hi:∀(l:List Int) x,(l.map (Value.int .i64))[0]?=some x→x∉[Value.slice A0 n0 c0,Value.slice A1 n1 c1]:=by
  intro l x hx hm;cases l with
  | nil=>simp at hx
  | cons y l=>simp at hx;subst hx;simp at hm
 obtain⟨A,c,XA,xc,rfl,⟨ads,hl,hs,hm⟩,hx⟩:=h;refine⟨A,c,XA,xc,rfl,⟨ads,hl,?_,fun j r a h1 h2=>?_⟩,?_⟩
 · rw[ZP];refine hs.setAt aa (fun x hx hm=>?_) i u;cases T with
   | nil=>simp[zBm]at hx
   | cons r T =>
     cases ads with
     | nil=>simp at hl
     | cons a ads=>simp[zBm]at hx;subst hx;simp at hm
 · rw[ZP];exact (hm j r a h1 h2).setAt aa (hi _) i u
 rw[ZP];exact hx.setAt aa (hi _) i u
structure Ud.Right (T:List Rw.Row) (E S:List Int):Prop where
 tl:T.length≤20
 el:E.length≤30
 rok:∀r∈T,Md.rok r
 ec:∀c∈E,C.isC c=true
 ok:Ud.Ok T S
 mem:C.mem S=Md.xs E
 sl:S.length≤60
theorem zEn {r:Rw.Row} (h:Md.good r):Rw.right r :=
 ⟨(Ud.isC_bd h.1).1,(Ud.isC_bd h.1).2,h.2.1,h.2.2.1,h.2.2.2.1,fun c hc=>Ud.isC_bd (h.2.2.2.2.2 c hc).1⟩
theorem Ud.rise_of:∀(T:List Rw.Row) (c:Int),Md.rises T→(∀r∈T,c<r.1)→zD7 c T
 | [],_,_,_=>trivial
 | r::T,c,h,hc=>by
   unfold Md.rises at h;rw[Xy]at h;exact⟨hc r Zu,Ud.rise_of T r.1 h.2 h.1⟩
theorem zOc {T:List Rw.Row} {E:List Int} (h1:T.length≤20) (h2:E.length≤30) (h3:∀r∈T,Md.rok r) (h4:∀c∈E,C.isC c=true) (h5:Md.chk T (Md.xs E)=0):Ud.Right T E (C.chars (zAs E)):=by
 have hm:C.mem (C.chars (zAs E))=Md.xs E:=by
  rw[zHQ fun c hc=>h4 c ((zCm _ _).1 hc)];funext d
  unfold Md.xs;rw[Yf,Yb,Yb,zCm]
 have hl:(C.chars (zAs E)).length≤60:=by
  have g1:=C.chars_len (zAs E);have g2:=zEl E;omega
 exact⟨h1,h2,h3,h4,⟨by rw[hm];exact h5,(zBH _).1.1,by omega,by omega⟩,hm,hl⟩
theorem Ud.parse_txt {T:List Rw.Row} {E S:List Int} (h:Ud.Right T E S):Rw.parse (zB2 T)=some T:=by
 rw[Rw.parse_txt T (fun r hr=>⟨zEn (h.ok.good r hr),.inl (h.ok.good r hr).1⟩) (Ud.rise_of T (-1) h.ok.rises fun r hr=>by have:=(Ud.isC_bd (h.ok.good r hr).1).1;omega) (by have:=h.tl;omega)];congr 1;rw[List.filter_eq_self];intro r hr;have hl:=(h.rok r hr).2.2.2.2;unfold Rw.quiet;simp only[Yu,XH,ZX]
 by_cases h0:r.2.1=0
 · exact .inr fun e=>hl h0 (ZG e)
 exact .inl h0
theorem Ud.parse_btxt {T:List Rw.Row} {E S:List Int} (h:Ud.Right T E S):Ex.parse (zAg (zAs E))=some (zAs E) :=
 Ex.parse_btxt _ (fun c hc=>h.ec c ((zCm _ _).1 hc)) (zLk E) (by have:=zEl E;have:=h.el;omega)
theorem Sl.setAtK {w:World} {B:Nat} {A:Option Addr} {xs cs:List Value} {b:Nat} {t:TypeId} (h:Sl w B A xs) (ae:Rw.At w b t cs) (k:Nat) (hd:∀x,xs[k]?=some x→x∉cs) (hk:xs≠[]→k<xs.length) (i:Nat) (v:Value):Sl (w.setCell ⟨b,i,none⟩ v) B A xs:=by
 intro hx;obtain⟨g,o,hA,hg,hc⟩:=h hx;have aa:=hk (List.length_pos_iff.1 hx)
 have hne:g≠b:=fun e=>by
  subst e;have h0:=hc k aa;rw[Zb aa]at h0;refine hd _ (Zb aa) ?_;unfold Rw.At at ae;simp[World.cell?,ae]at h0;exact Zj h0
 refine⟨g,o,hA,hg,fun j hj=>?_⟩;rw[←hc j hj];have he:=Yq w ⟨b,i,none⟩ v g hne;unfold World.cell?;simp only[he]
theorem Sl.setInts {k:IntKind} {w:World} {B:Nat} {A:Option Addr} {l:List Int} {b:Nat} {t:TypeId} {A0 A1:Option Addr} {n0 c0 n1 c1:Nat} (h:Sl w B A (l.map (Value.int k))) (aa:Rw.At w b t [.slice A0 n0 c0,.slice A1 n1 c1]) (i:Nat) (u:Value):Sl (w.setCell ⟨b,i,none⟩ u) B A (l.map (Value.int k)):=by
 refine h.setAtK aa 0 (fun x hx hm=>?_) (fun hne=>List.length_pos_iff.2 hne) i u;cases l with
 | nil=>simp at hx
 | cons y l=>simp at hx;subst hx;simp at hm
theorem Rw.At.setAt {w:World} {b b':Nat} {t t':TypeId} {cs cs':List Value} (h:Rw.At w b' t' cs') (aa:Rw.At w b t cs) (hl:cs.length≠cs'.length) (i:Nat) (u:Value):Rw.At (w.setCell ⟨b,i,none⟩ u) b' t' cs':=by
 refine h.other (fun e=>?_) u;subst e;have:=h.symm.trans aa;simp only[Zg,XE]at this;have h2:=Z6 Array.size this.1;simp at h2;omega
theorem Pg.Is.setAt {w:World} {v:Value} {idx:List Int} {bl:List (List Int)} (h:Pg.Is w v idx bl) (hx:2≤idx.length) {b:Nat} {t:TypeId} {A0 A1:Option Addr} {n0 c0 n1 c1:Nat} (aa:Rw.At w b t [.slice A0 n0 c0,.slice A1 n1 c1]) (i:Nat) (u:Value):Pg.Is (w.setCell ⟨b,i,none⟩ u) v idx bl:=by
 obtain⟨g,A,c,h1,h2,h3⟩:=h;refine⟨g,A,c,h1,h2.setAt aa (by simp;omega) i u,?_⟩;rw[ZP];exact h3.setInts aa i u
theorem Mp.Is.setAt {k:TypeId} {w:World} {m:Nat} {F:Value→Option Value} (h:Mp.Is prog k w m F) {b:Nat} {t:TypeId} {cs:List Value} (aa:Rw.At w b t cs) (i:Nat) (u:Value):Mp.Is prog k (w.setCell ⟨b,i,none⟩ u) m F:=by
 refine h.same (Yq w ⟨b,i,none⟩ u m fun e=>?_);subst e;exact h.notcells aa
theorem Rw.Sees.setAt {w:World} {A:Option Addr} {T:List Rw.Row} (h:Rw.Sees w A T) {b:Nat} {t:TypeId} {A0 A1:Option Addr} {n0 c0 n1 c1:Nat} (aa:Rw.At w b t [.slice A0 n0 c0,.slice A1 n1 c1]) (i:Nat) (u:Value):Rw.Sees (w.setCell ⟨b,i,none⟩ u) A T:=by
 obtain⟨ads,hl,hs,hm⟩:=h;refine⟨ads,hl,?_,fun j r a h1 h2=>?_⟩
 · rw[ZP];refine hs.setAtK aa 0 (fun x hx hm=>?_) (fun hne=>List.length_pos_iff.2 hne) i u;cases T with
   | nil=>simp[Rw.fl]at hx
   | cons r T =>
     cases ads with
     | nil=>simp at hl
     | cons a ads=>simp[Rw.fl]at hx;subst hx;simp at hm
 rw[ZP];exact (hm j r a h1 h2).setInts aa i u
theorem Ud.Ents.setAt {w:World} {T:List Rw.Row} {X:Int→Bool} {A:Option Addr} {es:List Ud.At} (h:Ud.Ents w T X A es) {b:Nat} {t:TypeId} {A0 A1:Option Addr} {n0 c0 n1 c1:Nat} (aa:Rw.At w b t [.slice A0 n0 c0,.slice A1 n1 c1]) (i:Nat) (u:Value):Ud.Ents (w.setCell ⟨b,i,none⟩ u) T X A es:=by
 refine⟨h.1,?_,fun j r a h1 h2=>?_⟩
 rotate_left
 · rw[ZP];exact⟨(h.2.2 j r a h1 h2).1.setInts aa i u,(h.2.2 j r a h1 h2).2.setInts aa i u⟩
 rw[ZP];have hl:=zGT T X (zAC T) es h.1;refine h.2.1.setAtK aa 2 (fun x hx hm=>?_) (fun hne=>?_) i u
 · cases hmr:zAC T with
   | nil=>rw[hmr]at hx;cases es <;> simp[zBy]at hx
   | cons r l =>
     rw[hmr]at hx;cases es with
     | nil=>simp[zBy]at hx
     | cons a es=>simp[zBy]at hx;subst hx;simp at hm
 have:=List.length_pos_iff.2 hne;rw[hl]at this ⊢;omega
theorem zJi (f:Int→Int):2≤(Pg.idx f 4352).length:=by rw[zCe];decide
theorem Ud.Is.setAt {w:World} {v:Value} {T:List Rw.Row} {S:List Int} (h:Ud.Is w v T S) {b:Nat} {t:TypeId} {B0 B1:Option Addr} {n0 d0 n1 d1:Nat} (aa:Rw.At w b t [.slice B0 n0 d0,.slice B1 n1 d1]) (i:Nat) (u:Value):Ud.Is (w.setCell ⟨b,i,none⟩ u) v T S:=by
 obtain⟨g,A0,c0,XA,xc,pc,pp,A3,c3,mb,jb,A4,c4,A5,c5,A6,c6,es,h1,h2,h3,h4,h5,h6,h7,⟨F,hF,ae⟩,⟨J,hJ,ag⟩,af,ai,ah⟩:=h.is;refine⟨g,A0,c0,XA,xc,pc,pp,A3,c3,mb,jb,A4,c4,A5,c5,A6,c6,es,h1,h2.setAt aa (by simp) i u,h3.setAt aa i u,?_,h5.setAt (zJi _) aa i u,h6.setAt (zJi _) aa i u,h7.setAt aa i u,⟨F,hF.setAt aa i u,fun c=>?_⟩,⟨J,hJ.setAt aa i u,ag⟩,?_,?_,?_⟩
 · rw[ZP];exact h4.setInts aa i u
 · rcases ae c with hh|⟨A,cap,g1,g2⟩
   · exact .inl hh
   refine .inr ⟨A,cap,g1,?_⟩;rw[ZP];exact g2.setInts aa i u
 · rw[ZP];exact af.setInts aa i u
 · rw[ZP];exact ai.setInts aa i u
 rw[ZP];exact ah.setInts aa i u
theorem zI1 {P:Program} {fn:Func} {p u:Tmp} {ty:TypeId} (h:fn.results = #[.tmp u,.cell p ty]) (tmps:Array Value) (w:World) (g:Nat) (t:TypeId) (cs:Array Value) (fr:Nat × Nat) (d:TypeDesc)
 (hp:tmps.getD p undef=.pointer (some ⟨g,0,none⟩)) (hg:w.heap[g]?=some (.cells cs t fr))
 (hu:P.underlying ty=some d) (hd:(match d with | .struct _ | .array _ _=>true|_=>false)=true) (hi:(P.info? ty).map (·.size)=some cs.size) :
 (results fn tmps).run P w=.ok (.tuple #[tmps.getD u undef,.agg cs]) w:=by
 have aa:tmps[p]?.getD undef=.pointer (some ⟨g,0,none⟩):=by simpa using hp
 simp[results,h,aa,asAddr,X5 w g t ty cs fr d hg hu hd hi]
def zHR (w:World) (e:Ending) (w':World):Prop :=
 ∃p v T E S,e=.returned (.tuple #[p,v])∧Ud.Is w' p T S∧Md.Doc w' v T E∧Ud.Right T E S∧Below w.heap.size w w'
theorem zLp (A XA:Option Addr) (n c xn xc:Nat) (T0:List Rw.Row) (E0:List Int) (w:World) (hn:T0.length=n) (hxn:E0.length=xn) (hnb:n≤maxLen) (hxb:xn≤maxLen) (hbd:∀r∈T0,zDR r) (h2:Rw.SeesI w A T0) (hX:Sl w w.heap.size XA (E0.map (Value.int .i64))) (hL:Rw.Laid w) :
 Calls prog 47 #[.agg #[.slice A n c,.slice XA xn xc]] w (zHR w):=by
 have af:Hy (∀W,Below w.heap.size w W→Calls prog 73 #[.agg #[.slice A n c,.slice XA xn xc]] W (zJh W)):=hy' fun W hW =>
  zMI A XA n c xn xc T0 E0 W hn hxn hnb hxb hbd (h2.below hW) (hX.below hW hW.size)
 have HL:=hy' hL;have bw:=Rw.At.new w 25 [.slice A n c,.slice XA xn xc];have bl:Below w.heap.size w (w.alloc (.cells #[.slice A n c,.slice XA xn xc] 25)):=(Zc _ _).alloc (Za _) _;have ak:=Rw.At.new (w.alloc (.cells #[.slice A n c,.slice XA xn xc] 25)) 25 [.slice none 0 0,.slice none 0 0];rw[show (w.alloc (.cells #[.slice A n c,.slice XA xn xc] 25)).heap.size=w.heap.size+1 by simp]at ak;obtain⟨wa,av⟩:∃wa,(w.alloc (.cells #[.slice A n c,.slice XA xn xc] 25)).alloc (.cells #[.slice none 0 0,.slice none 0 0] 25)=wa:=⟨_,rfl⟩;have ay:Below w.heap.size w wa:=by rw[←av];exact bl.alloc bl.size _
 have ae:Rw.At wa w.heap.size 25 [.slice A n c,.slice XA xn xc]:=by rw[←av];exact bw.alloc _
 have ag:Rw.At wa (w.heap.size+1) 25 [.slice none 0 0,.slice none 0 0]:=by
  rw[←av];exact ak
 have b6:=hy' av;have HB:=hy' ay;have ch:=hy' ae;have bq:=hy' ag;have x0:=ae.cell 0 rfl;have x1:=ae.cell 1 rfl;have xl:=ae.lt;clear hn hxn hnb hxb hbd h2 hX hL bw bl ak av ay ae ag;go_enter func47,ntmps47;go_upto_region 1 with (fail)
 rw[b6.o];go_wp2_with fail;refine (af.o wa HB.o).mono ?_;rintro e w2 ⟨v2,T,E,rfl,ap,az,bi,bp,ar,a7,au,a8⟩;have hR:=zOc bi bp ar a7 au;obtain⟨A2,c2,XA2,xc2,rfl,bm⟩:=id ap;have bb:=(az A2 T.length c2 XA2 E.length xc2 rfl).2;obtain⟨n2,bo⟩:∃k,T.length=k:=⟨_,rfl⟩;obtain⟨xn2,ao⟩:∃k,E.length=k:=⟨_,rfl⟩;rw[bo]at ap bi ⊢;rw[ao]at ap bp bb ⊢;unfold zAX at ap ⊢;have aa:=ch.o.below a8;have bt:=bq.o.below a8;have y2:=aa.frozen 0;have y3:=aa.frozen 1;have yl:=aa.lt;have y0:=aa.cell 0 rfl;have y1:=aa.cell 1 rfl;have bf:=aa.set 0 (.slice A2 n2 c2);have aq:=bf.set 1 (.slice XA2 xn2 xc2);have ba:=(ap.setAt aa 0 (.slice A2 n2 c2)).setAt bf 1 (.slice XA2 xn2 xc2);have bc:=(bt.other (show w.heap.size+1≠w.heap.size by omega) (i:=0) (.slice A2 n2 c2)).other (show w.heap.size+1≠w.heap.size by omega) (i:=1) (.slice XA2 xn2 xc2)
 have bg:Below w.heap.size w ((w2.setCell ⟨w.heap.size,0,none⟩ (.slice A2 n2 c2)).setCell ⟨w.heap.size,1,none⟩ (.slice XA2 xn2 xc2)) :=
  ((HB.o.trans (a8.mono HB.o.size)).setCell (p:=⟨w.heap.size,0,none⟩) (Za _) _).setCell (p:=⟨w.heap.size,1,none⟩) (Za _) _
 obtain⟨w3,bh⟩:∃w3,(w2.setCell ⟨w.heap.size,0,none⟩ (.slice A2 n2 c2)).setCell ⟨w.heap.size,1,none⟩ (.slice XA2 xn2 xc2)=w3:=⟨_,rfl⟩;rw[bh]at aq ba bg bc
 have bk:Calls prog 74 #[.agg #[.slice A2 n2 c2,.slice XA2 xn2 xc2]] w3 fun e w'=>e=.returned (.tuple #[.string ⟨(zB2 T).toArray⟩,.string ⟨(zAg (zAs E)).toArray⟩])∧Below w3.heap.size w3 w':=by
  obtain⟨A9,c9,X9,d9,he,b9,cf⟩:=ba;simp only[zAX,XF,Qc,Yd,ZZ,YQ]at he;obtain⟨⟨rfl,_,rfl⟩,rfl,_,rfl⟩:=he;exact zMF A2 n2 c2 XA2 xn2 xc2 T E w3 bo (by omega) ao (by omega) bb (fun r hr=>zEn (hR.ok.good r hr)) (fun x hx=>Ud.isC_bd (a7 x hx)) b9 cf
 have a1:∀W,Below w.heap.size w W→Calls prog 68 #[.string ⟨(zB2 T).toArray⟩,.string ⟨(zAg (zAs E)).toArray⟩] W (zI7 T (C.chars (zAs E)) W):=fun W hW=>by
  refine zJd _ _ ?_ ?_ T (zAs E) ?_ ?_ hR.ok hR.ok.bd W (HL.o.next hW)
  · rw[zAx];have:=zCl T (fun r hr=>zEn (hR.ok.good r hr));omega
  · rw[zAx];have h1:=zD9 (zAs E) (fun d hd=>Ud.isC_bd (a7 d ((zCm _ _).1 hd)));have h2:=zEl E;omega
  · exact Ud.parse_txt hR
  exact Ud.parse_btxt hR
 obtain⟨s1,aj⟩:∃y:ByteArray,⟨(zB2 T).toArray⟩=y:=⟨_,rfl⟩;obtain⟨s2,ai⟩:∃y:ByteArray,⟨(zAg (zAs E)).toArray⟩=y:=⟨_,rfl⟩;rw[aj,ai]at bk;simp only[aj,ai]at a1;obtain⟨S,hS⟩:∃S,C.chars (zAs E)=S:=⟨_,rfl⟩;rw[hS]at hR a1;have cg:=hy' bh;have cd:=hy' aq;have b7:=hy' ba;have b3:=hy' bg;have cc:=hy' bc;have b4:=hy' a1;have HR:=hy' hR;have ck:=aq.lt;have z0:=aq.cell 0 rfl;have z1:=aq.cell 1 rfl;clear ap bm bf aq ba bg bh aa bt bc bo ao a8 az bi bp ar a7 au bb hR a1 hS aj ai x0 x1;go_upto_region 2 with (fail)
 rw[cg.o];clear y0 y1 y2 y3 yl;go_wp2_with fail;refine bk.mono ?_;rintro e w4 ⟨rfl,aw⟩;have bj:=hy' (b3.o.trans (aw.mono b3.o.size));have bx:=hy' (b7.o.below aw);have bu:=hy' (cd.o.below aw);have bs:=hy' (cc.o.below aw);clear aw bk z0 z1;go_wp2_with fail;refine (b4.o w4 bj.o).mono ?_;rintro e w5 ⟨p,rfl,b2,ax⟩;have cj:=hy' (bj.o.trans (ax.mono bj.o.size));have cb:=hy' (bx.o.below ax);have a6:=bu.o.below ax;have ah:=bs.o.below ax;have b8:=hy' b2;have z0:=a6.cell 0 rfl;have z1:=a6.cell 1 rfl;have zl:=a6.lt;have k0:=ah.frozen 0;have k1:=ah.frozen 1;have kl:=ah.lt;have k2:=ah.cell 0 rfl;have k3:=ah.cell 1 rfl;have bn:=hy' ah;clear b2 ax a6 ah b4 HL bu bs bx af;go_wp2_with fail;go_region;go_wp2_with fail;have h1:=bn.o.set 0 (.slice A2 n2 c2);have h2:=h1.set 1 (.slice XA2 xn2 xc2);have bz:=(b8.o.setAt bn.o 0 (.slice A2 n2 c2)).setAt h1 1 (.slice XA2 xn2 xc2);have b1:=(cb.o.setAt bn.o 0 (.slice A2 n2 c2)).setAt h1 1 (.slice XA2 xn2 xc2)
 have br:Below w.heap.size w ((w5.setCell ⟨w.heap.size+1,0,none⟩ (.slice A2 n2 c2)).setCell ⟨w.heap.size+1,1,none⟩ (.slice XA2 xn2 xc2)) :=
  (cj.o.setCell (p:=⟨w.heap.size+1,0,none⟩) (ZW _) _).setCell (p:=⟨w.heap.size+1,1,none⟩) (ZW _) _
 obtain⟨w6,b5⟩:∃w6,(w5.setCell ⟨w.heap.size+1,0,none⟩ (.slice A2 n2 c2)).setCell ⟨w.heap.size+1,1,none⟩ (.slice XA2 xn2 xc2)=w6:=⟨_,rfl⟩;rw[b5]at h2 bz b1 br ⊢;refine YH (zI1 rfl _ _ (w.heap.size+1) _ _ _ _ rfl (show w6.drew.heap[w.heap.size+1]?=_ from h2) underlying25 rfl (by kernel_rfl)) rfl ?_;exact⟨p,.agg #[.slice A2 n2 c2,.slice XA2 xn2 xc2],T,E,S,rfl,bz.below (Zc _ _).drew,b1.below (Zc _ _).drew,HR.o,br.drew⟩
def Xt.A:List Rw.Row:=[(192,0,[65,768]),(193,0,[65,769]),(194,0,[65,770]),(195,0,[65,771]),(196,0,[65,776]),(197,0,[65,778]),(199,0,[67,807]),(200,0,[69,768]),(201,0,[69,769]),(202,0,[69,770]),(203,0,[69,776]),(209,0,[78,771]),(214,0,[79,776]),(220,0,[85,776]),(224,0,[97,768]),(225,0,[97,769]),(226,0,[97,770]),(228,0,[97,776]),(229,0,[97,778]),(231,0,[99,807]),(233,0,[101,769]),(234,0,[101,770]),(241,0,[110,771]),(244,0,[111,770]),(246,0,[111,776]),(252,0,[117,776]),(258,0,[65,774]),(259,0,[97,774]),(346,0,[83,769]),(347,0,[115,769]),(350,0,[83,807]),(469,0,[220,772]),(471,0,[220,769]),(478,0,[196,772]),(506,0,[197,769]),(768,230,[]),(769,230,[]),(770,230,[]),(771,230,[]),(772,230,[]),(774,230,[]),(775,230,[]),(776,230,[]),(778,230,[]),(787,230,[]),(795,216,[]),(803,220,[]),(807,202,[]),(808,202,[]),(817,220,[]),(824,1,[]),(832,230,[768]),(833,230,[769]),(835,230,[787]),(836,230,[776,769]),(837,240,[]),(884,0,[697]),(894,0,[59]),(901,0,[168,769]),(903,0,[183]),(940,0,[945,769]),(942,0,[951,769]),(1460,14,[]),(1463,17,[]),(2345,0,[2344,2364]),(2353,0,[2352,2364]),(2356,0,[2355,2364]),(2364,7,[]),(2381,9,[]),(2392,0,[2325,2364]),(2393,0,[2326,2364]),(2507,0,[2503,2494]),(2508,0,[2503,2519]),(3953,129,[]),(3954,130,[]),(3955,0,[3953,3954]),(3956,132,[]),(3957,0,[3953,3956]),(3958,0,[4018,3968]),(3968,130,[]),(3969,0,[3953,3968]),(7688,0,[199,769]),(7690,0,[68,775]),(7691,0,[100,775]),(7692,0,[68,803]),(7693,0,[100,803]),(7776,0,[83,775]),(7777,0,[115,775]),(7778,0,[83,803]),(7779,0,[115,803]),(7780,0,[346,775]),(7781,0,[347,775]),(7784,0,[7778,775]),(7785,0,[7779,775]),(7835,0,[383,775]),(7840,0,[65,803]),(7841,0,[97,803]),(7852,0,[7840,770]),(7853,0,[7841,770]),(7862,0,[7840,774]),(7863,0,[7841,774]),(8192,0,[8194]),(8193,0,[8195]),(8486,0,[937]),(8490,0,[75]),(8491,0,[197]),(8800,0,[61,824]),(8814,0,[60,824]),(10972,0,[10973,824]),(12364,0,[12363,12441]),(12400,0,[12399,12441]),(12401,0,[12399,12442]),(12441,8,[]),(12442,8,[])]
def Xt.B:List Rw.Row:=[(63744,0,[35912]),(64285,0,[1497,1460]),(64287,0,[1522,1463]),(69786,0,[69785,69818]),(69818,7,[]),(119134,0,[119127,119141]),(119141,216,[])]
def Xt.T:List Rw.Row:=Xt.A++Xt.B
def zIa:List Int:=[2392,2393,10972,64285,64287,119134]
def zSO:List UInt8:=[72,97,110,103,117,108,32,83,121,108,108,97,98,108,101]
def zSe:List UInt8:=[65,67,48,48,59,60,72,97,110,103,117,108,32,83,121,108,108,97,98,108,101,44,32,70,105,114,115,116,62,59,59,48,59,59,59,59,59,59,59,59,59,59,59]
def zSf:List UInt8:=[68,55,65,51,59,60,72,97,110,103,117,108,32,83,121,108,108,97,98,108,101,44,32,76,97,115,116,62,59,59,48,59,59,59,59,59,59,59,59,59,59,59]
def zSP:List UInt8:=[60,72,97,110,103,117,108,32,83,121,108,108,97,98,108,101,44,32,70,105,114,115,116,62]
def Xt.n1:List UInt8:=[78,111,110,32,80,114,105,118,97,116,101,32,85,115,101,32,72,105,103,104,32,83,117,114,114,111,103,97,116,101]
def Xt.f1:List UInt8:=[68,56,48,48,59,60,78,111,110,32,80,114,105,118,97,116,101,32,85,115,101,32,72,105,103,104,32,83,117,114,114,111,103,97,116,101,44,32,70,105,114,115,116,62,59,59,48,59,59,59,59,59,59,59,59,59,59,59]
def zSg:List UInt8:=[68,66,55,70,59,60,78,111,110,32,80,114,105,118,97,116,101,32,85,115,101,32,72,105,103,104,32,83,117,114,114,111,103,97,116,101,44,32,76,97,115,116,62,59,59,48,59,59,59,59,59,59,59,59,59,59,59]
def Xt.w1:List UInt8:=[60,78,111,110,32,80,114,105,118,97,116,101,32,85,115,101,32,72,105,103,104,32,83,117,114,114,111,103,97,116,101,44,32,70,105,114,115,116,62]
def zSQ:List UInt8:=[80,114,105,118,97,116,101,32,85,115,101]
def Xt.f2:List UInt8:=[69,48,48,48,59,60,80,114,105,118,97,116,101,32,85,115,101,44,32,70,105,114,115,116,62,59,59,48,59,59,59,59,59,59,59,59,59,59,59]
def zSh:List UInt8:=[70,56,70,70,59,60,80,114,105,118,97,116,101,32,85,115,101,44,32,76,97,115,116,62,59,59,48,59,59,59,59,59,59,59,59,59,59,59]
def Xt.w2:List UInt8:=[60,80,114,105,118,97,116,101,32,85,115,101,44,32,70,105,114,115,116,62]
def zBD:List (List UInt8):=[zSe,zSf,Xt.f1,zSg,Xt.f2,zSh]
def Xt.text:List UInt8:=zB2 Xt.A++((zBD.flatMap fun x=>x++[10])++zB2 Xt.B)
def zIb (r:Rw.Row):Bool:=decide (0≤r.1)&&decide (r.1≤1114111)&&decide (0≤r.2.1)&&decide (r.2.1≤254)&&decide (r.2.2.length≤2)&&(r.2.2.all fun c=>decide (0≤c)&&decide (c≤1114111))&&C.isC r.1
theorem zKo {r:Rw.Row} (h:zIb r=true):zG2 r:=by
 unfold zIb at h;simp only[Zw,Zn,Yj]at h;obtain⟨⟨⟨⟨⟨⟨h1,h2⟩,h3⟩,h4⟩,h5⟩,h6⟩,h7⟩:=h;exact⟨⟨h1,h2,h3,h4,h5,h6⟩,.inl h7⟩
def zLq:Int→List Rw.Row→Bool
 | _,[]=>true
 | c,r::l=>decide (c<r.1)&&zLq r.1 l
theorem Xt.rise_of:∀(l:List Rw.Row) (c:Int),zLq c l=true→zD7 c l
 | [],_,_=>trivial
 | r::l,c,h=>by
   unfold zLq at h;rw[Zw,Zn]at h;exact⟨h.1,Xt.rise_of l r.1 h.2⟩
theorem zGB:∀r∈Xt.A,zG2 r:=fun r hr=>zKo (List.all_eq_true.1 (show Xt.A.all zIb=true by decide +kernel) r hr)
theorem zF0:∀r∈Xt.B,zG2 r:=fun r hr=>zKo (List.all_eq_true.1 (show Xt.B.all zIb=true by decide +kernel) r hr)
theorem zRB:zD7 (-1) Xt.A:=Xt.rise_of _ _ (by decide +kernel)
theorem zQY:zD7 63743 Xt.B:=Xt.rise_of _ _ (by decide +kernel)
theorem zRC:Xt.A.filter (fun r=>!Rw.quiet r)=Xt.A:=by decide +kernel
theorem zRD:Xt.B.filter (fun r=>!Rw.quiet r)=Xt.B:=by decide +kernel
theorem zEo (out:List Rw.Row) (c d:Int) (l w:List UInt8) (h1:Rw.row (zAi 59 [] l)=some (d,0,[])) (h2:zBJ [] ((zAi 59 [] l).getD 1 []) true=some w) (hc:c<d):Rw.step (out,c,[]) l=some (out,d,w):=by
 unfold Rw.step;rw[h1,ZC];dsimp only;rw[Zm hc,show Rw.quiet (d,0,[])=true from rfl,h2,ZC,Zm (.inr rfl),Zm rfl]
theorem Xt.step_last (out:List Rw.Row) (c d:Int) (l w:List UInt8) (h1:Rw.row (zAi 59 [] l)=some (d,0,[])) (h2:zBJ w ((zAi 59 [] l).getD 1 []) true=some []) (hc:c<d):Rw.step (out,c,w) l=some (out,d,[]):=by
 unfold Rw.step;rw[h1,ZC];dsimp only;rw[Zm hc,show Rw.quiet (d,0,[])=true from rfl,h2,ZC,Zm (.inr rfl),Zm rfl]
theorem zJB (out:List Rw.Row) (c:Int) (hc:c<44032):Rw.steps (out,c,[]) zBD=some (out,63743,[]):=by
 unfold zBD Rw.steps;rw[zEo out c 44032 zSe zSP (by decide +kernel) (by decide +kernel) hc,ZC];unfold Rw.steps;rw[Xt.step_last out 44032 55203 zSf zSP (by decide +kernel) (by decide +kernel) (by decide),ZC];unfold Rw.steps;rw[zEo out 55203 55296 Xt.f1 Xt.w1 (by decide +kernel) (by decide +kernel) (by decide),ZC];unfold Rw.steps;rw[Xt.step_last out 55296 56191 zSg Xt.w1 (by decide +kernel) (by decide +kernel) (by decide),ZC];unfold Rw.steps;rw[zEo out 56191 57344 Xt.f2 Xt.w2 (by decide +kernel) (by decide +kernel) (by decide),ZC];unfold Rw.steps;rw[Xt.step_last out 57344 63743 zSh Xt.w2 (by decide +kernel) (by decide +kernel) (by decide),ZC];rfl
theorem zG5:∀(l:List Rw.Row) (out:List Rw.Row) (c:Int),(∀r∈l,zG2 r)→zD7 c l→Rw.steps (out,c,[]) (l.map Rw.line)=some (out++l.filter (fun r=>!Rw.quiet r),zFp c l,[])
 | [],out,c,_,_=>by simp[Rw.steps,zFp]
 | r::l,out,c,h,hr=>by
   have h1:=h r Zu;rw[ZV,Rw.steps,zHJ out c r h1.1 hr.1 h1.2,ZC,zG5 l _ r.1 (fun q hq=>h q (Zy _ hq)) hr.2,Yt];cases Rw.quiet r <;> simp[zFp]
def zFt:List (List UInt8):=Xt.A.map Rw.line++(zBD++Xt.B.map Rw.line)
theorem zLr:Xt.text=zFt.flatMap fun x=>x++[10]:=by
 unfold Xt.text zFt;rw[YK,YK,zJ5,zJ5]
theorem zJj:∀x∈zFt,zCa x=true:=by
 intro x hx;unfold zFt at hx;rcases List.mem_append.1 hx with h|h
 · obtain⟨r,h1,rfl⟩:=List.mem_map.1 h;exact zDP r (zGB r h1).1
 rcases List.mem_append.1 h with h|h
 · exact List.all_eq_true.1 (show zBD.all zCa=true by decide +kernel) x h
 obtain⟨r,h1,rfl⟩:=List.mem_map.1 h;exact zDP r (zF0 r h1).1
theorem Xt.lens:Xt.A.length=114∧Xt.B.length=7:=⟨rfl,rfl⟩
theorem Xt.parse:Rw.parse Xt.text=some Xt.T:=by
 unfold Rw.parse;rw[zLr,zEg _ fun x hx=>zOG (zJj x hx)];rw[if_pos ⟨List.all_eq_true.2 zJj,by unfold zFt;rw[List.length_append,List.length_append,List.length_map,List.length_map,Xt.lens.1,Xt.lens.2];decide⟩];unfold zFt;rw[Rw.steps_app,zG5 _ _ _ zGB zRB,ZC,Rw.steps_app,zJB _ _ (by decide +kernel),ZC,zG5 _ _ _ zF0 zQY,ZC,zRC,zRD];rfl
theorem Xt.text_len:Xt.text.length≤200000:=by
 unfold Xt.text;have h1:=zCl Xt.A fun r hr=>(zGB r hr).1
 have h2:=zCl Xt.B fun r hr=>(zF0 r hr).1
 have h3:(zBD.flatMap fun x=>x++[10]).length≤1000:=by decide +kernel
 rw[Xt.lens.1]at h1;rw[Xt.lens.2]at h2;rw[Zd,Zd];omega
theorem zQZ:∀c∈zIa,C.isC c=true:=fun c hc=>List.all_eq_true.1 (show zIa.all C.isC=true by decide +kernel) c hc
theorem zSi:Md.chk Xt.T (Md.xs zIa)=0:=by decide +kernel
def zMT:List Int:=C.chars zIa
theorem Xt.mem:C.mem zMT=Md.xs zIa:=zHQ zQZ
theorem Xt.ok:Ud.Ok Xt.T zMT:=by
 have h:=C.chars_len zIa;refine⟨by rw[Xt.mem];exact zSi,(zBH _).1.1,by decide +kernel,?_⟩;show (C.chars zIa).length≤1000000;have:zIa.length=6:=rfl;omega
theorem zR0:Ex.parse (zAg zIa)=some zIa:=Ex.parse_btxt zIa zQZ (by decide +kernel) (by decide)
theorem Xt.bd:Md.bd Xt.T:=Xt.ok.bd
end
section
open Go.RowKit Go.Stop
theorem Jn.len (sep:List UInt8) (M:Nat):∀xs:List (List UInt8),(∀x∈xs,x.length≤M)→(Lib.join xs sep).length≤xs.length*(M+sep.length)
 | [],_=>by rw[Lib.join_nil];simp
 | x::r,h=>by
   rw[Lib.join_cons,Zd];have h1:=h x (by simp)
   have h2:∀r:List (List UInt8),(∀x∈r,x.length≤M)→(Lib.joinTail sep r).length≤r.length*(M+sep.length):=by
    intro r
    induction r with
    | nil=>intro _;simp[Lib.joinTail]
    | cons y t ih =>
      intro hy;have h3:=ih (fun z hz=>hy z (by simp[hz]));have h4:=hy y (by simp);simp only[Lib.joinTail,ZV,Xo,Zd,ZB]at h3 ⊢;rw[Nat.succ_mul];omega
   have h5:=h2 r (fun z hz=>h z (by simp[hz]));rw[ZB,Nat.succ_mul];omega
theorem Jn.any (A:Option Addr) (c B n:Nat) (xs:List ByteArray) (sep:ByteArray) (w:World) (hn:xs.length=n) (h0:0<n) (hB:B≤w.heap.size) (hA:Sl w B A (xs.map Value.string)) (hc:n≤c) (hN:n≤1000000) (hl:∀x∈xs,x.size≤10000) (ae:sep.size≤10) :
 Calls prog 135 #[.slice A n c,.string sep] w fun e w'=>e=.returned (.string ⟨(Lib.join (xs.map (·.data.toList)) sep.data.toList).toArray⟩)∧Below w.heap.size w w':=by
 subst hn;obtain⟨b,o,rfl,hb,hcell⟩:=hA (by rw[Ze];exact h0)
 have hlen:=Jn.len sep.data.toList 10000 (xs.map (·.data.toList)) (fun x hx=>by
  obtain⟨y,hy,rfl⟩:=List.mem_map.1 hx;have:=hl y hy;simpa using this)
 have aa:sep.data.toList.length=sep.size:=by simp
 rw[Ze,aa]at hlen;have:xs.length*(10000+sep.size)≤1000000*10010:=Nat.mul_le_mul hN (by omega);refine (Tryz.strings_Join b o c xs sep w ?_ (by omega) (by omega) hc (by omega));intro j x hx;have hj:=(List.getElem?_eq_some_iff.1 hx).1;rw[hcell j (by rw[Ze];exact hj),Zo,hx];rfl
end
section
open Go.RowKit
theorem zEp (l:List UInt8):(⟨l.toArray⟩:ByteArray).size=l.length:=by show l.toArray.size=_;simp
theorem zOd (k:Int) (h:0≤k):Lib.itoa k=Lib.decDigits k.toNat:=by
 unfold Lib.itoa;rw[Zk (by omega)]
theorem zJk (c:Int) (h0:0≤c) (h1:c<16777216) (w:World) (hL:Rw.Laid w) :
 Calls prog 133 #[.int .i32 c] w fun e w'=>e=.returned (.string ⟨(Fi.text c.toNat).toArray⟩)∧Below w.heap.size w w':=by
 obtain⟨n,rfl⟩:∃n:Nat,c=n:=⟨c.toNat,by omega⟩;rw[Y9];exact Fi.text_any n (by omega) w hL.1
theorem zMJ (k:Int) (h0:0≤k) (h1:k≤1000000000) (w:World) (hL:Rw.Laid w) :
 Calls prog 134 #[.int .i64 k] w fun e w'=>e=.returned (.string ⟨(Lib.decDigits k.toNat).toArray⟩)∧Below w.heap.size w w':=by
 rw[←zOd k h0];exact zJ9 k (by omega) (by omega) w hL.2
def zR1 (x0 x3 x5:ByteArray):List Value:=[.string x0,.string ⟨#[88]⟩,.string ⟨#[]⟩,.string x3,.string ⟨#[]⟩,.string x5,.string ⟨#[]⟩,.string ⟨#[]⟩,.string ⟨#[]⟩,.string ⟨#[]⟩,.string ⟨#[]⟩,.string ⟨#[]⟩,.string ⟨#[]⟩,.string ⟨#[]⟩,.string ⟨#[]⟩]
def zG6 (x0 x3 x5:ByteArray):List ByteArray:=[x0,⟨#[88]⟩,⟨#[]⟩,x3,⟨#[]⟩,x5,⟨#[]⟩,⟨#[]⟩,⟨#[]⟩,⟨#[]⟩,⟨#[]⟩,⟨#[]⟩,⟨#[]⟩,⟨#[]⟩,⟨#[]⟩]
theorem zMK (x0 x3 x5:ByteArray) (h0:x0.size≤10000) (h3:x3.size≤10000) (h5:x5.size≤10000):∀x∈zG6 x0 x3 x5,x.size≤10000:=by
 intro x hx;have he:(⟨#[]⟩:ByteArray).size=0:=rfl;have aa:(⟨#[88]⟩:ByteArray).size=1:=rfl;unfold zG6 at hx;simp only[Xe,Z7,QT]at hx;rcases hx with rfl|rfl|rfl|rfl|rfl|rfl|rfl|rfl|rfl|rfl|rfl|rfl|rfl|rfl|rfl <;> omega
theorem zHS (c:UInt8):∀l:List (List UInt8),Lib.join l [c]=zAr c l
 | []=>by rw[Lib.join_nil];rfl
 | x::r=>by
   rw[Lib.join_cons];rfl
theorem zML (c k:Int) (m:List Int):Lib.join ((zG6 ⟨(Fi.text c.toNat).toArray⟩ ⟨(Lib.decDigits k.toNat).toArray⟩ ⟨(zB1 m).toArray⟩).map (·.data.toList)) [59]=Rw.line (c,k,m):=by
 rw[zHS];unfold zG6 Rw.line zB1;simp[zAr]
theorem zOe (m:List Int) (hm:m.length≤2) (hc:∀x∈m,0≤x∧x≤1114111):(zB1 m).length≤10000:=by
 unfold zB1;rcases m with _|⟨a,_|⟨b,_|⟨d,t⟩⟩⟩
 · simp[zAr]
 · have:=zAE a.toNat (by have:=(hc a (by simp)).2;omega);simp[zAr];omega
 · have h1:=zAE a.toNat (by have:=(hc a (by simp)).2;omega);have h2:=zAE b.toNat (by have:=(hc b (by simp)).2;omega);simp[zAr];omega
 simp at hm
def zF1:List Value:=[.string ByteArray.empty,.string ByteArray.empty,.string ByteArray.empty,.string ByteArray.empty,.string ByteArray.empty,.string ByteArray.empty,.string ByteArray.empty,.string ByteArray.empty,.string ByteArray.empty,.string ByteArray.empty,.string ByteArray.empty,.string ByteArray.empty,.string ByteArray.empty,.string ByteArray.empty,.string ByteArray.empty]
theorem zR2 (w:World):(Instr.makeSlice 45 (.int .i64 15) (.int .i64 15)).run prog w=.ok (.slice (some ⟨w.heap.size,0,none⟩) 15 15) (w.alloc (.cells zF1.toArray 9)):=by kernel_rfl
theorem zMM (c k:Int) (A:Option Addr) (m:List Int) (n cp B:Nat) (w:World) (c0:0≤c) (c1:c≤1114111) (k0:0≤k) (k1:k≤254) (hn:m.length=n) (hm:n≤2) (hmb:∀x∈m,0≤x∧x≤1114111)
 (hB:B≤w.heap.size) (hA:Sl w B A (m.map (Value.int .i32))) (hL:Rw.Laid w) :
 Calls prog 100 #[.agg #[.int .i32 c,.int .i64 k,.slice A n cp]] w fun e w'=>e=.returned (.string ⟨(Rw.line (c,k,m)).toArray⟩)∧Below w.heap.size w w':=by
 have hX:=zJk c c0 (by omega);have hK:=zMJ k k0 (by omega);obtain⟨x0,bf⟩:∃x:ByteArray,⟨(Fi.text c.toNat).toArray⟩=x:=⟨_,rfl⟩;obtain⟨x3,bg⟩:∃x:ByteArray,⟨(Lib.decDigits k.toNat).toArray⟩=x:=⟨_,rfl⟩;simp only[bf]at hX;simp only[bg]at hK;have bu:=hy' bf;have bo:=hy' bg;have HN:=hy' hn;have bi:=hy' hmb;clear bf bg hn hmb;have cx:=zR2;go_enter func100,ntmps100;go_upto_region 2 with (fail)
 obtain⟨wa,ar⟩:∃wa,(w.alloc (.cells #[.int .i32 c,.int .i64 k,.slice A n cp] 155)).alloc (.cells zF1.toArray 9)=wa:=⟨_,rfl⟩;have hz:w.heap.size+1<wa.heap.size:=by rw[←ar];simp
 have ae:Below w.heap.size w wa:=by rw[←ar];exact ((Zc _ _).alloc (Za _) _).alloc (by simp) _
 have ap:Rw.At wa w.heap.size 155 [.int .i32 c,.int .i64 k,.slice A n cp]:=by rw[←ar];exact (Rw.At.new w 155 [.int .i32 c,.int .i64 k,.slice A n cp]).alloc _
 have av:Rw.At wa (w.heap.size+1) 9 zF1:=by
  have h:=Rw.At.new (w.alloc (.cells #[.int .i32 c,.int .i64 k,.slice A n cp] 155)) 9 zF1;rw[ZJ]at h;rw[←ar];exact h
 have bb:=hL.next ae
 first
  | rw[ar]
  | (show Code.wp _ _ _ _ ((w.alloc (.cells #[.int .i32 c,.int .i64 k,.slice A n cp] 155)).alloc (.cells zF1.toArray 9));rw[ar])
 clear ar;obtain⟨d1,d2,d3,_,_,_⟩:=ap.three;go_cut [] (fun wx=>Rw.At wx (w.heap.size+1) 9 (zR1 x0 x3 ⟨#[]⟩)∧Below (w.heap.size+1) wa wx)
 case first =>
  have cc:Rw.Laid wa.drew:=bb.next (Zc _ _).drew;have cb:w.heap.size<wa.heap.size:=by omega
  go_region_with (first
   | (go_at_call 133;refine (hX _ cc).mono ?_;rintro e wq ⟨rfl,bz⟩;have ai:Below wa.heap.size wa wq:=((Zc _ _).drew).trans bz;have cr:wq.cell? ⟨w.heap.size,1,none⟩=some (.int .i64 k):=((zAQ ai).1 _ _ cb).trans d2;have b7:=bb.next ai)
   | (go_at_call 134;refine (hK _ b7).mono ?_;rintro e wz ⟨rfl,b1⟩;have bm:Below wa.heap.size wa wz:=ai.trans (b1.mono ai.size);have af:=av.below' bm hz;have y0:=af.cell 0 rfl;have y1:=af.cell 1 rfl;have y3:=af.cell 3 rfl;have g0:=af.frozen 0;have g1:=af.frozen 1;have g3:=af.frozen 3)
   | fail)
  all_goals
   go_wp2_with fail;go_meet;exact⟨((af.set 0 (.string x0)).set 1 (.string ⟨#[88]⟩)).set 3 (.string x3),(((bm.mono (Z5 hz)).setCell (p:=⟨w.heap.size+1,0,none⟩) (Za _) _).setCell (p:=⟨w.heap.size+1,1,none⟩) (Za _) _).setCell (p:=⟨w.heap.size+1,3,none⟩) (Za _) _⟩
 obtain⟨aq,ai⟩:=hcut;obtain⟨wx,rfl⟩:∃wx:World,wx=wc:=⟨_,rfl⟩;have ak:=ap.below' ai (ZO _);obtain⟨f1,f2,f3,_,_,_⟩:=ak.three;have br:Sl wx B A (m.map (Value.int .i32)):=(hA.below (ae.mono hB) (Za _)).below (ai.mono (show B≤w.heap.size+1 by omega)) (Za _);have bp:Rw.Laid wx:=hL.next (ae.trans (ai.mono (ZW _)));have cg:w.heap.size+1<wx.heap.size:=aq.lt;have bk:=hy' (ae.trans (ai.mono (ZW _)));clear d1 d2 d3 ap av ae bb hX hK ak ai f1 f2;obtain⟨i0,hi,ch,b9,cj⟩:=Z2 Rw.infoStr;have cq:=hy' br;have b4:=hy' hL;have cy:=hy' bp;have cn:=hy' aq;clear br bp hA hL aq;go_wp2_with fail;go_loopw [4,6,23] (fun v _ i wr=>∃j:Nat,j≤n∧i=.int .i64 j∧wr.ownsRow (w.heap.size+2) 9 1 v j ((m.take j).map fun x=>Value.string ⟨(Fi.text x.toNat).toArray⟩)∧Below (w.heap.size+2) wx wr) (fun _ _ i _=>n-(intOf i).toNat)
 case atStart=>exact⟨0,ZF _,rfl,ZE _ _ _ _,Zc _ _⟩
 obtain⟨j,hj,rfl,ag,aa⟩:=hrel;have bs:w.heap.size+2≤wr.heap.size:=Zh cg aa.size;have cf:Rw.Laid wr:=b4.o.next (bk.o.trans (aa.mono (by omega)))
 by_cases hlt:j<n
 · obtain⟨x,hx⟩:∃x,m[j]?=some x:=⟨_,Zb (by rw[HN.o];exact hlt)⟩;have hxb:=bi.o x (Zj hx);obtain⟨ab,ao,rfl,cu,bt⟩:=cq.o (by rw[Ze,HN.o];omega);have hc:=bt j (by rw[Ze,HN.o];exact hlt);rw[Zo,hx,Zz,←(zAQ aa).1 _ _ (by omega)]at hc;have hT:=zJk x hxb.1 (by omega) wr cf
   have ah:(m.take (j+1)).map (fun x=>Value.string ⟨(Fi.text x.toNat).toArray⟩)=(m.take j).map (fun x=>Value.string ⟨(Fi.text x.toNat).toArray⟩)++[Value.string ⟨(Fi.text x.toNat).toArray⟩]:=by
    rw[ZA,hx];simp
   obtain⟨tx,a8⟩:∃y:ByteArray,⟨(Fi.text x.toNat).toArray⟩=y:=⟨_,rfl⟩;rw[a8]at ah;simp only[a8]at hT;have jI:(j:Int)<n:=by omega
   have b5:=hy' ah;have bc:=hy' aa;have bh:=hy' ag;clear ah aa ag hx bt a8;go_wp2_with fail;refine hT.mono ?_;rintro e w3 ⟨rfl,a7⟩;have aw:=zA4 bh.o a7 (Za _);have b8:=hy' (bc.o.trans (a7.mono bs));have cm:w.heap.size+2≤w3.heap.size:=Zh bs a7.size;clear a7 hT;go_wp2_with (first|(at_builtin;refine zAa _ rfl _ _ _ rfl (w.heap.size+2) 9 i0 _ 16 underlying45 hi ch b9 cj rfl _ j _ rfl aw _ rfl rfl (by simp only[maxLen];omega) (by omega) cm ?_;intro v1 w4 au b6)|fail);exact⟨⟨j+1,by omega,by go_num,by rw[b5.o];exact au,b8.o.trans b6⟩,by simp[intOf];omega⟩
 obtain rfl:j=n:=by omega
 have jI:¬(j:Int)<j:=by omega
 rw[Zi (by rw[HN.o];exact Za _)]at ag;obtain⟨A4,c4,rfl⟩:=zA3 ag;have bn:=Sl.of_own ag
 have az:j≤c4:=by
  rcases ag.2 with ⟨hv,h0⟩|⟨g,cap,cw,hv,_,_,cv,_⟩
  · omega
  simp only[ZZ]at hv;omega
 have hJ:∀W:World,W=wr→Calls prog 135 #[.slice A4 j c4,.string ⟨#[32]⟩] W fun e w'=>e=.returned (.string ⟨(zB1 m).toArray⟩)∧Below W.heap.size W w':=by
  rintro W rfl;rcases YF j with hj0|hj0
  · have cd:m=[]:=List.length_eq_zero_iff.1 (by rw[HN.o];exact hj0);subst hj0;refine (Tryz.strings_Join_none A4 c4 ⟨#[32]⟩ W).mono ?_;rintro e w' ⟨rfl,rfl⟩;exact⟨by rw[cd];rfl,Zc _ _⟩
  have h:=Jn.any A4 c4 W.heap.size j (m.map fun x=>⟨(Fi.text x.toNat).toArray⟩) ⟨#[32]⟩ W (by rw[Ze,HN.o]) hj0 (Za _) (by rw[Xf];exact bn) az (by omega) (fun y hy=>by
   obtain⟨x,hx,rfl⟩:=List.mem_map.1 hy;rw[zEp];have:=zAE x.toNat (by have:=bi.o x hx;omega);omega) (by decide)
  refine h.mono ?_;rintro e w' ⟨rfl,hb⟩;refine⟨?_,hb⟩;rw[Xf,show (⟨#[32]⟩:ByteArray).data.toList=[32] from rfl,zHS];rfl
 have ay:=cn.o.below' aa (ZO _);have ck:=hy' (bk.o.trans (aa.mono (show w.heap.size≤w.heap.size+2 by omega)));obtain⟨mt,ba⟩:∃y:ByteArray,⟨(zB1 m).toArray⟩=y:=⟨_,rfl⟩;simp only[ba]at hJ;have bq:=hy' ba;clear ag bn az aa ba;go_wp2_with fail;refine (hJ _ rfl).mono ?_;rintro e w5 ⟨rfl,a6⟩;have aj:=ay.below a6;have y5:=aj.cell 5 rfl;have g5:=aj.frozen 5;have a1:=aj.set 5 (.string mt);have ct:wr.heap.size≤w5.heap.size:=a6.size;have b3:w.heap.size+1<w5.heap.size:=by omega
 have bw:=hy' (((ck.o.trans (a6.mono (by omega))).setCell (p:=⟨w.heap.size+1,5,none⟩) (show w.heap.size≤w.heap.size+1 by omega) (.string mt)))
 have bx:Sl (w5.setCell ⟨w.heap.size+1,5,none⟩ (.string mt)) (w5.setCell ⟨w.heap.size+1,5,none⟩ (.string mt)).heap.size (some ⟨w.heap.size+1,0,none⟩) ((zG6 x0 x3 mt).map Value.string) :=
  Sl.lit rfl _ _ a1
 have bj:=Jn.any (some ⟨w.heap.size+1,0,none⟩) 15 _ 15 (zG6 x0 x3 mt) ⟨#[59]⟩ (w5.setCell ⟨w.heap.size+1,5,none⟩ (.string mt)) rfl (by decide) (Za _) bx (Za _) (by decide) (zMK x0 x3 mt (by rw[←bu.o,zEp];have:=zAE c.toNat (by omega);omega) (by
  rw[←bo.o,zEp];have:=zCQ 9 k.toNat (by rw[show (10:Nat) ^ (9+1)=10000000000 from by decide];omega);omega) (by
  rw[←bq.o,zEp];exact zOe m (by rw[HN.o];exact hm) bi.o)) (by decide)
 have ax:(⟨(Lib.join ((zG6 x0 x3 mt).map (·.data.toList)) (⟨#[59]⟩:ByteArray).data.toList).toArray⟩:ByteArray)=⟨(Rw.line (c,k,m)).toArray⟩:=by
  rw[←bu.o,←bo.o,←bq.o];exact Z6 (fun l:List UInt8=>(⟨l.toArray⟩:ByteArray)) (zML c k m)
 rw[ax]at bj;clear aj a1 bx a6 hJ ay ax;go_wp2_with fail;refine bj.mono ?_;rintro e w7 ⟨rfl,bl⟩;have b2:=hy' (bw.o.trans (bl.mono bw.o.size));clear bl bj;go_wp2_with fail;go_ret;exact⟨rfl,b2.o⟩
def zC4:List Value:=[.int .i32 44032,.int .i32 55203,.string ⟨zSO.toArray⟩,.int .i32 55296,.int .i32 56191,.string ⟨Xt.n1.toArray⟩,.int .i32 57344,.int .i32 63743,.string ⟨zSQ.toArray⟩]
theorem zMN (w:World):Calls prog 96 #[] w fun e w'=>e=.returned (.slice (some ⟨w.heap.size,0,none⟩) 3 3)∧Rw.At w' w.heap.size 157 zC4∧Below w.heap.size w w':=by
 go_enter func96,ntmps96;go_wp2_with fail;go_ret;exact⟨rfl,Rw.At.new w 157 zC4,(Zc _ _).alloc (Za _) _⟩
def Xt.ln (c:Nat) (nm en:List UInt8):List UInt8:=Fi.text c++([59,60]++(nm++([44,32]++(en++[62,59,59,48,59,59,59,59,59,59,59,59,59,59,59,10]))))
theorem Xt.line_any (f t:Int) (c:Nat) (nm en:List UInt8) (w:World) (hc:c≤1114111) (hn:nm.length≤100) (he:en.length≤100) (hL:Fi.Laid w) :
 Calls prog 99 #[.agg #[.int .i32 f,.int .i32 t,.string ⟨nm.toArray⟩],.int .i32 c,.string ⟨en.toArray⟩] w fun e w'=>e=.returned (.string ⟨(Xt.ln c nm en).toArray⟩)∧Below w.heap.size w w':=by
 obtain⟨wa,aa⟩:∃wa,w.alloc (.cells #[.int .i32 f,.int .i32 t,.string ⟨nm.toArray⟩] 157)=wa:=⟨_,rfl⟩;have aq:Below w.heap.size w wa:=by rw[←aa];exact (Zc _ _).alloc (Za _) _
 have ai:Rw.At wa w.heap.size 157 [.int .i32 f,.int .i32 t,.string ⟨nm.toArray⟩]:=by rw[←aa];exact Rw.At.new w 157 [.int .i32 f,.int .i32 t,.string ⟨nm.toArray⟩]
 have hT:=fun W (hW:Below w.heap.size w W)=>Fi.text_any c (by omega) W (hL.below hW)
 have af:∀x:ByteArray,x=⟨(Fi.text c).toArray⟩→((((x++⟨#[59,60]⟩)++⟨nm.toArray⟩)++⟨#[44,32]⟩)++⟨en.toArray⟩)++⟨#[62,59,59,48,59,59,59,59,59,59,59,59,59,59,59,10]⟩=(⟨(Xt.ln c nm en).toArray⟩:ByteArray):=by
  rintro x rfl;rw[show (⟨#[59,60]⟩:ByteArray)=⟨[59,60].toArray⟩ from rfl,show (⟨#[44,32]⟩:ByteArray)=⟨[44,32].toArray⟩ from rfl,show (⟨#[62,59,59,48,59,59,59,59,59,59,59,59,59,59,59,10]⟩:ByteArray)=⟨[62,59,59,48,59,59,59,59,59,59,59,59,59,59,59,10].toArray⟩ from rfl,zAJ,zAJ,zAJ,zAJ,zAJ];unfold Xt.ln;simp
 obtain⟨tx,ag⟩:∃y:ByteArray,⟨(Fi.text c).toArray⟩=y:=⟨_,rfl⟩;have hr:=af tx ag.symm
 have t6:tx.size≤6:=by
  rw[←ag];show (Fi.text c).toArray.size≤6;have:=zAE c hc;simpa using this
 obtain⟨n1,ah⟩:∃y:ByteArray,⟨nm.toArray⟩=y:=⟨_,rfl⟩;obtain⟨e1,ao⟩:∃y:ByteArray,⟨en.toArray⟩=y:=⟨_,rfl⟩;have aw:n1.size≤100:=by rw[←ah,zAx];exact hn
 have ax:e1.size≤100:=by rw[←ao,zAx];exact he
 rw[ah,ao]at hr ⊢;rw[ah]at ai aa;simp only[ag]at hT;obtain⟨ay,ae⟩:∃y:ByteArray,⟨(Xt.ln c nm en).toArray⟩=y:=⟨_,rfl⟩;rw[ae]at hr ⊢;have s2:(⟨#[59,60]⟩:ByteArray).size=2:=rfl;have s3:(⟨#[44,32]⟩:ByteArray).size=2:=rfl;have s4:(⟨#[62,59,59,48,59,59,59,59,59,59,59,59,59,59,59,10]⟩:ByteArray).size=16:=rfl;have HR:=hy' hr;have av:=hy' aa;have ak:=hy' aq;have ar:=hy' ai;have HT:=hy' hT;clear hr af ag aa aq ai hT ah ao ae hL hn he;go_enter func99,ntmps99;go_upto_region 1 with (fail)
 rw[av.o];refine Stg.wp_region (by kernel_rfl) Stg.Ex Stg.Ex.rel ?_;refine Stg.readW (by kernel_rfl) ?_;intro K hK;go_big_quiet_op;go_big_quiet_on;refine Stg.cl 133 _ _ rfl func133 [.int .i32 c] rfl wa.drew _ (HT.o wa.drew ak.o.drew) (by kernel_rfl) rfl ?_;rintro e w1 ⟨rfl,aj⟩;refine⟨_,rfl,aj,?_⟩;have au:=hy' (ak.o.drew.trans (aj.mono ak.o.size));clear aj;intro A' ap;simp only[Act.put,Zl,Zv,Zs]at ap;subst ap;have e2:=Stg.cells (w:=wa.drew) (ar.o.cell 2 rfl) ar.o.lt;have c1:¬9223372036854775807<tx.size+(⟨#[59,60]⟩:ByteArray).size:=by omega
 have c2:¬9223372036854775807<(tx++⟨#[59,60]⟩).size+n1.size:=by rw[ZU];omega
 have c3:¬9223372036854775807<((tx++⟨#[59,60]⟩)++n1).size+(⟨#[44,32]⟩:ByteArray).size:=by rw[ZU,ZU];omega
 have c4:¬9223372036854775807<(((tx++⟨#[59,60]⟩)++n1)++⟨#[44,32]⟩).size+e1.size:=by rw[ZU,ZU,ZU];omega
 have c5:¬9223372036854775807<((((tx++⟨#[59,60]⟩)++n1)++⟨#[44,32]⟩)++e1).size+(⟨#[62,59,59,48,59,59,59,59,59,59,59,59,59,59,59,10]⟩:ByteArray).size:=by rw[ZU,ZU,ZU,ZU];omega
 (iterate 2 (refine Stg.readW (by kernel_rfl) ?_;intro K hK;go_big_quiet_op;go_big_quiet_on));refine Stg.read 1 (by kernel_rfl) wa.drew rfl ?_;intro K hK;go_big_quiet_op;go_big_quiet_on;(iterate 6 (refine Stg.readW (by kernel_rfl) ?_;intro K hK;go_big_quiet_op;go_big_quiet_on));refine Stg.nil w1 rfl ?_;go_wp2_with fail;go_ret;rw[HR.o];exact⟨rfl,au.o⟩
inductive Xt.Is:List Oper→Nat→List Rw.Row→List Nat→List Oper→Prop
 | nil {rest:List Oper} {s:Nat}:Xt.Is rest s [] [] rest
 | two {o1 o2:Oper} {l rest:List Oper} {s k:Nat} {p:Array (Nat × Operand)} {c n:Int} {m:List Int} {T:List Rw.Row} {sl:List Nat}:o1.guard=none→o1.dst=some s→o1.op=.buildSlice 35 k p→m.length=k→0<k→k≤2→p.toList=((m.zipIdx 0).map fun x=>(x.2,Operand.const (Value.int .i32 x.1))) →
    o2.guard=none→o2.dst=some (s+1)→o2.op=.build 155 #[(0,.const (.int .i32 c)),(1,.const (.int .i64 n)),(2,.tmp s)]→Xt.Is l (s+2) T sl rest→Xt.Is (o1::o2::l) s ((c,n,m)::T) ((s+1)::sl) rest
 | one {o:Oper} {l rest:List Oper} {s:Nat} {c n:Int} {T:List Rw.Row} {sl:List Nat}:o.guard=none→o.dst=some s→o.op=.build 155 #[(0,.const (.int .i32 c)),(1,.const (.int .i64 n))]→Xt.Is l (s+1) T sl rest→Xt.Is (o::l) s ((c,n,[])::T) (s::sl) rest
def Xt.val (r:Rw.Row) (a:Option Addr × Nat):Value:=.agg #[.int .i32 r.1,.int .i64 r.2.1,.slice a.1 r.2.2.length a.2]
theorem zOf (c n:Int) (A:Option Addr) (k q:Nat) (w:World):(Instr.build 155 #[(0,.int .i32 c),(1,.int .i64 n),(2,.slice A k q)]).run prog w=.ok (.agg #[.int .i32 c,.int .i64 n,.slice A k q]) w:=by kernel_rfl
theorem zOg (c n:Int) (w:World):(Instr.build 155 #[(0,.int .i32 c),(1,.int .i64 n)]).run prog w=.ok (.agg #[.int .i32 c,.int .i64 n,.slice none 0 0]) w:=by kernel_rfl
theorem zRE {P:Program} {o:Oper} {ρ:Operand→Value} {w w':World} (t:TypeId) (x y z:Operand) (ho:o.op=.build t #[(0,x),(1,y),(2,z)]) (v:Value) (hz:ρ z=v) (u:Value) (hr:(Instr.build t #[(0,ρ x),(1,ρ y),(2,v)]).run P w=.ok u w'):(execOp ρ o).run P w=.ok (.value u) w':=by
 subst hz;simp only[execOp,ho,YG,Xd,ZV,Yr,hr,Yw,Yv]
theorem zRF {P:Program} {o:Oper} {ρ:Operand→Value} {w w':World} (t:TypeId) (x y:Operand) (ho:o.op=.build t #[(0,x),(1,y)]) (u:Value) (hr:(Instr.build t #[(0,ρ x),(1,ρ y)]).run P w=.ok u w'):(execOp ρ o).run P w=.ok (.value u) w':=by
 simp only[execOp,ho,YG,Xd,ZV,Yr,hr,Yw,Yv]
theorem zG7 {a:Act} {s:Nat} {v:Value} (h:s<a.tmps.size):(a.put (some s) v).eval (.tmp s)=v:=by
 simp[Act.put,Act.eval,Array.getD,h]
theorem zF2 {a:Act} {s q:Nat} {v:Value} (h:q≠s):(a.put (some s) v).eval (.tmp q)=a.eval (.tmp q):=by
 have:¬s=q:=fun e=>h e.symm
 simp[Act.put,Act.eval,this]
theorem zC0 {a:Act} {s:Nat} {v:Value}:(a.put (some s) v).tmps.size=a.tmps.size:=by simp[Act.put]
theorem zSj {ops:Array Oper} {Q:Exit→Act→World→Prop} {l rest:List Oper} {s:Nat} {T:List Rw.Row} {sl:List Nat} (h:Xt.Is l s T sl rest):∀(a:Act) (w:World) (B:Nat) (vals:List (Nat × Value)),s+l.length≤a.tmps.size+rest.length→(∀x∈vals,x.1<s∧a.eval (.tmp x.1)=x.2)→B≤w.heap.size →
 (∀(a':Act) (w':World) (ads:List (Option Addr × Nat)),ads.length=T.length→Below B w w'→(∀(i:Nat) (r:Rw.Row) (ad:Option Addr × Nat),T[i]?=some r→ads[i]?=some ad→Slt w' 21 ad.1 (r.2.2.map (Value.int .i32)))→(a'.tmps.size=a.tmps.size∧a'.defers=a.defers) →
   (∀x∈vals,a'.eval (.tmp x.1)=x.2)→(sl.map fun q=>a'.eval (.tmp q))=List.zipWith Xt.val T ads→wpList prog ops Q rest a' w')→wpList prog ops Q l a w:=by
 induction h with
 | nil=>intro a w B vals hs hv hB K;exact K a w [] rfl (Zc _ _) (fun i r ad h=>by simp at h) ⟨rfl,rfl⟩ (fun x hx=>(hv x hx).2) rfl
 | @two o1 o2 l rest s k p c n m T sl g1 d1 h1 hm k0 k2 hp g2 d2 h2 _ ih =>
   intro a w B vals hs hv hB K;simp only[ZB]at hs
   have hle:rest.length≤l.length:=by
    have:∀{l rest:List Oper} {s:Nat} {T:List Rw.Row} {sl:List Nat},Xt.Is l s T sl rest→rest.length≤l.length:=by
     intro l rest s T sl h
     induction h with
     | nil=>exact Za _
     | two _ _ _ _ _ _ _ _ _ _ _ ih=>simp only[ZB];omega
     | one _ _ _ _ ih=>simp only[ZB];omega
    exact this (by assumption)
   refine wpList_buildFlatAt g1 35 21 k p h1 .i32 m w.heap.size rfl (some s) d1 underlying35 (by kernel_rfl) (by kernel_rfl) hm.symm (by omega) (by omega) hp ?_;refine zBf g2 _ (zRE 155 _ _ _ h2 _ (zG7 (by omega)) _ (zOf c n _ k k _)) ?_;rw[d2];have ak:Below B w (w.alloc (.cells (m.map (Value.int .i32)).toArray 21)):=(Zc _ _).alloc hB _;have aj:=Rw.At.new w 21 (m.map (Value.int .i32));refine ih _ _ (w.heap.size+1) ((s+1,.agg #[.int .i32 c,.int .i64 n,.slice (some ⟨w.heap.size,0,none⟩) k k])::vals) (by rw[zC0,zC0];omega) (fun x hx=>?_) (by simp) ?_
   · rcases List.mem_cons.1 hx with rfl|hx
     · exact⟨by omega,zG7 (by rw[zC0];omega)⟩
     have:=hv x hx;exact⟨by omega,by rw[zF2 (by omega),zF2 (by omega)];exact this.2⟩
   intro a' w' ads hl hb ae af ag ai;refine K a' w' ((some ⟨w.heap.size,0,none⟩,k)::ads) (by simp[hl]) (ak.trans (hb.mono (by omega))) ?_ ⟨by rw[af.1,zC0,zC0],af.2⟩ (fun x hx=>ag x (Zy _ hx)) ?_
   · intro i r ad hr aa;cases i with
     | zero =>
       simp at hr aa;subst hr;subst aa;have ah:=aj.below' hb (ZO _);exact fun _=>⟨_,0,_,rfl,ah,fun i _=>by simp⟩
     | succ i=>exact ae i r ad (by simpa using hr) (by simpa using aa)
   rw[ZV,Qj,ai];congr 1;have:=ag _ Zu;rw[this];unfold Xt.val;rw[hm]
 | @one o l rest s c n T sl g1 d1 h1 _ ih =>
   intro a w B vals hs hv hB K;simp only[ZB]at hs
   have hle:rest.length≤l.length:=by
    have:∀{l rest:List Oper} {s:Nat} {T:List Rw.Row} {sl:List Nat},Xt.Is l s T sl rest→rest.length≤l.length:=by
     intro l rest s T sl h
     induction h with
     | nil=>exact Za _
     | two _ _ _ _ _ _ _ _ _ _ _ ih=>simp only[ZB];omega
     | one _ _ _ _ ih=>simp only[ZB];omega
    exact this (by assumption)
   refine zBf g1 _ (zRF 155 _ _ h1 _ (zOg c n _)) ?_;rw[d1];refine ih _ _ B ((s,.agg #[.int .i32 c,.int .i64 n,.slice none 0 0])::vals) (by rw[zC0];omega) (fun x hx=>?_) hB ?_
   · rcases List.mem_cons.1 hx with rfl|hx
     · exact⟨by omega,zG7 (by omega)⟩
     have:=hv x hx;exact⟨by omega,by rw[zF2 (by omega)];exact this.2⟩
   intro a' w' ads hl hb ae af ag ai;refine K a' w' ((none,0)::ads) (by simp[hl]) hb ?_ ⟨by rw[af.1,zC0],af.2⟩ (fun x hx=>ag x (Zy _ hx)) ?_
   · intro i r ad hr aa;cases i with
     | zero =>
       simp at hr aa;subst hr;subst aa;exact Slt.nil _ _ _
     | succ i=>exact ae i r ad (by simpa using hr) (by simpa using aa)
   rw[ZV,Qj,ai];congr 1;exact ag _ Zu
theorem zKp:∀(T:List Rw.Row) (ads:List (Option Addr × Nat)),((List.zipWith Xt.val T ads).flatMap fun v=>v.cells.toList)=Rw.fl T ads
 | [],_=>rfl
 | _::_,[]=>rfl
 | r::T,a::ads=>by
   rw[Qj,Y7,zKp T ads];rfl
theorem zMO (w:World):Calls prog 97 #[] w fun e w'=>∃A c,e=.returned (.slice A Xt.T.length c)∧Rw.Tab w' A Xt.T∧Below w.heap.size w w':=by
 go_enter func97,ntmps97;go_upto_region 1 with (fail)
 go_step;apply zSj (s:=1) (T:=Xt.T) (B:=w.heap.size) (vals:=[])
 case h=>repeat (first|exact Xt.Is.nil|apply Xt.Is.two rfl rfl rfl rfl (by decide) (by decide) rfl rfl rfl rfl|apply Xt.Is.one rfl rfl rfl)
 · exact Jk (by kernel_rfl)
 · intro x hx;cases hx
 · exact Za _
 intro a' w' ads hl hb aa ae _ ai;have hi:(prog.info? 155).map (fun i=>(i.zero.isSome,i.size))=some (true,3):=by kernel_rfl
 cases hie:prog.info? 155 with
 | none=>simp[hie]at hi
 | some ie =>
   simp only[hie,Zz,Zg,Yx]at hi;obtain⟨z,hz⟩:=Option.isSome_iff_exists.1 hi.1;have ag:Xt.T.length=121:=rfl;refine wpList_buildSlice rfl 83 155 121 _ rfl (Rw.fl Xt.T ads).toArray ie z underlying83 hie hz (by rw[hi.2];decide) (by rw[hi.2];decide) ?_ ?_
   · rw[hi.2]
     have h2:∀(p:Array (Nat × Operand)) (sl:List Nat),p.toList=((sl.zipIdx 0).map fun x=>(x.2,Operand.tmp x.1))→(p.map fun (i,x)=>(i,a'.eval x)).toList=(((sl.map fun q=>a'.eval (.tmp q)).zipIdx 0).map fun x=>(x.2,x.1)):=fun p sl hp=>by
      rw[Array.toList_map,hp,List.zipIdx_map,Xf,Xf];rfl
     rw[h2 _ _ (by kernel_rfl),ai];have ah:(List.zipWith Xt.val Xt.T ads).length=121:=by rw[List.length_zipWith,hl,ag];rfl
     rw[Go.Great.fill_whole (s:=3) (by decide) _ _ (fun v hv=>?_) (by rw[ah];simp),zKp];obtain⟨i,aj,rfl⟩:=Xr hv;rw[List.getElem_zipWith];rfl
   go_wp2_with fail;have h0:0<a'.tmps.size:=by rw[ae.1];exact Jk (by kernel_rfl)
   refine YH (results_tmp rfl _ prog _) rfl ?_;refine⟨some ⟨w'.heap.size,0,none⟩,⟨121,by simp[h0]⟩,⟨ads,hl,?_,?_⟩,?_⟩
   · exact fun _=>⟨_,0,_,rfl,ZT _ _,fun i _=>by simp⟩
   · intro i r ad hr af;exact (aa i r ad hr af).below ((Zc _ _).alloc (Za _) _)
   exact hb.alloc hb.size _
end
end Go.Proofs.YtjakbblocbicjaaGreatDoor
