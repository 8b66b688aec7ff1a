/- Where a box of two slices is stored to, what is read elsewhere stays. -/
import Derived.Test.YtikiplbhlohmdaaGreatDoorMdRight
set_option linter.unusedVariables false
set_option linter.unusedSimpArgs false
namespace Go.Proofs.YtikiplbhlohmdaaGreatDoor
open Go.RowKit
theorem Md.mem_chars {E:List Int} (h:∀c∈E,C.isC c=true):C.mem (C.chars E)=Md.xs E:=by
 funext d
 rw[(C.chars_spec _).2 d]
 unfold Md.xs
 by_cases hd:d∈E
 · rw[h d hd,Bool.and_true]
 · rw[Zo hd,Xh]
theorem Sl.setAt {w:World} {B:Nat} {A:Option Addr} {xs cs:List Value} {b:Nat} {t:TypeId} (h:Sl w B A xs) (aa:Rw.At w b t cs) (hd:∀x,xs[0]?=some x→x∉cs) (i:Nat) (v:Value):Sl (w.setCell ⟨b,i,none⟩ v) B A xs:=by
 intro hx
 obtain⟨g,o,hA,hg,hc⟩:=h hx
 have hne:g≠b:=fun e=>by
  subst e
  have h0:=hc 0 hx
  rw[Zc hx]at h0
  refine hd _ (Zc hx) ?_
  unfold Rw.At at aa
  simp[World.cell?,aa]at h0
  exact Zk h0
 refine⟨g,o,hA,hg,fun j hj=>?_⟩
 rw[←hc j hj]
 have he:=Ym w ⟨b,i,none⟩ v g hne
 unfold World.cell?
 simp only[he]
theorem Md.Doc.setAt {w:World} {v:Value} {T:List Rw.Row} {E:List Int} (h:Md.Doc w v T E) {b:Nat} {A0 A1:Option Addr} {n0 c0 n1 c1:Nat} {t:TypeId} (aa:Rw.At w b t [.slice A0 n0 c0,.slice A1 n1 c1]) (i:Nat) (u:Value):Md.Doc (w.setCell ⟨b,i,none⟩ u) v T E:=by
 have hi:∀(l:List Int) x,(l.map (Value.int .i64))[0]?=some x→x∉[Value.slice A0 n0 c0,Value.slice A1 n1 c1]:=by
  intro l x hx hm
  cases l with
  | nil=>simp at hx
  | cons y l=>simp at hx;subst hx;simp at hm
 obtain⟨A,c,XA,xc,rfl,⟨ads,hl,hs,hm⟩,hx⟩:=h
 refine⟨A,c,XA,xc,rfl,⟨ads,hl,?_,fun j r a h1 h2=>?_⟩,?_⟩
 · rw[ZN]
   refine hs.setAt aa (fun x hx hm=>?_) i u
   cases T with
   | nil=>simp[Rw.flI]at hx
   | cons r T =>
     cases ads with
     | nil=>simp at hl
     | cons a ads=>simp[Rw.flI]at hx;subst hx;simp at hm
 · rw[ZN]
   exact (hm j r a h1 h2).setAt aa (hi _) i u
 · rw[ZN]
   exact hx.setAt aa (hi _) i u
structure Ud.Right (T:List Rw.Row) (E S:List Int):Prop where
 tl:T.length≤20
 el:E.length≤30
 rok:∀r∈T,Md.rok r
 ec:∀c∈E,C.isC c=true
 ok:Ud.Ok T S
 mem:C.mem S=Md.xs E
 sl:S.length≤60
theorem Ud.good_right {r:Rw.Row} (h:Md.good r):Rw.right r :=
 ⟨(Ud.isC_bd h.1).1,(Ud.isC_bd h.1).2,h.2.1,h.2.2.1,h.2.2.2.1,fun c hc=>Ud.isC_bd (h.2.2.2.2.2 c hc).1⟩
theorem Ud.rise_of:∀(T:List Rw.Row) (c:Int),Md.rises T→(∀r∈T,c<r.1)→Rw.rise c T
 | [],_,_,_=>trivial
 | r::T,c,h,hc=>by
   unfold Md.rises at h
   rw[Xx]at h
   exact⟨hc r Zv,Ud.rise_of T r.1 h.2 h.1⟩
theorem Ud.right_of {T:List Rw.Row} {E:List Int} (h1:T.length≤20) (h2:E.length≤30) (h3:∀r∈T,Md.rok r) (h4:∀c∈E,C.isC c=true) (h5:Md.chk T (Md.xs E)=0):Ud.Right T E (C.chars (Ud.uniq E)):=by
 have hm:C.mem (C.chars (Ud.uniq E))=Md.xs E:=by
  rw[Md.mem_chars fun c hc=>h4 c ((Ud.uniq_mem _ _).1 hc)]
  funext d
  unfold Md.xs
  rw[Yb,Z5,Z5,Ud.uniq_mem]
 have hl:(C.chars (Ud.uniq E)).length≤60:=by
  have g1:=C.chars_len (Ud.uniq E)
  have g2:=Ud.uniq_len E
  omega
 exact⟨h1,h2,h3,h4,⟨by rw[hm];exact h5,(C.chars_spec _).1.1,by omega,by omega⟩,hm,hl⟩
theorem Ud.parse_txt {T:List Rw.Row} {E S:List Int} (h:Ud.Right T E S):Rw.parse (Rw.txt T)=some T:=by
 rw[Rw.parse_txt T (fun r hr=>⟨Ud.good_right (h.ok.good r hr),.inl (h.ok.good r hr).1⟩) (Ud.rise_of T (-1) h.ok.rises fun r hr=>by have:=(Ud.isC_bd (h.ok.good r hr).1).1;omega) (by have:=h.tl;omega)]
 congr 1
 rw[List.filter_eq_self]
 intro r hr
 have hl:=(h.rok r hr).2.2.2.2
 unfold Rw.quiet
 simp only[Xm,XF,ZY]
 by_cases h0:r.2.1=0
 · exact .inr fun e=>hl h0 (Zy e)
 · exact .inl h0
theorem Ud.parse_btxt {T:List Rw.Row} {E S:List Int} (h:Ud.Right T E S):Ex.parse (Ex.btxt (Ud.uniq E))=some (Ud.uniq E) :=
 Ex.parse_btxt _ (fun c hc=>h.ec c ((Ud.uniq_mem _ _).1 hc)) (Ud.uniq_nodup E) (by have:=Ud.uniq_len E;have:=h.el;omega)
theorem Sl.setAtK {w:World} {B:Nat} {A:Option Addr} {xs cs:List Value} {b:Nat} {t:TypeId} (h:Sl w B A xs) (ae:Rw.At w b t cs) (k:Nat) (hd:∀x,xs[k]?=some x→x∉cs) (hk:xs≠[]→k<xs.length) (i:Nat) (v:Value):Sl (w.setCell ⟨b,i,none⟩ v) B A xs:=by
 intro hx
 obtain⟨g,o,hA,hg,hc⟩:=h hx
 have aa:=hk (List.length_pos_iff.1 hx)
 have hne:g≠b:=fun e=>by
  subst e
  have h0:=hc k aa
  rw[Zc aa]at h0
  refine hd _ (Zc aa) ?_
  unfold Rw.At at ae
  simp[World.cell?,ae]at h0
  exact Zk h0
 refine⟨g,o,hA,hg,fun j hj=>?_⟩
 rw[←hc j hj]
 have he:=Ym w ⟨b,i,none⟩ v g hne
 unfold World.cell?
 simp only[he]
theorem Sl.setInts {k:IntKind} {w:World} {B:Nat} {A:Option Addr} {l:List Int} {b:Nat} {t:TypeId} {A0 A1:Option Addr} {n0 c0 n1 c1:Nat} (h:Sl w B A (l.map (Value.int k))) (aa:Rw.At w b t [.slice A0 n0 c0,.slice A1 n1 c1]) (i:Nat) (u:Value):Sl (w.setCell ⟨b,i,none⟩ u) B A (l.map (Value.int k)):=by
 refine h.setAtK aa 0 (fun x hx hm=>?_) (fun hne=>List.length_pos_iff.2 hne) i u
 cases l with
 | nil=>simp at hx
 | cons y l=>simp at hx;subst hx;simp at hm
theorem Rw.At.setAt {w:World} {b b':Nat} {t t':TypeId} {cs cs':List Value} (h:Rw.At w b' t' cs') (aa:Rw.At w b t cs) (hl:cs.length≠cs'.length) (i:Nat) (u:Value):Rw.At (w.setCell ⟨b,i,none⟩ u) b' t' cs':=by
 refine h.other (fun e=>?_) u
 subst e
 have:=h.symm.trans aa
 simp only[Zi,XD]at this
 have h2:=Z4 Array.size this.1
 simp at h2
 omega
theorem Pg.Is.setAt {w:World} {v:Value} {idx:List Int} {bl:List (List Int)} (h:Pg.Is w v idx bl) (hx:2≤idx.length) {b:Nat} {t:TypeId} {A0 A1:Option Addr} {n0 c0 n1 c1:Nat} (aa:Rw.At w b t [.slice A0 n0 c0,.slice A1 n1 c1]) (i:Nat) (u:Value):Pg.Is (w.setCell ⟨b,i,none⟩ u) v idx bl:=by
 obtain⟨g,A,c,h1,h2,h3⟩:=h
 refine⟨g,A,c,h1,h2.setAt aa (by simp;omega) i u,?_⟩
 rw[ZN]
 exact h3.setInts aa i u
theorem Mp.Is.setAt {k:TypeId} {w:World} {m:Nat} {F:Value→Option Value} (h:Mp.Is Tryz.prog k w m F) {b:Nat} {t:TypeId} {cs:List Value} (aa:Rw.At w b t cs) (i:Nat) (u:Value):Mp.Is Tryz.prog k (w.setCell ⟨b,i,none⟩ u) m F:=by
 refine h.same (Ym w ⟨b,i,none⟩ u m fun e=>?_)
 subst e
 exact h.notcells aa
theorem Rw.Sees.setAt {w:World} {A:Option Addr} {T:List Rw.Row} (h:Rw.Sees w A T) {b:Nat} {t:TypeId} {A0 A1:Option Addr} {n0 c0 n1 c1:Nat} (aa:Rw.At w b t [.slice A0 n0 c0,.slice A1 n1 c1]) (i:Nat) (u:Value):Rw.Sees (w.setCell ⟨b,i,none⟩ u) A T:=by
 obtain⟨ads,hl,hs,hm⟩:=h
 refine⟨ads,hl,?_,fun j r a h1 h2=>?_⟩
 · rw[ZN]
   refine hs.setAtK aa 0 (fun x hx hm=>?_) (fun hne=>List.length_pos_iff.2 hne) i u
   cases T with
   | nil=>simp[Rw.fl]at hx
   | cons r T =>
     cases ads with
     | nil=>simp at hl
     | cons a ads=>simp[Rw.fl]at hx;subst hx;simp at hm
 · rw[ZN]
   exact (hm j r a h1 h2).setInts aa i u
theorem Ud.Ents.setAt {w:World} {T:List Rw.Row} {X:Int→Bool} {A:Option Addr} {es:List Ud.At} (h:Ud.Ents w T X A es) {b:Nat} {t:TypeId} {A0 A1:Option Addr} {n0 c0 n1 c1:Nat} (aa:Rw.At w b t [.slice A0 n0 c0,.slice A1 n1 c1]) (i:Nat) (u:Value):Ud.Ents (w.setCell ⟨b,i,none⟩ u) T X A es:=by
 refine⟨h.1,?_,fun j r a h1 h2=>?_⟩
 · rw[ZN]
   have hl:=Ud.flE_len T X (Ud.mr T) es h.1
   refine h.2.1.setAtK aa 2 (fun x hx hm=>?_) (fun hne=>?_) i u
   · cases hmr:Ud.mr T with
     | nil=>rw[hmr]at hx;cases es <;> simp[Ud.flE]at hx
     | cons r l =>
       rw[hmr]at hx
       cases es with
       | nil=>simp[Ud.flE]at hx
       | cons a es=>simp[Ud.flE]at hx;subst hx;simp at hm
   · have:=List.length_pos_iff.2 hne
     rw[hl]at this ⊢
     omega
 · rw[ZN]
   exact⟨(h.2.2 j r a h1 h2).1.setInts aa i u,(h.2.2 j r a h1 h2).2.setInts aa i u⟩
theorem Pg.idx_len2 (f:Int→Int):2≤(Pg.idx f 4352).length:=by rw[Pg.idx_len];decide
theorem Ud.Is.setAt {w:World} {v:Value} {T:List Rw.Row} {S:List Int} (h:Ud.Is w v T S) {b:Nat} {t:TypeId} {B0 B1:Option Addr} {n0 d0 n1 d1:Nat} (aa:Rw.At w b t [.slice B0 n0 d0,.slice B1 n1 d1]) (i:Nat) (u:Value):Ud.Is (w.setCell ⟨b,i,none⟩ u) v T S:=by
 obtain⟨g,A0,c0,XA,xc,pc,pp,A3,c3,mb,jb,A4,c4,A5,c5,A6,c6,es,h1,h2,h3,h4,h5,h6,h7,⟨F,hF,af⟩,⟨J,hJ,ah⟩,ae,ai,ag⟩:=h.is
 refine⟨g,A0,c0,XA,xc,pc,pp,A3,c3,mb,jb,A4,c4,A5,c5,A6,c6,es,h1,h2.setAt aa (by simp) i u,h3.setAt aa i u,?_,h5.setAt (Pg.idx_len2 _) aa i u,h6.setAt (Pg.idx_len2 _) aa i u,h7.setAt aa i u,⟨F,hF.setAt aa i u,fun c=>?_⟩,⟨J,hJ.setAt aa i u,ah⟩,?_,?_,?_⟩
 · rw[ZN];exact h4.setInts aa i u
 · rcases af c with hh|⟨A,cap,g1,g2⟩
   · exact .inl hh
   · refine .inr ⟨A,cap,g1,?_⟩
     rw[ZN];exact g2.setInts aa i u
 · rw[ZN];exact ae.setInts aa i u
 · rw[ZN];exact ai.setInts aa i u
 · rw[ZN];exact ag.setInts aa i u
theorem results_tmp_cell {P:Program} {fn:Func} {p u:Tmp} {ty:TypeId} (h:fn.results = #[.tmp u,.cell p ty]) (tmps:Array Value) (w:World) (g:Nat) (t:TypeId) (cs:Array Value) (fr:Nat × Nat) (d:TypeDesc)
 (hp:tmps.getD p undef=.pointer (some ⟨g,0,none⟩)) (hg:w.heap[g]?=some (.cells cs t fr))
 (hu:P.underlying ty=some d) (hd:(match d with | .struct _ | .array _ _=>true|_=>false)=true) (hi:(P.info? ty).map (·.size)=some cs.size) :
 (results fn tmps).run P w=.ok (.tuple #[tmps.getD u undef,.agg cs]) w:=by
 have aa:tmps[p]?.getD undef=.pointer (some ⟨g,0,none⟩):=by simpa using hp
 simp[results,h,aa,asAddr,XR w g t ty cs fr d hg hu hd hi]
def Ud.RetLoaded (w:World) (e:Ending) (w':World):Prop :=
 ∃p v T E S,e=.returned (.tuple #[p,v])∧Ud.Is w' p T S∧Md.Doc w' v T E∧Ud.Right T E S∧Below w.heap.size w w'
set_option maxRecDepth 100000 in
set_option maxHeartbeats 4000000 in
theorem Ud.loaded_any (A XA:Option Addr) (n c xn xc:Nat) (T0:List Rw.Row) (E0:List Int) (w:World) (hn:T0.length=n) (hxn:E0.length=xn) (hnb:n≤maxLen) (hxb:xn≤maxLen) (hbd:∀r∈T0,Rw.bounds r) (h2:Rw.SeesI w A T0) (hX:Sl w w.heap.size XA (E0.map (Value.int .i64))) (hL:Rw.Laid w) :
 Calls Tryz.prog 27 #[.agg #[.slice A n c,.slice XA xn xc]] w (Ud.RetLoaded w):=by
 have ae:Hid (∀W,Below w.heap.size w W→Calls Tryz.prog 47 #[.agg #[.slice A n c,.slice XA xn xc]] W (Md.RetRight W)):=Za fun W hW =>
  Md.right_any A XA n c xn xc T0 E0 W hn hxn hnb hxb hbd (h2.below hW) (hX.below hW hW.size)
 have HL:=Za hL
 have b4:=Rw.At.new w 25 [.slice A n c,.slice XA xn xc]
 have bm:Below w.heap.size w (w.alloc (.cells #[.slice A n c,.slice XA xn xc] 25)):=(Zd _ _).alloc (Zb _) _
 have ai:=Rw.At.new (w.alloc (.cells #[.slice A n c,.slice XA xn xc] 25)) 25 [.slice none 0 0,.slice none 0 0]
 rw[show (w.alloc (.cells #[.slice A n c,.slice XA xn xc] 25)).heap.size=w.heap.size+1 by simp]at ai
 obtain⟨wa,ar⟩:∃wa,(w.alloc (.cells #[.slice A n c,.slice XA xn xc] 25)).alloc (.cells #[.slice none 0 0,.slice none 0 0] 25)=wa:=⟨_,rfl⟩
 have ay:Below w.heap.size w wa:=by rw[←ar];exact bm.alloc bm.size _
 have af:Rw.At wa w.heap.size 25 [.slice A n c,.slice XA xn xc]:=by rw[←ar];exact b4.alloc _
 have ag:Rw.At wa (w.heap.size+1) 25 [.slice none 0 0,.slice none 0 0]:=by
  rw[←ar]
  exact ai
 have b8:=Za ar
 have HB:=Za ay
 have cj:=Za af
 have bf:=Za ag
 have x0:=af.cell 0 rfl
 have x1:=af.cell 1 rfl
 have xl:=af.lt
 clear hn hxn hnb hxb hbd h2 hX hL b4 bm ai ar ay af ag
 go_enter Tryz.func27,Tryz.ntmps27
 go_upto_region 1 with (fail)
 rw[b8.out]
 go_wp2_with fail
 refine (ae.out wa HB.out).mono ?_
 rintro e w2 ⟨v2,T,E,rfl,aq,av,bc,bk,ax,a6,au,a1⟩
 have hR:=Ud.right_of bc bk ax a6 au
 obtain⟨A2,c2,XA2,xc2,rfl,bo⟩:=id aq
 have bh:=(av A2 T.length c2 XA2 E.length xc2 rfl).2
 obtain⟨n2,bn⟩:∃k,T.length=k:=⟨_,rfl⟩
 obtain⟨xn2,ah⟩:∃k,E.length=k:=⟨_,rfl⟩
 rw[bn]at aq bc ⊢
 rw[ah]at aq bk bh ⊢
 unfold Md.tv at aq ⊢
 have aa:=cj.out.below a1
 have b1:=bf.out.below a1
 have y2:=aa.frozen 0
 have y3:=aa.frozen 1
 have yl:=aa.lt
 have y0:=aa.cell 0 rfl
 have y1:=aa.cell 1 rfl
 have bl:=aa.set 0 (.slice A2 n2 c2)
 have ap:=bl.set 1 (.slice XA2 xn2 xc2)
 have ba:=(aq.setAt aa 0 (.slice A2 n2 c2)).setAt bl 1 (.slice XA2 xn2 xc2)
 have bi:=(b1.other (show w.heap.size+1≠w.heap.size by omega) (i:=0) (.slice A2 n2 c2)).other (show w.heap.size+1≠w.heap.size by omega) (i:=1) (.slice XA2 xn2 xc2)
 have bj:Below w.heap.size w ((w2.setCell ⟨w.heap.size,0,none⟩ (.slice A2 n2 c2)).setCell ⟨w.heap.size,1,none⟩ (.slice XA2 xn2 xc2)) :=
  ((HB.out.trans (a1.mono HB.out.size)).setCell (p:=⟨w.heap.size,0,none⟩) (Zb _) _).setCell (p:=⟨w.heap.size,1,none⟩) (Zb _) _
 obtain⟨w3,bg⟩:∃w3,(w2.setCell ⟨w.heap.size,0,none⟩ (.slice A2 n2 c2)).setCell ⟨w.heap.size,1,none⟩ (.slice XA2 xn2 xc2)=w3:=⟨_,rfl⟩
 rw[bg]at ap ba bj bi
 have bq:Calls Tryz.prog 48 #[.agg #[.slice A2 n2 c2,.slice XA2 xn2 xc2]] w3 fun e w'=>e=.returned (.tuple #[.string ⟨(Rw.txt T).toArray⟩,.string ⟨(Ex.btxt (Ud.uniq E)).toArray⟩])∧Below w3.heap.size w3 w':=by
  obtain⟨A9,c9,X9,d9,he,cf,b6⟩:=ba
  simp only[Md.tv,XE,XY,Yd,Z3,YH]at he
  obtain⟨⟨rfl,_,rfl⟩,rfl,_,rfl⟩:=he
  exact Ud.texts_any A2 n2 c2 XA2 xn2 xc2 T E w3 bn (by omega) ah (by omega) bh (fun r hr=>Ud.good_right (hR.ok.good r hr)) (fun x hx=>Ud.isC_bd (a6 x hx)) cf b6
 have a7:∀W,Below w.heap.size w W→Calls Tryz.prog 34 #[.string ⟨(Rw.txt T).toArray⟩,.string ⟨(Ex.btxt (Ud.uniq E)).toArray⟩] W (Ud.RetOf T (C.chars (Ud.uniq E)) W):=fun W hW=>by
  refine Ud.load_any _ _ ?_ ?_ T (Ud.uniq E) ?_ ?_ hR.ok hR.ok.bd W (HL.out.next hW)
  · rw[Rw.ba_size]
    have:=Rw.txt_len T (fun r hr=>Ud.good_right (hR.ok.good r hr))
    omega
  · rw[Rw.ba_size]
    have h1:=Ex.btxt_len (Ud.uniq E) (fun d hd=>Ud.isC_bd (a6 d ((Ud.uniq_mem _ _).1 hd)))
    have h2:=Ud.uniq_len E
    omega
  · exact Ud.parse_txt hR
  · exact Ud.parse_btxt hR
 obtain⟨s1,ao⟩:∃y:ByteArray,⟨(Rw.txt T).toArray⟩=y:=⟨_,rfl⟩
 obtain⟨s2,ak⟩:∃y:ByteArray,⟨(Ex.btxt (Ud.uniq E)).toArray⟩=y:=⟨_,rfl⟩
 rw[ao,ak]at bq
 simp only[ao,ak]at a7
 obtain⟨S,hS⟩:∃S,C.chars (Ud.uniq E)=S:=⟨_,rfl⟩
 rw[hS]at hR a7
 have b5:=Za bg
 have cg:=Za ap
 have b9:=Za ba
 have b2:=Za bj
 have cb:=Za bi
 have bt:=Za a7
 have HR:=Za hR
 have ck:=ap.lt
 have z0:=ap.cell 0 rfl
 have z1:=ap.cell 1 rfl
 clear aq bo bl ap ba bj bg aa b1 bi bn ah a1 av bc bk ax a6 au bh hR a7 hS ao ak x0 x1
 go_upto_region 2 with (fail)
 rw[b5.out]
 clear y0 y1 y2 y3 yl
 go_wp2_with fail
 refine bq.mono ?_
 rintro e w4 ⟨rfl,az⟩
 have bp:=Za (b2.out.trans (az.mono b2.out.size))
 have bx:=Za (b9.out.below az)
 have b3:=Za (cg.out.below az)
 have bw:=Za (cb.out.below az)
 clear az bq z0 z1
 go_wp2_with fail
 refine (bt.out w4 bp.out).mono ?_
 rintro e w5 ⟨p,rfl,bs,aw⟩
 have ch:=Za (bp.out.trans (aw.mono bp.out.size))
 have b7:=Za (bx.out.below aw)
 have a8:=b3.out.below aw
 have aj:=bw.out.below aw
 have cc:=Za bs
 have z0:=a8.cell 0 rfl
 have z1:=a8.cell 1 rfl
 have zl:=a8.lt
 have k0:=aj.frozen 0
 have k1:=aj.frozen 1
 have kl:=aj.lt
 have k2:=aj.cell 0 rfl
 have k3:=aj.cell 1 rfl
 have bb:=Za aj
 clear bs aw a8 aj bt HL b3 bw bx ae
 go_wp2_with fail
 go_region
 go_wp2_with fail
 have h1:=bb.out.set 0 (.slice A2 n2 c2)
 have h2:=h1.set 1 (.slice XA2 xn2 xc2)
 have bz:=(cc.out.setAt bb.out 0 (.slice A2 n2 c2)).setAt h1 1 (.slice XA2 xn2 xc2)
 have bu:=(b7.out.setAt bb.out 0 (.slice A2 n2 c2)).setAt h1 1 (.slice XA2 xn2 xc2)
 have br:Below w.heap.size w ((w5.setCell ⟨w.heap.size+1,0,none⟩ (.slice A2 n2 c2)).setCell ⟨w.heap.size+1,1,none⟩ (.slice XA2 xn2 xc2)) :=
  (ch.out.setCell (p:=⟨w.heap.size+1,0,none⟩) (ZZ _) _).setCell (p:=⟨w.heap.size+1,1,none⟩) (ZZ _) _
 obtain⟨w6,cd⟩:∃w6,(w5.setCell ⟨w.heap.size+1,0,none⟩ (.slice A2 n2 c2)).setCell ⟨w.heap.size+1,1,none⟩ (.slice XA2 xn2 xc2)=w6:=⟨_,rfl⟩
 rw[cd]at h2 bz bu br ⊢
 refine Yl (results_tmp_cell rfl _ _ (w.heap.size+1) _ _ _ _ rfl (show w6.drew.heap[w.heap.size+1]?=_ from h2) Tryz.underlying25 rfl (by kernel_rfl)) rfl ?_
 exact⟨p,.agg #[.slice A2 n2 c2,.slice XA2 xn2 xc2],T,E,S,rfl,bz.below (Zd _ _).drew,bu.below (Zd _ _).drew,HR.out,br.drew⟩
end Go.Proofs.YtikiplbhlohmdaaGreatDoor
