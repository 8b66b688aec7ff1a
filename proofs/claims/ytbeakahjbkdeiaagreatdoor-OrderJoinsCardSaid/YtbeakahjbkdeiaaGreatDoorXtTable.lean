/- Where a box of two slices is stored to, what is read elsewhere stays. -/
import Derived.Test.YtbeakahjbkdeiaaGreatDoorAl1
import Derived.Test.YtbeakahjbkdeiaaGreatDoorMdRef5
import Derived.Test.YtbeakahjbkdeiaaGreatDoorMap
import Derived.Test.YtbeakahjbkdeiaaGreatDoorFiBits
import Derived.Test.YtbeakahjbkdeiaaGreatDoorRwOpen
import Derived.Test.YtbeakahjbkdeiaaGreatDoorMdRight
import Derived.Test.YtbeakahjbkdeiaaGreatDoorMdExp
import Derived.BigRegion
import Derived.Test.YtbeakahjbkdeiaaGreatDoorRwLines
import Derived.Test.YtbeakahjbkdeiaaGreatDoorPgReg
import Derived.Test.YtbeakahjbkdeiaaGreatDoorMdFull
import Derived.Test.YtbeakahjbkdeiaaGreatDoorShelf
import Derived.Deep.DeepCutAuto
import Derived.Deep.RegionWith
import Derived.Test.YtbeakahjbkdeiaaGreatDoorStage
import Derived.Great.BuildSlice
set_option linter.unusedVariables false
set_option linter.unusedSimpArgs false
namespace Go.Proofs.YtbeakahjbkdeiaaGreatDoor
open Go.RowKit
set_option linter.unusedSimpArgs false
set_option linter.unusedVariables false
theorem Md.mem_chars {E:List Int} (h:∀c∈E,C.isC c=true):C.mem (C.chars E)=Md.xs E:=by
 funext d
 rw[(C.chars_spec _).2 d]
 unfold Md.xs
 by_cases hd:d∈E
 · rw[h d hd,Bool.and_true]
 · rw[Zu hd,XL]
theorem Sl.setAt {w:World} {B:Nat} {A:Option Addr} {xs cs:List Value} {b:Nat} {t:TypeId} (h:Sl w B A xs) (aa:Rw.At w b t cs) (hd:∀x,xs[0]?=some x→x∉cs) (i:Nat) (v:Value):Sl (w.setCell ⟨b,i,none⟩ v) B A xs:=by
 intro hx
 obtain⟨g,o,hA,hg,hc⟩:=h hx
 have hne:g≠b:=fun e=>by
  subst e
  have h0:=hc 0 hx
  rw[Zc hx]at h0
  refine hd _ (Zc hx) ?_
  unfold Rw.At at aa
  simp[World.cell?,aa]at h0
  exact Zk h0
 refine⟨g,o,hA,hg,fun j hj=>?_⟩
 rw[←hc j hj]
 have he:=Ye w ⟨b,i,none⟩ v g hne
 unfold World.cell?
 simp only[he]
theorem Md.Doc.setAt {w:World} {v:Value} {T:List Rw.Row} {E:List Int} (h:Md.Doc w v T E) {b:Nat} {A0 A1:Option Addr} {n0 c0 n1 c1:Nat} {t:TypeId} (aa:Rw.At w b t [.slice A0 n0 c0,.slice A1 n1 c1]) (i:Nat) (u:Value):Md.Doc (w.setCell ⟨b,i,none⟩ u) v T E:=by
 have hi:∀(l:List Int) x,(l.map (Value.int .i64))[0]?=some x→x∉[Value.slice A0 n0 c0,Value.slice A1 n1 c1]:=by
  intro l x hx hm
  cases l with
  | nil=>simp at hx
  | cons y l=>simp at hx;subst hx;simp at hm
 obtain⟨A,c,XA,xc,rfl,⟨ads,hl,hs,hm⟩,hx⟩:=h
 refine⟨A,c,XA,xc,rfl,⟨ads,hl,?_,fun j r a h1 h2=>?_⟩,?_⟩
 · rw[ZJ]
   refine hs.setAt aa (fun x hx hm=>?_) i u
   cases T with
   | nil=>simp[Rw.flI]at hx
   | cons r T =>
     cases ads with
     | nil=>simp at hl
     | cons a ads=>simp[Rw.flI]at hx;subst hx;simp at hm
 · rw[ZJ]
   exact (hm j r a h1 h2).setAt aa (hi _) i u
 · rw[ZJ]
   exact hx.setAt aa (hi _) i u
structure Ud.Right (T:List Rw.Row) (E S:List Int):Prop where
 tl:T.length≤20
 el:E.length≤30
 rok:∀r∈T,Md.rok r
 ec:∀c∈E,C.isC c=true
 ok:Ud.Ok T S
 mem:C.mem S=Md.xs E
 sl:S.length≤60
theorem Ud.good_right {r:Rw.Row} (h:Md.good r):Rw.right r :=
 ⟨(Ud.isC_bd h.1).1,(Ud.isC_bd h.1).2,h.2.1,h.2.2.1,h.2.2.2.1,fun c hc=>Ud.isC_bd (h.2.2.2.2.2 c hc).1⟩
theorem Ud.rise_of:∀(T:List Rw.Row) (c:Int),Md.rises T→(∀r∈T,c<r.1)→Rw.rise c T
 | [],_,_,_=>trivial
 | r::T,c,h,hc=>by
   unfold Md.rises at h
   rw[Xk]at h
   exact⟨hc r Zw,Ud.rise_of T r.1 h.2 h.1⟩
theorem Ud.right_of {T:List Rw.Row} {E:List Int} (h1:T.length≤20) (h2:E.length≤30) (h3:∀r∈T,Md.rok r) (h4:∀c∈E,C.isC c=true) (h5:Md.chk T (Md.xs E)=0):Ud.Right T E (C.chars (Ud.uniq E)):=by
 have hm:C.mem (C.chars (Ud.uniq E))=Md.xs E:=by
  rw[Md.mem_chars fun c hc=>h4 c ((Ud.uniq_mem _ _).1 hc)]
  funext d
  unfold Md.xs
  rw[YK,Yb,Yb,Ud.uniq_mem]
 have hl:(C.chars (Ud.uniq E)).length≤60:=by
  have g1:=C.chars_len (Ud.uniq E)
  have g2:=Ud.uniq_len E
  omega
 exact⟨h1,h2,h3,h4,⟨by rw[hm];exact h5,(C.chars_spec _).1.1,by omega,by omega⟩,hm,hl⟩
theorem Ud.parse_txt {T:List Rw.Row} {E S:List Int} (h:Ud.Right T E S):Rw.parse (Rw.txt T)=some T:=by
 rw[Rw.parse_txt T (fun r hr=>⟨Ud.good_right (h.ok.good r hr),.inl (h.ok.good r hr).1⟩) (Ud.rise_of T (-1) h.ok.rises fun r hr=>by have:=(Ud.isC_bd (h.ok.good r hr).1).1;omega) (by have:=h.tl;omega)]
 congr 1
 rw[List.filter_eq_self]
 intro r hr
 have hl:=(h.rok r hr).2.2.2.2
 unfold Rw.quiet
 simp only[Xv,Xu,ZX]
 by_cases h0:r.2.1=0
 · exact .inr fun e=>hl h0 (ZI e)
 · exact .inl h0
theorem Ud.parse_btxt {T:List Rw.Row} {E S:List Int} (h:Ud.Right T E S):Ex.parse (Ex.btxt (Ud.uniq E))=some (Ud.uniq E) :=
 Ex.parse_btxt _ (fun c hc=>h.ec c ((Ud.uniq_mem _ _).1 hc)) (Ud.uniq_nodup E) (by have:=Ud.uniq_len E;have:=h.el;omega)
theorem Sl.setAtK {w:World} {B:Nat} {A:Option Addr} {xs cs:List Value} {b:Nat} {t:TypeId} (h:Sl w B A xs) (ae:Rw.At w b t cs) (k:Nat) (hd:∀x,xs[k]?=some x→x∉cs) (hk:xs≠[]→k<xs.length) (i:Nat) (v:Value):Sl (w.setCell ⟨b,i,none⟩ v) B A xs:=by
 intro hx
 obtain⟨g,o,hA,hg,hc⟩:=h hx
 have aa:=hk (List.length_pos_iff.1 hx)
 have hne:g≠b:=fun e=>by
  subst e
  have h0:=hc k aa
  rw[Zc aa]at h0
  refine hd _ (Zc aa) ?_
  unfold Rw.At at ae
  simp[World.cell?,ae]at h0
  exact Zk h0
 refine⟨g,o,hA,hg,fun j hj=>?_⟩
 rw[←hc j hj]
 have he:=Ye w ⟨b,i,none⟩ v g hne
 unfold World.cell?
 simp only[he]
theorem Sl.setInts {k:IntKind} {w:World} {B:Nat} {A:Option Addr} {l:List Int} {b:Nat} {t:TypeId} {A0 A1:Option Addr} {n0 c0 n1 c1:Nat} (h:Sl w B A (l.map (Value.int k))) (aa:Rw.At w b t [.slice A0 n0 c0,.slice A1 n1 c1]) (i:Nat) (u:Value):Sl (w.setCell ⟨b,i,none⟩ u) B A (l.map (Value.int k)):=by
 refine h.setAtK aa 0 (fun x hx hm=>?_) (fun hne=>List.length_pos_iff.2 hne) i u
 cases l with
 | nil=>simp at hx
 | cons y l=>simp at hx;subst hx;simp at hm
theorem Rw.At.setAt {w:World} {b b':Nat} {t t':TypeId} {cs cs':List Value} (h:Rw.At w b' t' cs') (aa:Rw.At w b t cs) (hl:cs.length≠cs'.length) (i:Nat) (u:Value):Rw.At (w.setCell ⟨b,i,none⟩ u) b' t' cs':=by
 refine h.other (fun e=>?_) u
 subst e
 have:=h.symm.trans aa
 simp only[Zg,Xr]at this
 have h2:=Z5 Array.size this.1
 simp at h2
 omega
theorem Pg.Is.setAt {w:World} {v:Value} {idx:List Int} {bl:List (List Int)} (h:Pg.Is w v idx bl) (hx:2≤idx.length) {b:Nat} {t:TypeId} {A0 A1:Option Addr} {n0 c0 n1 c1:Nat} (aa:Rw.At w b t [.slice A0 n0 c0,.slice A1 n1 c1]) (i:Nat) (u:Value):Pg.Is (w.setCell ⟨b,i,none⟩ u) v idx bl:=by
 obtain⟨g,A,c,h1,h2,h3⟩:=h
 refine⟨g,A,c,h1,h2.setAt aa (by simp;omega) i u,?_⟩
 rw[ZJ]
 exact h3.setInts aa i u
theorem Mp.Is.setAt {k:TypeId} {w:World} {m:Nat} {F:Value→Option Value} (h:Mp.Is Tryz.prog k w m F) {b:Nat} {t:TypeId} {cs:List Value} (aa:Rw.At w b t cs) (i:Nat) (u:Value):Mp.Is Tryz.prog k (w.setCell ⟨b,i,none⟩ u) m F:=by
 refine h.same (Ye w ⟨b,i,none⟩ u m fun e=>?_)
 subst e
 exact h.notcells aa
theorem Rw.Sees.setAt {w:World} {A:Option Addr} {T:List Rw.Row} (h:Rw.Sees w A T) {b:Nat} {t:TypeId} {A0 A1:Option Addr} {n0 c0 n1 c1:Nat} (aa:Rw.At w b t [.slice A0 n0 c0,.slice A1 n1 c1]) (i:Nat) (u:Value):Rw.Sees (w.setCell ⟨b,i,none⟩ u) A T:=by
 obtain⟨ads,hl,hs,hm⟩:=h
 refine⟨ads,hl,?_,fun j r a h1 h2=>?_⟩
 · rw[ZJ]
   refine hs.setAtK aa 0 (fun x hx hm=>?_) (fun hne=>List.length_pos_iff.2 hne) i u
   cases T with
   | nil=>simp[Rw.fl]at hx
   | cons r T =>
     cases ads with
     | nil=>simp at hl
     | cons a ads=>simp[Rw.fl]at hx;subst hx;simp at hm
 · rw[ZJ]
   exact (hm j r a h1 h2).setInts aa i u
theorem Ud.Ents.setAt {w:World} {T:List Rw.Row} {X:Int→Bool} {A:Option Addr} {es:List Ud.At} (h:Ud.Ents w T X A es) {b:Nat} {t:TypeId} {A0 A1:Option Addr} {n0 c0 n1 c1:Nat} (aa:Rw.At w b t [.slice A0 n0 c0,.slice A1 n1 c1]) (i:Nat) (u:Value):Ud.Ents (w.setCell ⟨b,i,none⟩ u) T X A es:=by
 refine⟨h.1,?_,fun j r a h1 h2=>?_⟩
 · rw[ZJ]
   have hl:=Ud.flE_len T X (Ud.mr T) es h.1
   refine h.2.1.setAtK aa 2 (fun x hx hm=>?_) (fun hne=>?_) i u
   · cases hmr:Ud.mr T with
     | nil=>rw[hmr]at hx;cases es <;> simp[Ud.flE]at hx
     | cons r l =>
       rw[hmr]at hx
       cases es with
       | nil=>simp[Ud.flE]at hx
       | cons a es=>simp[Ud.flE]at hx;subst hx;simp at hm
   · have:=List.length_pos_iff.2 hne
     rw[hl]at this ⊢
     omega
 · rw[ZJ]
   exact⟨(h.2.2 j r a h1 h2).1.setInts aa i u,(h.2.2 j r a h1 h2).2.setInts aa i u⟩
theorem Pg.idx_len2 (f:Int→Int):2≤(Pg.idx f 4352).length:=by rw[Pg.idx_len];decide
theorem Ud.Is.setAt {w:World} {v:Value} {T:List Rw.Row} {S:List Int} (h:Ud.Is w v T S) {b:Nat} {t:TypeId} {B0 B1:Option Addr} {n0 d0 n1 d1:Nat} (aa:Rw.At w b t [.slice B0 n0 d0,.slice B1 n1 d1]) (i:Nat) (u:Value):Ud.Is (w.setCell ⟨b,i,none⟩ u) v T S:=by
 obtain⟨g,A0,c0,XA,xc,pc,pp,A3,c3,mb,jb,A4,c4,A5,c5,A6,c6,es,h1,h2,h3,h4,h5,h6,h7,⟨F,hF,ag⟩,⟨J,hJ,ae⟩,ah,ai,af⟩:=h.is
 refine⟨g,A0,c0,XA,xc,pc,pp,A3,c3,mb,jb,A4,c4,A5,c5,A6,c6,es,h1,h2.setAt aa (by simp) i u,h3.setAt aa i u,?_,h5.setAt (Pg.idx_len2 _) aa i u,h6.setAt (Pg.idx_len2 _) aa i u,h7.setAt aa i u,⟨F,hF.setAt aa i u,fun c=>?_⟩,⟨J,hJ.setAt aa i u,ae⟩,?_,?_,?_⟩
 · rw[ZJ];exact h4.setInts aa i u
 · rcases ag c with hh|⟨A,cap,g1,g2⟩
   · exact .inl hh
   · refine .inr ⟨A,cap,g1,?_⟩
     rw[ZJ];exact g2.setInts aa i u
 · rw[ZJ];exact ah.setInts aa i u
 · rw[ZJ];exact ai.setInts aa i u
 · rw[ZJ];exact af.setInts aa i u
theorem results_tmp_cell {P:Program} {fn:Func} {p u:Tmp} {ty:TypeId} (h:fn.results = #[.tmp u,.cell p ty]) (tmps:Array Value) (w:World) (g:Nat) (t:TypeId) (cs:Array Value) (fr:Nat × Nat) (d:TypeDesc)
 (hp:tmps.getD p undef=.pointer (some ⟨g,0,none⟩)) (hg:w.heap[g]?=some (.cells cs t fr))
 (hu:P.underlying ty=some d) (hd:(match d with | .struct _ | .array _ _=>true|_=>false)=true) (hi:(P.info? ty).map (·.size)=some cs.size) :
 (results fn tmps).run P w=.ok (.tuple #[tmps.getD u undef,.agg cs]) w:=by
 have aa:tmps[p]?.getD undef=.pointer (some ⟨g,0,none⟩):=by simpa using hp
 simp[results,h,aa,asAddr,run_loadVar_row w g t ty cs fr d hg hu hd hi]
def Ud.RetLoaded (w:World) (e:Ending) (w':World):Prop :=
 ∃p v T E S,e=.returned (.tuple #[p,v])∧Ud.Is w' p T S∧Md.Doc w' v T E∧Ud.Right T E S∧Below w.heap.size w w'
set_option maxRecDepth 100000 in
set_option maxHeartbeats 4000000 in
theorem Ud.loaded_any (A XA:Option Addr) (n c xn xc:Nat) (T0:List Rw.Row) (E0:List Int) (w:World) (hn:T0.length=n) (hxn:E0.length=xn) (hnb:n≤maxLen) (hxb:xn≤maxLen) (hbd:∀r∈T0,Rw.bounds r) (h2:Rw.SeesI w A T0) (hX:Sl w w.heap.size XA (E0.map (Value.int .i64))) (hL:Rw.Laid w) :
 Calls Tryz.prog 84 #[.agg #[.slice A n c,.slice XA xn xc]] w (Ud.RetLoaded w):=by
 have ae:Hid (∀W,Below w.heap.size w W→Calls Tryz.prog 125 #[.agg #[.slice A n c,.slice XA xn xc]] W (Md.RetRight W)):=Za fun W hW =>
  Md.right_any A XA n c xn xc T0 E0 W hn hxn hnb hxb hbd (h2.below hW) (hX.below hW hW.size)
 have HL:=Za hL
 have bw:=Rw.At.new w 31 [.slice A n c,.slice XA xn xc]
 have bh:Below w.heap.size w (w.alloc (.cells #[.slice A n c,.slice XA xn xc] 31)):=(Zd _ _).alloc (Zb _) _
 have ah:=Rw.At.new (w.alloc (.cells #[.slice A n c,.slice XA xn xc] 31)) 31 [.slice none 0 0,.slice none 0 0]
 rw[show (w.alloc (.cells #[.slice A n c,.slice XA xn xc] 31)).heap.size=w.heap.size+1 by simp]at ah
 obtain⟨wa,az⟩:∃wa,(w.alloc (.cells #[.slice A n c,.slice XA xn xc] 31)).alloc (.cells #[.slice none 0 0,.slice none 0 0] 31)=wa:=⟨_,rfl⟩
 have av:Below w.heap.size w wa:=by rw[←az];exact bh.alloc bh.size _
 have af:Rw.At wa w.heap.size 31 [.slice A n c,.slice XA xn xc]:=by rw[←az];exact bw.alloc _
 have ag:Rw.At wa (w.heap.size+1) 31 [.slice none 0 0,.slice none 0 0]:=by
  rw[←az]
  exact ah
 have cf:=Za az
 have HB:=Za av
 have cj:=Za af
 have bi:=Za ag
 have x0:=af.cell 0 rfl
 have x1:=af.cell 1 rfl
 have xl:=af.lt
 clear hn hxn hnb hxb hbd h2 hX hL bw bh ah az av af ag
 go_enter Tryz.func84,Tryz.ntmps84
 go_upto_region 1 with (fail)
 rw[cf.out]
 go_wp2_with fail
 refine (ae.out wa HB.out).mono ?_
 rintro e w2 ⟨v2,T,E,rfl,aq,ar,bj,bn,au,a1,ax,ba⟩
 have hR:=Ud.right_of bj bn au a1 ax
 obtain⟨A2,c2,XA2,xc2,rfl,bg⟩:=id aq
 have bc:=(ar A2 T.length c2 XA2 E.length xc2 rfl).2
 obtain⟨n2,bp⟩:∃k,T.length=k:=⟨_,rfl⟩
 obtain⟨xn2,ao⟩:∃k,E.length=k:=⟨_,rfl⟩
 rw[bp]at aq bj ⊢
 rw[ao]at aq bn bc ⊢
 unfold Md.tv at aq ⊢
 have aa:=cj.out.below ba
 have b2:=bi.out.below ba
 have y2:=aa.frozen 0
 have y3:=aa.frozen 1
 have yl:=aa.lt
 have y0:=aa.cell 0 rfl
 have y1:=aa.cell 1 rfl
 have bb:=aa.set 0 (.slice A2 n2 c2)
 have ap:=bb.set 1 (.slice XA2 xn2 xc2)
 have a8:=(aq.setAt aa 0 (.slice A2 n2 c2)).setAt bb 1 (.slice XA2 xn2 xc2)
 have bo:=(b2.other (show w.heap.size+1≠w.heap.size by omega) (i:=0) (.slice A2 n2 c2)).other (show w.heap.size+1≠w.heap.size by omega) (i:=1) (.slice XA2 xn2 xc2)
 have bf:Below w.heap.size w ((w2.setCell ⟨w.heap.size,0,none⟩ (.slice A2 n2 c2)).setCell ⟨w.heap.size,1,none⟩ (.slice XA2 xn2 xc2)) :=
  ((HB.out.trans (ba.mono HB.out.size)).setCell (p:=⟨w.heap.size,0,none⟩) (Zb _) _).setCell (p:=⟨w.heap.size,1,none⟩) (Zb _) _
 obtain⟨w3,bq⟩:∃w3,(w2.setCell ⟨w.heap.size,0,none⟩ (.slice A2 n2 c2)).setCell ⟨w.heap.size,1,none⟩ (.slice XA2 xn2 xc2)=w3:=⟨_,rfl⟩
 rw[bq]at ap a8 bf bo
 have bk:Calls Tryz.prog 126 #[.agg #[.slice A2 n2 c2,.slice XA2 xn2 xc2]] w3 fun e w'=>e=.returned (.tuple #[.string ⟨(Rw.txt T).toArray⟩,.string ⟨(Ex.btxt (Ud.uniq E)).toArray⟩])∧Below w3.heap.size w3 w':=by
  obtain⟨A9,c9,X9,d9,he,cc,cg⟩:=a8
  simp only[Md.tv,Xs,XK,Yc,ZV,YG]at he
  obtain⟨⟨rfl,_,rfl⟩,rfl,_,rfl⟩:=he
  exact Ud.texts_any A2 n2 c2 XA2 xn2 xc2 T E w3 bp (by omega) ao (by omega) bc (fun r hr=>Ud.good_right (hR.ok.good r hr)) (fun x hx=>Ud.isC_bd (a1 x hx)) cc cg
 have a6:∀W,Below w.heap.size w W→Calls Tryz.prog 24 #[.string ⟨(Rw.txt T).toArray⟩,.string ⟨(Ex.btxt (Ud.uniq E)).toArray⟩] W (Ud.RetOf T (C.chars (Ud.uniq E)) W):=fun W hW=>by
  refine Ud.load_any _ _ ?_ ?_ T (Ud.uniq E) ?_ ?_ hR.ok hR.ok.bd W (HL.out.next hW)
  · rw[Rw.ba_size]
    have:=Rw.txt_len T (fun r hr=>Ud.good_right (hR.ok.good r hr))
    omega
  · rw[Rw.ba_size]
    have h1:=Ex.btxt_len (Ud.uniq E) (fun d hd=>Ud.isC_bd (a1 d ((Ud.uniq_mem _ _).1 hd)))
    have h2:=Ud.uniq_len E
    omega
  · exact Ud.parse_txt hR
  · exact Ud.parse_btxt hR
 obtain⟨s1,ai⟩:∃y:ByteArray,⟨(Rw.txt T).toArray⟩=y:=⟨_,rfl⟩
 obtain⟨s2,aj⟩:∃y:ByteArray,⟨(Ex.btxt (Ud.uniq E)).toArray⟩=y:=⟨_,rfl⟩
 rw[ai,aj]at bk
 simp only[ai,aj]at a6
 obtain⟨S,hS⟩:∃S,C.chars (Ud.uniq E)=S:=⟨_,rfl⟩
 rw[hS]at hR a6
 have b9:=Za bq
 have b6:=Za ap
 have cb:=Za a8
 have bx:=Za bf
 have b8:=Za bo
 have br:=Za a6
 have HR:=Za hR
 have ck:=ap.lt
 have z0:=ap.cell 0 rfl
 have z1:=ap.cell 1 rfl
 clear aq bg bb ap a8 bf bq aa b2 bo bp ao ba ar bj bn au a1 ax bc hR a6 hS ai aj x0 x1
 go_upto_region 2 with (fail)
 rw[b9.out]
 clear y0 y1 y2 y3 yl
 go_wp2_with fail
 refine bk.mono ?_
 rintro e w4 ⟨rfl,ay⟩
 have bl:=Za (bx.out.trans (ay.mono bx.out.size))
 have b1:=Za (cb.out.below ay)
 have bs:=Za (b6.out.below ay)
 have b3:=Za (b8.out.below ay)
 clear ay bk z0 z1
 go_wp2_with fail
 refine (br.out w4 bl.out).mono ?_
 rintro e w5 ⟨p,rfl,b4,aw⟩
 have cd:=Za (bl.out.trans (aw.mono bl.out.size))
 have b5:=Za (b1.out.below aw)
 have a7:=bs.out.below aw
 have ak:=b3.out.below aw
 have ch:=Za b4
 have z0:=a7.cell 0 rfl
 have z1:=a7.cell 1 rfl
 have zl:=a7.lt
 have k0:=ak.frozen 0
 have k1:=ak.frozen 1
 have kl:=ak.lt
 have k2:=ak.cell 0 rfl
 have k3:=ak.cell 1 rfl
 have bm:=Za ak
 clear b4 aw a7 ak br HL bs b3 b1 ae
 go_wp2_with fail
 go_region
 go_wp2_with fail
 have h1:=bm.out.set 0 (.slice A2 n2 c2)
 have h2:=h1.set 1 (.slice XA2 xn2 xc2)
 have bu:=(ch.out.setAt bm.out 0 (.slice A2 n2 c2)).setAt h1 1 (.slice XA2 xn2 xc2)
 have bt:=(b5.out.setAt bm.out 0 (.slice A2 n2 c2)).setAt h1 1 (.slice XA2 xn2 xc2)
 have bz:Below w.heap.size w ((w5.setCell ⟨w.heap.size+1,0,none⟩ (.slice A2 n2 c2)).setCell ⟨w.heap.size+1,1,none⟩ (.slice XA2 xn2 xc2)) :=
  (cd.out.setCell (p:=⟨w.heap.size+1,0,none⟩) (ZW _) _).setCell (p:=⟨w.heap.size+1,1,none⟩) (ZW _) _
 obtain⟨w6,b7⟩:∃w6,(w5.setCell ⟨w.heap.size+1,0,none⟩ (.slice A2 n2 c2)).setCell ⟨w.heap.size+1,1,none⟩ (.slice XA2 xn2 xc2)=w6:=⟨_,rfl⟩
 rw[b7]at h2 bu bt bz ⊢
 refine Yy (results_tmp_cell rfl _ _ (w.heap.size+1) _ _ _ _ rfl (show w6.drew.heap[w.heap.size+1]?=_ from h2) Tryz.underlying31 rfl (by kernel_rfl)) rfl ?_
 exact⟨p,.agg #[.slice A2 n2 c2,.slice XA2 xn2 xc2],T,E,S,rfl,bu.below (Zd _ _).drew,bt.below (Zd _ _).drew,HR.out,bz.drew⟩
def Xt.A:List Rw.Row:=[(192,0,[65,768]),(193,0,[65,769]),(194,0,[65,770]),(195,0,[65,771]),(196,0,[65,776]),(197,0,[65,778]),(199,0,[67,807]),(200,0,[69,768]),(201,0,[69,769]),(202,0,[69,770]),(203,0,[69,776]),(209,0,[78,771]),(214,0,[79,776]),(220,0,[85,776]),(224,0,[97,768]),(225,0,[97,769]),(226,0,[97,770]),(228,0,[97,776]),(229,0,[97,778]),(231,0,[99,807]),(233,0,[101,769]),(234,0,[101,770]),(241,0,[110,771]),(244,0,[111,770]),(246,0,[111,776]),(252,0,[117,776]),(258,0,[65,774]),(259,0,[97,774]),(346,0,[83,769]),(347,0,[115,769]),(350,0,[83,807]),(469,0,[220,772]),(471,0,[220,769]),(478,0,[196,772]),(506,0,[197,769]),(768,230,[]),(769,230,[]),(770,230,[]),(771,230,[]),(772,230,[]),(774,230,[]),(775,230,[]),(776,230,[]),(778,230,[]),(787,230,[]),(795,216,[]),(803,220,[]),(807,202,[]),(808,202,[]),(817,220,[]),(824,1,[]),(832,230,[768]),(833,230,[769]),(835,230,[787]),(836,230,[776,769]),(837,240,[]),(884,0,[697]),(894,0,[59]),(901,0,[168,769]),(903,0,[183]),(940,0,[945,769]),(942,0,[951,769]),(1460,14,[]),(1463,17,[]),(2345,0,[2344,2364]),(2353,0,[2352,2364]),(2356,0,[2355,2364]),(2364,7,[]),(2381,9,[]),(2392,0,[2325,2364]),(2393,0,[2326,2364]),(2507,0,[2503,2494]),(2508,0,[2503,2519]),(3953,129,[]),(3954,130,[]),(3955,0,[3953,3954]),(3956,132,[]),(3957,0,[3953,3956]),(3958,0,[4018,3968]),(3968,130,[]),(3969,0,[3953,3968]),(7688,0,[199,769]),(7690,0,[68,775]),(7691,0,[100,775]),(7692,0,[68,803]),(7693,0,[100,803]),(7776,0,[83,775]),(7777,0,[115,775]),(7778,0,[83,803]),(7779,0,[115,803]),(7780,0,[346,775]),(7781,0,[347,775]),(7784,0,[7778,775]),(7785,0,[7779,775]),(7835,0,[383,775]),(7840,0,[65,803]),(7841,0,[97,803]),(7852,0,[7840,770]),(7853,0,[7841,770]),(7862,0,[7840,774]),(7863,0,[7841,774]),(8192,0,[8194]),(8193,0,[8195]),(8486,0,[937]),(8490,0,[75]),(8491,0,[197]),(8800,0,[61,824]),(8814,0,[60,824]),(10972,0,[10973,824]),(12364,0,[12363,12441]),(12400,0,[12399,12441]),(12401,0,[12399,12442]),(12441,8,[]),(12442,8,[])]
def Xt.B:List Rw.Row:=[(63744,0,[35912]),(64285,0,[1497,1460]),(64287,0,[1522,1463]),(69786,0,[69785,69818]),(69818,7,[]),(119134,0,[119127,119141]),(119141,216,[])]
def Xt.T:List Rw.Row:=Xt.A++Xt.B
def Xt.X:List Int:=[2392,2393,10972,64285,64287,119134]
def Xt.n0:List UInt8:=[72,97,110,103,117,108,32,83,121,108,108,97,98,108,101]
def Xt.f0:List UInt8:=[65,67,48,48,59,60,72,97,110,103,117,108,32,83,121,108,108,97,98,108,101,44,32,70,105,114,115,116,62,59,59,48,59,59,59,59,59,59,59,59,59,59,59]
def Xt.l0:List UInt8:=[68,55,65,51,59,60,72,97,110,103,117,108,32,83,121,108,108,97,98,108,101,44,32,76,97,115,116,62,59,59,48,59,59,59,59,59,59,59,59,59,59,59]
def Xt.w0:List UInt8:=[60,72,97,110,103,117,108,32,83,121,108,108,97,98,108,101,44,32,70,105,114,115,116,62]
def Xt.n1:List UInt8:=[78,111,110,32,80,114,105,118,97,116,101,32,85,115,101,32,72,105,103,104,32,83,117,114,114,111,103,97,116,101]
def Xt.f1:List UInt8:=[68,56,48,48,59,60,78,111,110,32,80,114,105,118,97,116,101,32,85,115,101,32,72,105,103,104,32,83,117,114,114,111,103,97,116,101,44,32,70,105,114,115,116,62,59,59,48,59,59,59,59,59,59,59,59,59,59,59]
def Xt.l1:List UInt8:=[68,66,55,70,59,60,78,111,110,32,80,114,105,118,97,116,101,32,85,115,101,32,72,105,103,104,32,83,117,114,114,111,103,97,116,101,44,32,76,97,115,116,62,59,59,48,59,59,59,59,59,59,59,59,59,59,59]
def Xt.w1:List UInt8:=[60,78,111,110,32,80,114,105,118,97,116,101,32,85,115,101,32,72,105,103,104,32,83,117,114,114,111,103,97,116,101,44,32,70,105,114,115,116,62]
def Xt.n2:List UInt8:=[80,114,105,118,97,116,101,32,85,115,101]
def Xt.f2:List UInt8:=[69,48,48,48,59,60,80,114,105,118,97,116,101,32,85,115,101,44,32,70,105,114,115,116,62,59,59,48,59,59,59,59,59,59,59,59,59,59,59]
def Xt.l2:List UInt8:=[70,56,70,70,59,60,80,114,105,118,97,116,101,32,85,115,101,44,32,76,97,115,116,62,59,59,48,59,59,59,59,59,59,59,59,59,59,59]
def Xt.w2:List UInt8:=[60,80,114,105,118,97,116,101,32,85,115,101,44,32,70,105,114,115,116,62]
def Xt.spans:List (List UInt8):=[Xt.f0,Xt.l0,Xt.f1,Xt.l1,Xt.f2,Xt.l2]
def Xt.text:List UInt8:=Rw.txt Xt.A++((Xt.spans.flatMap fun x=>x++[10])++Rw.txt Xt.B)
def Xt.fineB (r:Rw.Row):Bool:=decide (0≤r.1)&&decide (r.1≤1114111)&&decide (0≤r.2.1)&&decide (r.2.1≤254)&&decide (r.2.2.length≤2)&&(r.2.2.all fun c=>decide (0≤c)&&decide (c≤1114111))&&C.isC r.1
theorem Xt.fine_of {r:Rw.Row} (h:Xt.fineB r=true):Rw.fine r:=by
 unfold Xt.fineB at h
 simp only[Zx,Zp,Ya]at h
 obtain⟨⟨⟨⟨⟨⟨h1,h2⟩,h3⟩,h4⟩,h5⟩,h6⟩,h7⟩:=h
 exact⟨⟨h1,h2,h3,h4,h5,h6⟩,.inl h7⟩
def Xt.riseB:Int→List Rw.Row→Bool
 | _,[]=>true
 | c,r::l=>decide (c<r.1)&&Xt.riseB r.1 l
theorem Xt.rise_of:∀(l:List Rw.Row) (c:Int),Xt.riseB c l=true→Rw.rise c l
 | [],_,_=>trivial
 | r::l,c,h=>by
   unfold Xt.riseB at h
   rw[Zx,Zp]at h
   exact⟨h.1,Xt.rise_of l r.1 h.2⟩
theorem Xt.fineA:∀r∈Xt.A,Rw.fine r:=fun r hr=>Xt.fine_of (List.all_eq_true.1 (show Xt.A.all Xt.fineB=true by decide +kernel) r hr)
theorem Xt.fineB':∀r∈Xt.B,Rw.fine r:=fun r hr=>Xt.fine_of (List.all_eq_true.1 (show Xt.B.all Xt.fineB=true by decide +kernel) r hr)
theorem Xt.riseA:Rw.rise (-1) Xt.A:=Xt.rise_of _ _ (by decide +kernel)
theorem Xt.riseBB:Rw.rise 63743 Xt.B:=Xt.rise_of _ _ (by decide +kernel)
theorem Xt.loudA:Xt.A.filter (fun r=>!Rw.quiet r)=Xt.A:=by decide +kernel
theorem Xt.loudB:Xt.B.filter (fun r=>!Rw.quiet r)=Xt.B:=by decide +kernel
theorem Xt.step_first (out:List Rw.Row) (c d:Int) (l w:List UInt8) (h1:Rw.row (Fi.spl 59 [] l)=some (d,0,[])) (h2:Rw.ranged [] ((Fi.spl 59 [] l).getD 1 []) true=some w) (hc:c<d):Rw.step (out,c,[]) l=some (out,d,w):=by
 unfold Rw.step
 rw[h1,Zt]
 dsimp only
 rw[Zv hc,show Rw.quiet (d,0,[])=true from rfl,h2,Zt,Zv (.inr rfl),Zv rfl]
theorem Xt.step_last (out:List Rw.Row) (c d:Int) (l w:List UInt8) (h1:Rw.row (Fi.spl 59 [] l)=some (d,0,[])) (h2:Rw.ranged w ((Fi.spl 59 [] l).getD 1 []) true=some []) (hc:c<d):Rw.step (out,c,w) l=some (out,d,[]):=by
 unfold Rw.step
 rw[h1,Zt]
 dsimp only
 rw[Zv hc,show Rw.quiet (d,0,[])=true from rfl,h2,Zt,Zv (.inr rfl),Zv rfl]
theorem Xt.steps_spans (out:List Rw.Row) (c:Int) (hc:c<44032):Rw.steps (out,c,[]) Xt.spans=some (out,63743,[]):=by
 unfold Xt.spans Rw.steps
 rw[Xt.step_first out c 44032 Xt.f0 Xt.w0 (by decide +kernel) (by decide +kernel) hc,Zt]
 unfold Rw.steps
 rw[Xt.step_last out 44032 55203 Xt.l0 Xt.w0 (by decide +kernel) (by decide +kernel) (by decide),Zt]
 unfold Rw.steps
 rw[Xt.step_first out 55203 55296 Xt.f1 Xt.w1 (by decide +kernel) (by decide +kernel) (by decide),Zt]
 unfold Rw.steps
 rw[Xt.step_last out 55296 56191 Xt.l1 Xt.w1 (by decide +kernel) (by decide +kernel) (by decide),Zt]
 unfold Rw.steps
 rw[Xt.step_first out 56191 57344 Xt.f2 Xt.w2 (by decide +kernel) (by decide +kernel) (by decide),Zt]
 unfold Rw.steps
 rw[Xt.step_last out 57344 63743 Xt.l2 Xt.w2 (by decide +kernel) (by decide +kernel) (by decide),Zt]
 rfl
theorem Xt.steps_to:∀(l:List Rw.Row) (out:List Rw.Row) (c:Int),(∀r∈l,Rw.fine r)→Rw.rise c l→Rw.steps (out,c,[]) (l.map Rw.line)=some (out++l.filter (fun r=>!Rw.quiet r),Rw.lastC c l,[])
 | [],out,c,_,_=>by simp[Rw.steps,Rw.lastC]
 | r::l,out,c,h,hr=>by
   have h1:=h r Zw
   rw[Z0,Rw.steps,Rw.step_line out c r h1.1 hr.1 h1.2,Zt,Xt.steps_to l _ r.1 (fun q hq=>h q (ZB _ hq)) hr.2,Yj]
   cases Rw.quiet r <;> simp[Rw.lastC]
def Xt.lines:List (List UInt8):=Xt.A.map Rw.line++(Xt.spans++Xt.B.map Rw.line)
theorem Xt.text_lines:Xt.text=Xt.lines.flatMap fun x=>x++[10]:=by
 unfold Xt.text Xt.lines
 rw[Y0,Y0,Rw.txt_eq,Rw.txt_eq]
theorem Xt.lines_ok:∀x∈Xt.lines,Rw.okl x=true:=by
 intro x hx
 unfold Xt.lines at hx
 rcases List.mem_append.1 hx with h|h
 · obtain⟨r,h1,rfl⟩:=List.mem_map.1 h
   exact Rw.line_ok r (Xt.fineA r h1).1
 · rcases List.mem_append.1 h with h|h
   · exact List.all_eq_true.1 (show Xt.spans.all Rw.okl=true by decide +kernel) x h
   · obtain⟨r,h1,rfl⟩:=List.mem_map.1 h
     exact Rw.line_ok r (Xt.fineB' r h1).1
theorem Xt.lens:Xt.A.length=114∧Xt.B.length=7:=⟨rfl,rfl⟩
theorem Xt.parse:Rw.parse Xt.text=some Xt.T:=by
 unfold Rw.parse
 rw[Xt.text_lines,Rw.lns_text _ fun x hx=>Ex.ok_no (Xt.lines_ok x hx)]
 rw[if_pos ⟨List.all_eq_true.2 Xt.lines_ok,by unfold Xt.lines;rw[List.length_append,List.length_append,List.length_map,List.length_map,Xt.lens.1,Xt.lens.2];decide⟩]
 unfold Xt.lines
 rw[Rw.steps_app,Xt.steps_to _ _ _ Xt.fineA Xt.riseA,Zt,Rw.steps_app,Xt.steps_spans _ _ (by decide +kernel),Zt,Xt.steps_to _ _ _ Xt.fineB' Xt.riseBB,Zt,Xt.loudA,Xt.loudB]
 rfl
theorem Xt.text_len:Xt.text.length≤200000:=by
 unfold Xt.text
 have h1:=Rw.txt_len Xt.A fun r hr=>(Xt.fineA r hr).1
 have h2:=Rw.txt_len Xt.B fun r hr=>(Xt.fineB' r hr).1
 have h3:(Xt.spans.flatMap fun x=>x++[10]).length≤1000:=by decide +kernel
 rw[Xt.lens.1]at h1
 rw[Xt.lens.2]at h2
 rw[Zi,Zi]
 omega
theorem Xt.xC:∀c∈Xt.X,C.isC c=true:=fun c hc=>List.all_eq_true.1 (show Xt.X.all C.isC=true by decide +kernel) c hc
theorem Xt.chk0:Md.chk Xt.T (Md.xs Xt.X)=0:=by decide +kernel
def Xt.S:List Int:=C.chars Xt.X
theorem Xt.mem:C.mem Xt.S=Md.xs Xt.X:=Md.mem_chars Xt.xC
theorem Xt.ok:Ud.Ok Xt.T Xt.S:=by
 have h:=C.chars_len Xt.X
 refine⟨by rw[Xt.mem];exact Xt.chk0,(C.chars_spec _).1.1,by decide +kernel,?_⟩
 show (C.chars Xt.X).length≤1000000
 have:Xt.X.length=6:=rfl
 omega
theorem Xt.parseX:Ex.parse (Ex.btxt Xt.X)=some Xt.X:=Ex.parse_btxt Xt.X Xt.xC (by decide +kernel) (by decide)
theorem Xt.bd:Md.bd Xt.T:=Xt.ok.bd
end Go.Proofs.YtbeakahjbkdeiaaGreatDoor
namespace Go.Proofs.YtbeakahjbkdeiaaGreatDoor
open Go.RowKit Go.Stop
set_option linter.unusedSimpArgs false
set_option linter.unusedVariables false
theorem Jn.len (sep:List UInt8) (M:Nat):∀xs:List (List UInt8),(∀x∈xs,x.length≤M)→(Lib.join xs sep).length≤xs.length*(M+sep.length)
 | [],_=>by rw[Lib.join_nil];simp
 | x::r,h=>by
   rw[Lib.join_cons,Zi]
   have h1:=h x (by simp)
   have h2:∀r:List (List UInt8),(∀x∈r,x.length≤M)→(Lib.joinTail sep r).length≤r.length*(M+sep.length):=by
    intro r
    induction r with
    | nil=>intro _;simp[Lib.joinTail]
    | cons y t ih =>
      intro hy
      have h3:=ih (fun z hz=>hy z (by simp[hz]))
      have h4:=hy y (by simp)
      simp only[Lib.joinTail,Z0,List.flatten_cons,Zi,ZM]at h3 ⊢
      rw[Nat.succ_mul]
      omega
   have h5:=h2 r (fun z hz=>h z (by simp[hz]))
   rw[ZM,Nat.succ_mul]
   omega
theorem Jn.any (A:Option Addr) (c B n:Nat) (xs:List ByteArray) (sep:ByteArray) (w:World) (hn:xs.length=n) (h0:0<n) (hB:B≤w.heap.size) (hA:Sl w B A (xs.map Value.string)) (hc:n≤c) (hN:n≤1000000) (hl:∀x∈xs,x.size≤10000) (ae:sep.size≤10) :
 Calls Tryz.prog 110 #[.slice A n c,.string sep] w fun e w'=>e=.returned (.string ⟨(Lib.join (xs.map (·.data.toList)) sep.data.toList).toArray⟩)∧Below w.heap.size w w':=by
 subst hn
 obtain⟨b,o,rfl,hb,hcell⟩:=hA (by rw[Zf];exact h0)
 have hlen:=Jn.len sep.data.toList 10000 (xs.map (·.data.toList)) (fun x hx=>by
  obtain⟨y,hy,rfl⟩:=List.mem_map.1 hx
  have:=hl y hy
  simpa using this)
 have aa:sep.data.toList.length=sep.size:=by simp
 rw[Zf,aa]at hlen
 have:xs.length*(10000+sep.size)≤1000000*10010:=Nat.mul_le_mul hN (by omega)
 refine (Tryz.strings_Join b o c xs sep w ?_ (by omega) (by omega) hc (by omega))
 intro j x hx
 have hj:=(List.getElem?_eq_some_iff.1 hx).1
 rw[hcell j (by rw[Zf];exact hj),Zl,hx]
 rfl
end Go.Proofs.YtbeakahjbkdeiaaGreatDoor
namespace Go.Proofs.YtbeakahjbkdeiaaGreatDoor
open Go.RowKit
set_option linter.unusedSimpArgs false
set_option linter.unusedVariables false
theorem Rw.ba_size' (l:List UInt8):(⟨l.toArray⟩:ByteArray).size=l.length:=by show l.toArray.size=_;simp
theorem Rw.itoa_pos (k:Int) (h:0≤k):Lib.itoa k=Lib.decDigits k.toNat:=by
 unfold Lib.itoa
 rw[Zs (by omega)]
theorem Rw.hex_call (c:Int) (h0:0≤c) (h1:c<16777216) (w:World) (hL:Rw.Laid w) :
 Calls Tryz.prog 108 #[.int .i32 c] w fun e w'=>e=.returned (.string ⟨(Fi.text c.toNat).toArray⟩)∧Below w.heap.size w w':=by
 obtain⟨n,rfl⟩:∃n:Nat,c=n:=⟨c.toNat,by omega⟩
 rw[YQ]
 exact Fi.text_any n (by omega) w hL.1
theorem Rw.itoa_call (k:Int) (h0:0≤k) (h1:k≤1000000000) (w:World) (hL:Rw.Laid w) :
 Calls Tryz.prog 109 #[.int .i64 k] w fun e w'=>e=.returned (.string ⟨(Lib.decDigits k.toNat).toArray⟩)∧Below w.heap.size w w':=by
 rw[←Rw.itoa_pos k h0]
 exact Fi.itoa_any k (by omega) (by omega) w hL.2
def Rw.cellsF (x0 x3 x5:ByteArray):List Value:=[.string x0,.string ⟨#[88]⟩,.string ⟨#[]⟩,.string x3,.string ⟨#[]⟩,.string x5,.string ⟨#[]⟩,.string ⟨#[]⟩,.string ⟨#[]⟩,.string ⟨#[]⟩,.string ⟨#[]⟩,.string ⟨#[]⟩,.string ⟨#[]⟩,.string ⟨#[]⟩,.string ⟨#[]⟩]
def Rw.strF (x0 x3 x5:ByteArray):List ByteArray:=[x0,⟨#[88]⟩,⟨#[]⟩,x3,⟨#[]⟩,x5,⟨#[]⟩,⟨#[]⟩,⟨#[]⟩,⟨#[]⟩,⟨#[]⟩,⟨#[]⟩,⟨#[]⟩,⟨#[]⟩,⟨#[]⟩]
theorem Rw.strF_size (x0 x3 x5:ByteArray) (h0:x0.size≤10000) (h3:x3.size≤10000) (h5:x5.size≤10000):∀x∈Rw.strF x0 x3 x5,x.size≤10000:=by
 intro x hx
 have he:(⟨#[]⟩:ByteArray).size=0:=rfl
 have aa:(⟨#[88]⟩:ByteArray).size=1:=rfl
 unfold Rw.strF at hx
 simp only[XO,Y7,or_false]at hx
 rcases hx with rfl|rfl|rfl|rfl|rfl|rfl|rfl|rfl|rfl|rfl|rfl|rfl|rfl|rfl|rfl <;> omega
theorem Rw.join_glue (c:UInt8):∀l:List (List UInt8),Lib.join l [c]=Fi.glue c l
 | []=>by rw[Lib.join_nil];rfl
 | x::r=>by
   rw[Lib.join_cons]
   rfl
theorem Rw.join_line (c k:Int) (m:List Int):Lib.join ((Rw.strF ⟨(Fi.text c.toNat).toArray⟩ ⟨(Lib.decDigits k.toNat).toArray⟩ ⟨(Rw.mtext m).toArray⟩).map (·.data.toList)) [59]=Rw.line (c,k,m):=by
 rw[Rw.join_glue]
 unfold Rw.strF Rw.line Rw.mtext
 simp[Fi.glue]
theorem Rw.mtext_le (m:List Int) (hm:m.length≤2) (hc:∀x∈m,0≤x∧x≤1114111):(Rw.mtext m).length≤10000:=by
 unfold Rw.mtext
 rcases m with _|⟨a,_|⟨b,_|⟨d,t⟩⟩⟩
 · simp[Fi.glue]
 · have:=Fi.text_le a.toNat (by have:=(hc a (by simp)).2;omega)
   simp[Fi.glue];omega
 · have h1:=Fi.text_le a.toNat (by have:=(hc a (by simp)).2;omega)
   have h2:=Fi.text_le b.toNat (by have:=(hc b (by simp)).2;omega)
   simp[Fi.glue];omega
 · simp at hm
def Rw.cells0:List Value:=[.string ByteArray.empty,.string ByteArray.empty,.string ByteArray.empty,.string ByteArray.empty,.string ByteArray.empty,.string ByteArray.empty,.string ByteArray.empty,.string ByteArray.empty,.string ByteArray.empty,.string ByteArray.empty,.string ByteArray.empty,.string ByteArray.empty,.string ByteArray.empty,.string ByteArray.empty,.string ByteArray.empty]
theorem Rw.make15 (w:World):(Instr.makeSlice 85 (.int .i64 15) (.int .i64 15)).run Tryz.prog w=.ok (.slice (some ⟨w.heap.size,0,none⟩) 15 15) (w.alloc (.cells Rw.cells0.toArray 9)):=by kernel_rfl
set_option maxRecDepth 100000 in
set_option maxHeartbeats 4000000 in
theorem Rw.pline_any (c k:Int) (A:Option Addr) (m:List Int) (n cp B:Nat) (w:World) (c0:0≤c) (c1:c≤1114111) (k0:0≤k) (k1:k≤254) (hn:m.length=n) (hm:n≤2) (hmb:∀x∈m,0≤x∧x≤1114111)
 (hB:B≤w.heap.size) (hA:Sl w B A (m.map (Value.int .i32))) (hL:Rw.Laid w) :
 Calls Tryz.prog 71 #[.agg #[.int .i32 c,.int .i64 k,.slice A n cp]] w fun e w'=>e=.returned (.string ⟨(Rw.line (c,k,m)).toArray⟩)∧Below w.heap.size w w':=by
 have hX:=Rw.hex_call c c0 (by omega)
 have hK:=Rw.itoa_call k k0 (by omega)
 obtain⟨x0,ba⟩:∃x:ByteArray,⟨(Fi.text c.toNat).toArray⟩=x:=⟨_,rfl⟩
 obtain⟨x3,a8⟩:∃x:ByteArray,⟨(Lib.decDigits k.toNat).toArray⟩=x:=⟨_,rfl⟩
 simp only[ba]at hX
 simp only[a8]at hK
 have bx:=Za ba
 have bn:=Za a8
 have HN:=Za hn
 have bh:=Za hmb
 clear ba a8 hn hmb
 have cv:=Rw.make15
 go_enter Tryz.func71,Tryz.ntmps71
 go_upto_region 2 with (fail)
 obtain⟨wa,ar⟩:∃wa,(w.alloc (.cells #[.int .i32 c,.int .i64 k,.slice A n cp] 103)).alloc (.cells Rw.cells0.toArray 9)=wa:=⟨_,rfl⟩
 have hz:w.heap.size+1<wa.heap.size:=by rw[←ar];simp
 have ae:Below w.heap.size w wa:=by rw[←ar];exact ((Zd _ _).alloc (Zb _) _).alloc (by simp) _
 have aq:Rw.At wa w.heap.size 103 [.int .i32 c,.int .i64 k,.slice A n cp]:=by rw[←ar];exact (Rw.At.new w 103 [.int .i32 c,.int .i64 k,.slice A n cp]).alloc _
 have ay:Rw.At wa (w.heap.size+1) 9 Rw.cells0:=by
  have h:=Rw.At.new (w.alloc (.cells #[.int .i32 c,.int .i64 k,.slice A n cp] 103)) 9 Rw.cells0
  rw[ZD]at h
  rw[←ar]
  exact h
 have bb:=hL.next ae
 first
  | rw[ar]
  | (show Code.wp _ _ _ _ ((w.alloc (.cells #[.int .i32 c,.int .i64 k,.slice A n cp] 103)).alloc (.cells Rw.cells0.toArray 9));rw[ar])
 clear ar
 obtain⟨d1,d2,d3,_,_,_⟩:=aq.three
 go_cut [] (fun wx=>Rw.At wx (w.heap.size+1) 9 (Rw.cellsF x0 x3 ⟨#[]⟩)∧Below (w.heap.size+1) wa wx)
 case first =>
  have b3:Rw.Laid wa.drew:=bb.next (Zd _ _).drew
  have cn:w.heap.size<wa.heap.size:=by omega
  go_region_with (first
   | (go_at_call 108;refine (hX _ b3).mono ?_;rintro e wq ⟨rfl,cq⟩;have ai:Below wa.heap.size wa wq:=((Zd _ _).drew).trans cq;have cr:wq.cell? ⟨w.heap.size,1,none⟩=some (.int .i64 k):=((bcell ai).1 _ _ cn).trans d2;have cc:=bb.next ai)
   | (go_at_call 109;refine (hK _ cc).mono ?_;rintro e wz ⟨rfl,b8⟩;have bp:Below wa.heap.size wa wz:=ai.trans (b8.mono ai.size);have af:=ay.below' bp hz;have y0:=af.cell 0 rfl;have y1:=af.cell 1 rfl;have y3:=af.cell 3 rfl;have g0:=af.frozen 0;have g1:=af.frozen 1;have g3:=af.frozen 3)
   | fail)
  all_goals
   go_wp2_with fail
   go_meet
   exact⟨((af.set 0 (.string x0)).set 1 (.string ⟨#[88]⟩)).set 3 (.string x3),(((bp.mono (Z3 hz)).setCell (p:=⟨w.heap.size+1,0,none⟩) (Zb _) _).setCell (p:=⟨w.heap.size+1,1,none⟩) (Zb _) _).setCell (p:=⟨w.heap.size+1,3,none⟩) (Zb _) _⟩
 case rest =>
  obtain⟨ap,ai⟩:=hcut
  obtain⟨wx,rfl⟩:∃wx:World,wx=wc:=⟨_,rfl⟩
  have ak:=aq.below' ai (ZR _)
  obtain⟨f1,f2,f3,_,_,_⟩:=ak.three
  have bs:Sl wx B A (m.map (Value.int .i32)):=(hA.below (ae.mono hB) (Zb _)).below (ai.mono (show B≤w.heap.size+1 by omega)) (Zb _)
  have bl:Rw.Laid wx:=hL.next (ae.trans (ai.mono (ZW _)))
  have cg:w.heap.size+1<wx.heap.size:=ap.lt
  have bo:=Za (ae.trans (ai.mono (ZW _)))
  clear d1 d2 d3 aq ay ae bb hX hK ak ai f1 f2
  obtain⟨i0,hi,cb,ch,cf⟩:=Yf Rw.infoStr
  have cd:=Za bs
  have bz:=Za hL
  have cx:=Za bl
  have cj:=Za ap
  clear bs bl hA hL ap
  go_wp2_with fail
  go_loopw [4,6,23] (fun v _ i wr=>∃j:Nat,j≤n∧i=.int .i64 j∧wr.ownsRow (w.heap.size+2) 9 1 v j ((m.take j).map fun x=>Value.string ⟨(Fi.text x.toNat).toArray⟩)∧Below (w.heap.size+2) wx wr) (fun _ _ i _=>n-(intOf i).toNat)
  case atStart=>exact⟨0,Zz _,rfl,ZG _ _ _ _,Zd _ _⟩
  case round =>
   obtain⟨j,hj,rfl,ag,aa⟩:=hrel
   have bw:w.heap.size+2≤wr.heap.size:=Zh cg aa.size
   have ck:Rw.Laid wr:=bz.out.next (bo.out.trans (aa.mono (by omega)))
   by_cases hlt:j<n
   · obtain⟨x,hx⟩:∃x,m[j]?=some x:=⟨_,Zc (by rw[HN.out];exact hlt)⟩
     have hxb:=bh.out x (Zk hx)
     obtain⟨ab,ao,rfl,cy,bu⟩:=cd.out (by rw[Zf,HN.out];omega)
     have hc:=bu j (by rw[Zf,HN.out];exact hlt)
     rw[Zl,hx,Zn,←(bcell aa).1 _ _ (by omega)]at hc
     have hT:=Rw.hex_call x hxb.1 (by omega) wr ck
     have ah:(m.take (j+1)).map (fun x=>Value.string ⟨(Fi.text x.toNat).toArray⟩)=(m.take j).map (fun x=>Value.string ⟨(Fi.text x.toNat).toArray⟩)++[Value.string ⟨(Fi.text x.toNat).toArray⟩]:=by
      rw[Zr,hx];simp
     obtain⟨tx,bf⟩:∃y:ByteArray,⟨(Fi.text x.toNat).toArray⟩=y:=⟨_,rfl⟩
     rw[bf]at ah
     simp only[bf]at hT
     have jI:(j:Int)<n:=by omega
     have b5:=Za ah
     have bj:=Za aa
     have bi:=Za ag
     clear ah aa ag hx bu bf
     go_wp2_with fail
     refine hT.mono ?_
     rintro e w3 ⟨rfl,a6⟩
     have az:=own_below bi.out a6 (Zb _)
     have b2:=Za (bj.out.trans (a6.mono bw))
     have cm:w.heap.size+2≤w3.heap.size:=Zh bw a6.size
     clear a6 hT
     go_wp2_with (first|(at_builtin;refine wpList_push1 _ rfl _ _ _ rfl (w.heap.size+2) 9 i0 _ 16 Tryz.underlying85 hi cb ch cf rfl _ j _ rfl az _ rfl rfl (by simp only[maxLen];omega) (by omega) cm ?_;intro v1 w4 aw b6)|fail)
     exact⟨⟨j+1,by omega,by go_num,by rw[b5.out];exact aw,b2.out.trans b6⟩,by simp[intOf];omega⟩
   · obtain rfl:j=n:=by omega
     have jI:¬(j:Int)<j:=by omega
     rw[Zj (by rw[HN.out];exact Zb _)]at ag
     obtain⟨A4,c4,rfl⟩:=own_form ag
     have bk:=Sl.of_own ag
     have au:j≤c4:=by
      rcases ag.2 with ⟨hv,h0⟩|⟨g,cap,ct,hv,_,_,cw,_⟩
      · omega
      · simp only[ZV]at hv
        omega
     have hJ:∀W:World,W=wr→Calls Tryz.prog 110 #[.slice A4 j c4,.string ⟨#[32]⟩] W fun e w'=>e=.returned (.string ⟨(Rw.mtext m).toArray⟩)∧Below W.heap.size W w':=by
      rintro W rfl
      rcases YC j with hj0|hj0
      · have b9:m=[]:=List.length_eq_zero_iff.1 (by rw[HN.out];exact hj0)
        subst hj0
        refine (Tryz.strings_Join_none A4 c4 ⟨#[32]⟩ W).mono ?_
        rintro e w' ⟨rfl,rfl⟩
        exact⟨by rw[b9];rfl,Zd _ _⟩
      · have h:=Jn.any A4 c4 W.heap.size j (m.map fun x=>⟨(Fi.text x.toNat).toArray⟩) ⟨#[32]⟩ W (by rw[Zf,HN.out]) hj0 (Zb _) (by rw[Y4];exact bk) au (by omega) (fun y hy=>by
         obtain⟨x,hx,rfl⟩:=List.mem_map.1 hy
         rw[Rw.ba_size']
         have:=Fi.text_le x.toNat (by have:=bh.out x hx;omega)
         omega) (by decide)
        refine h.mono ?_
        rintro e w' ⟨rfl,hb⟩
        refine⟨?_,hb⟩
        rw[Y4,show (⟨#[32]⟩:ByteArray).data.toList=[32] from rfl,Rw.join_glue]
        rfl
     have ax:=cj.out.below' aa (ZR _)
     have b7:=Za (bo.out.trans (aa.mono (show w.heap.size≤w.heap.size+2 by omega)))
     obtain⟨mt,bg⟩:∃y:ByteArray,⟨(Rw.mtext m).toArray⟩=y:=⟨_,rfl⟩
     simp only[bg]at hJ
     have br:=Za bg
     clear ag bk au aa bg
     go_wp2_with fail
     refine (hJ _ rfl).mono ?_
     rintro e w5 ⟨rfl,a7⟩
     have aj:=ax.below a7
     have y5:=aj.cell 5 rfl
     have g5:=aj.frozen 5
     have a1:=aj.set 5 (.string mt)
     have cu:wr.heap.size≤w5.heap.size:=a7.size
     have b4:w.heap.size+1<w5.heap.size:=by omega
     have bm:=Za (((b7.out.trans (a7.mono (by omega))).setCell (p:=⟨w.heap.size+1,5,none⟩) (show w.heap.size≤w.heap.size+1 by omega) (.string mt)))
     have bt:Sl (w5.setCell ⟨w.heap.size+1,5,none⟩ (.string mt)) (w5.setCell ⟨w.heap.size+1,5,none⟩ (.string mt)).heap.size (some ⟨w.heap.size+1,0,none⟩) ((Rw.strF x0 x3 mt).map Value.string) :=
      Sl.lit rfl _ _ a1
     have bc:=Jn.any (some ⟨w.heap.size+1,0,none⟩) 15 _ 15 (Rw.strF x0 x3 mt) ⟨#[59]⟩ (w5.setCell ⟨w.heap.size+1,5,none⟩ (.string mt)) rfl (by decide) (Zb _) bt (Zb _) (by decide) (Rw.strF_size x0 x3 mt (by rw[←bx.out,Rw.ba_size'];have:=Fi.text_le c.toNat (by omega);omega) (by
      rw[←bn.out,Rw.ba_size']
      have:=Fi.dec_len 9 k.toNat (by rw[show (10:Nat) ^ (9+1)=10000000000 from by decide];omega)
      omega) (by
      rw[←br.out,Rw.ba_size']
      exact Rw.mtext_le m (by rw[HN.out];exact hm) bh.out)) (by decide)
     have av:(⟨(Lib.join ((Rw.strF x0 x3 mt).map (·.data.toList)) (⟨#[59]⟩:ByteArray).data.toList).toArray⟩:ByteArray)=⟨(Rw.line (c,k,m)).toArray⟩:=by
      rw[←bx.out,←bn.out,←br.out]
      exact Z5 (fun l:List UInt8=>(⟨l.toArray⟩:ByteArray)) (Rw.join_line c k m)
     rw[av]at bc
     clear aj a1 bt a7 hJ ax av
     go_wp2_with fail
     refine bc.mono ?_
     rintro e w7 ⟨rfl,bq⟩
     have b1:=Za (bm.out.trans (bq.mono bm.out.size))
     clear bq bc
     go_wp2_with fail
     go_ret
     exact⟨rfl,b1.out⟩
def Xt.spCells:List Value:=[.int .i32 44032,.int .i32 55203,.string ⟨Xt.n0.toArray⟩,.int .i32 55296,.int .i32 56191,.string ⟨Xt.n1.toArray⟩,.int .i32 57344,.int .i32 63743,.string ⟨Xt.n2.toArray⟩]
theorem Xt.spans_any (w:World):Calls Tryz.prog 67 #[] w fun e w'=>e=.returned (.slice (some ⟨w.heap.size,0,none⟩) 3 3)∧Rw.At w' w.heap.size 105 Xt.spCells∧Below w.heap.size w w':=by
 go_enter Tryz.func67,Tryz.ntmps67
 go_wp2_with fail
 go_ret
 exact⟨rfl,Rw.At.new w 105 Xt.spCells,(Zd _ _).alloc (Zb _) _⟩
def Xt.ln (c:Nat) (nm en:List UInt8):List UInt8:=Fi.text c++([59,60]++(nm++([44,32]++(en++[62,59,59,48,59,59,59,59,59,59,59,59,59,59,59,10]))))
set_option maxRecDepth 100000 in
set_option maxHeartbeats 4000000 in
theorem Xt.line_any (f t:Int) (c:Nat) (nm en:List UInt8) (w:World) (hc:c≤1114111) (hn:nm.length≤100) (he:en.length≤100) (hL:Fi.Laid w) :
 Calls Tryz.prog 70 #[.agg #[.int .i32 f,.int .i32 t,.string ⟨nm.toArray⟩],.int .i32 c,.string ⟨en.toArray⟩] w fun e w'=>e=.returned (.string ⟨(Xt.ln c nm en).toArray⟩)∧Below w.heap.size w w':=by
 obtain⟨wa,ae⟩:∃wa,w.alloc (.cells #[.int .i32 f,.int .i32 t,.string ⟨nm.toArray⟩] 105)=wa:=⟨_,rfl⟩
 have ar:Below w.heap.size w wa:=by rw[←ae];exact (Zd _ _).alloc (Zb _) _
 have ao:Rw.At wa w.heap.size 105 [.int .i32 f,.int .i32 t,.string ⟨nm.toArray⟩]:=by rw[←ae];exact Rw.At.new w 105 [.int .i32 f,.int .i32 t,.string ⟨nm.toArray⟩]
 have hT:=fun W (hW:Below w.heap.size w W)=>Fi.text_any c (by omega) W (hL.below hW)
 have aa:∀x:ByteArray,x=⟨(Fi.text c).toArray⟩→((((x++⟨#[59,60]⟩)++⟨nm.toArray⟩)++⟨#[44,32]⟩)++⟨en.toArray⟩)++⟨#[62,59,59,48,59,59,59,59,59,59,59,59,59,59,59,10]⟩=(⟨(Xt.ln c nm en).toArray⟩:ByteArray):=by
  rintro x rfl
  rw[show (⟨#[59,60]⟩:ByteArray)=⟨[59,60].toArray⟩ from rfl,show (⟨#[44,32]⟩:ByteArray)=⟨[44,32].toArray⟩ from rfl,show (⟨#[62,59,59,48,59,59,59,59,59,59,59,59,59,59,59,10]⟩:ByteArray)=⟨[62,59,59,48,59,59,59,59,59,59,59,59,59,59,59,10].toArray⟩ from rfl,Fi.ba_app,Fi.ba_app,Fi.ba_app,Fi.ba_app,Fi.ba_app]
  unfold Xt.ln
  simp
 obtain⟨tx,ah⟩:∃y:ByteArray,⟨(Fi.text c).toArray⟩=y:=⟨_,rfl⟩
 have hr:=aa tx ah.symm
 have t6:tx.size≤6:=by
  rw[←ah]
  show (Fi.text c).toArray.size≤6
  have:=Fi.text_le c hc
  simpa using this
 obtain⟨n1,ag⟩:∃y:ByteArray,⟨nm.toArray⟩=y:=⟨_,rfl⟩
 obtain⟨e1,ai⟩:∃y:ByteArray,⟨en.toArray⟩=y:=⟨_,rfl⟩
 have ay:n1.size≤100:=by rw[←ag,Rw.ba_size];exact hn
 have aw:e1.size≤100:=by rw[←ai,Rw.ba_size];exact he
 rw[ag,ai]at hr ⊢
 rw[ag]at ao ae
 simp only[ah]at hT
 obtain⟨ax,af⟩:∃y:ByteArray,⟨(Xt.ln c nm en).toArray⟩=y:=⟨_,rfl⟩
 rw[af]at hr ⊢
 have s2:(⟨#[59,60]⟩:ByteArray).size=2:=rfl
 have s3:(⟨#[44,32]⟩:ByteArray).size=2:=rfl
 have s4:(⟨#[62,59,59,48,59,59,59,59,59,59,59,59,59,59,59,10]⟩:ByteArray).size=16:=rfl
 have HR:=Za hr
 have av:=Za ae
 have ak:=Za ar
 have aq:=Za ao
 have HT:=Za hT
 clear hr aa ah ae ar ao hT ag ai af hL hn he
 go_enter Tryz.func70,Tryz.ntmps70
 go_upto_region 1 with (fail)
 rw[av.out]
 refine Stg.wp_region Stg.Ex Stg.Ex.rel (by kernel_rfl) (by kernel_rfl) (by kernel_rfl) ?_
 refine Stg.readW (by kernel_rfl) (by kernel_rfl) (by kernel_rfl) ?_;intro K hK;go_big_quiet_op;go_big_quiet_on
 refine Stg.call 108 _ _ rfl (C.enter Tryz.func108 (by kernel_rfl) rfl) [.int .i32 c] rfl wa.drew _ (HT.out wa.drew ak.out.drew) (by kernel_rfl) rfl (by kernel_rfl) ?_
 rintro e w1 ⟨rfl,aj⟩
 refine⟨_,rfl,aj,?_⟩
 have au:=Za (ak.out.drew.trans (aj.mono ak.out.size))
 clear aj
 intro A' ap;simp only[Act.put,Zq,ZC,ZA]at ap;subst ap
 have e2:=Stg.cells (w:=wa.drew) (aq.out.cell 2 rfl) aq.out.lt
 have c1:¬9223372036854775807<tx.size+(⟨#[59,60]⟩:ByteArray).size:=by omega
 have c2:¬9223372036854775807<(tx++⟨#[59,60]⟩).size+n1.size:=by rw[ZQ];omega
 have c3:¬9223372036854775807<((tx++⟨#[59,60]⟩)++n1).size+(⟨#[44,32]⟩:ByteArray).size:=by rw[ZQ,ZQ];omega
 have c4:¬9223372036854775807<(((tx++⟨#[59,60]⟩)++n1)++⟨#[44,32]⟩).size+e1.size:=by rw[ZQ,ZQ,ZQ];omega
 have c5:¬9223372036854775807<((((tx++⟨#[59,60]⟩)++n1)++⟨#[44,32]⟩)++e1).size+(⟨#[62,59,59,48,59,59,59,59,59,59,59,59,59,59,59,10]⟩:ByteArray).size:=by rw[ZQ,ZQ,ZQ,ZQ];omega
 iterate 2 (refine Stg.readW (by kernel_rfl) (by kernel_rfl) (by kernel_rfl) ?_;intro K hK;go_big_quiet_op;go_big_quiet_on)
 refine Stg.read 1 (by kernel_rfl) (by kernel_rfl) (by kernel_rfl) wa.drew rfl (by kernel_rfl) ?_;intro K hK;go_big_quiet_op;go_big_quiet_on
 iterate 6 (refine Stg.readW (by kernel_rfl) (by kernel_rfl) (by kernel_rfl) ?_;intro K hK;go_big_quiet_op;go_big_quiet_on)
 refine Stg.nil w1 rfl ?_
 go_wp2_with fail
 go_ret
 rw[HR.out]
 exact⟨rfl,au.out⟩
inductive Xt.Is:List Oper→Nat→List Rw.Row→List Nat→List Oper→Prop
 | nil {rest:List Oper} {s:Nat}:Xt.Is rest s [] [] rest
 | two {o1 o2:Oper} {l rest:List Oper} {s k:Nat} {p:Array (Nat × Operand)} {c n:Int} {m:List Int} {T:List Rw.Row} {sl:List Nat}:o1.guard=none→o1.dst=some s→o1.op=.buildSlice 25 k p→m.length=k→0<k→k≤2→p.toList=((m.zipIdx 0).map fun x=>(x.2,Operand.const (Value.int .i32 x.1))) →
    o2.guard=none→o2.dst=some (s+1)→o2.op=.build 103 #[(0,.const (.int .i32 c)),(1,.const (.int .i64 n)),(2,.tmp s)]→Xt.Is l (s+2) T sl rest→Xt.Is (o1::o2::l) s ((c,n,m)::T) ((s+1)::sl) rest
 | one {o:Oper} {l rest:List Oper} {s:Nat} {c n:Int} {T:List Rw.Row} {sl:List Nat}:o.guard=none→o.dst=some s→o.op=.build 103 #[(0,.const (.int .i32 c)),(1,.const (.int .i64 n))]→Xt.Is l (s+1) T sl rest→Xt.Is (o::l) s ((c,n,[])::T) (s::sl) rest
def Xt.val (r:Rw.Row) (a:Option Addr × Nat):Value:=.agg #[.int .i32 r.1,.int .i64 r.2.1,.slice a.1 r.2.2.length a.2]
theorem Xt.run_row3 (c n:Int) (A:Option Addr) (k q:Nat) (w:World):(Instr.build 103 #[(0,.int .i32 c),(1,.int .i64 n),(2,.slice A k q)]).run Tryz.prog w=.ok (.agg #[.int .i32 c,.int .i64 n,.slice A k q]) w:=by kernel_rfl
theorem Xt.run_row2 (c n:Int) (w:World):(Instr.build 103 #[(0,.int .i32 c),(1,.int .i64 n)]).run Tryz.prog w=.ok (.agg #[.int .i32 c,.int .i64 n,.slice none 0 0]) w:=by kernel_rfl
theorem Xt.exec3 {P:Program} {o:Oper} {ρ:Operand→Value} {w w':World} (t:TypeId) (x y z:Operand) (ho:o.op=.build t #[(0,x),(1,y),(2,z)]) (v:Value) (hz:ρ z=v) (u:Value) (hr:(Instr.build t #[(0,ρ x),(1,ρ y),(2,v)]).run P w=.ok u w'):(execOp ρ o).run P w=.ok (.value u) w':=by
 subst hz
 simp only[execOp,ho,Yt,YV,Z0,Y3,hr,Ym,Yl]
theorem Xt.exec2 {P:Program} {o:Oper} {ρ:Operand→Value} {w w':World} (t:TypeId) (x y:Operand) (ho:o.op=.build t #[(0,x),(1,y)]) (u:Value) (hr:(Instr.build t #[(0,ρ x),(1,ρ y)]).run P w=.ok u w'):(execOp ρ o).run P w=.ok (.value u) w':=by
 simp only[execOp,ho,Yt,YV,Z0,Y3,hr,Ym,Yl]
theorem Xt.put_self {a:Act} {s:Nat} {v:Value} (h:s<a.tmps.size):(a.put (some s) v).eval (.tmp s)=v:=by
 simp[Act.put,Act.eval,Array.getD,h]
theorem Xt.put_other {a:Act} {s q:Nat} {v:Value} (h:q≠s):(a.put (some s) v).eval (.tmp q)=a.eval (.tmp q):=by
 have:¬s=q:=fun e=>h e.symm
 simp[Act.put,Act.eval,this]
theorem Xt.put_size {a:Act} {s:Nat} {v:Value}:(a.put (some s) v).tmps.size=a.tmps.size:=by simp[Act.put]
theorem Xt.walk {ops:Array Oper} {Q:Exit→Act→World→Prop} {l rest:List Oper} {s:Nat} {T:List Rw.Row} {sl:List Nat} (h:Xt.Is l s T sl rest):∀(a:Act) (w:World) (B:Nat) (vals:List (Nat × Value)),s+l.length≤a.tmps.size+rest.length→(∀x∈vals,x.1<s∧a.eval (.tmp x.1)=x.2)→B≤w.heap.size →
 (∀(a':Act) (w':World) (ads:List (Option Addr × Nat)),ads.length=T.length→Below B w w'→(∀(i:Nat) (r:Rw.Row) (ad:Option Addr × Nat),T[i]?=some r→ads[i]?=some ad→Slt w' 21 ad.1 (r.2.2.map (Value.int .i32)))→(a'.tmps.size=a.tmps.size∧a'.defers=a.defers) →
   (∀x∈vals,a'.eval (.tmp x.1)=x.2)→(sl.map fun q=>a'.eval (.tmp q))=List.zipWith Xt.val T ads→wpList Tryz.prog ops Q rest a' w')→wpList Tryz.prog ops Q l a w:=by
 induction h with
 | nil=>intro a w B vals hs hv hB K;exact K a w [] rfl (Zd _ _) (fun i r ad h=>by simp at h) ⟨rfl,rfl⟩ (fun x hx=>(hv x hx).2) rfl
 | @two o1 o2 l rest s k p c n m T sl g1 d1 h1 hm k0 k2 hp g2 d2 h2 _ ih =>
   intro a w B vals hs hv hB K
   simp only[ZM]at hs
   have hle:rest.length≤l.length:=by
    have:∀{l rest:List Oper} {s:Nat} {T:List Rw.Row} {sl:List Nat},Xt.Is l s T sl rest→rest.length≤l.length:=by
     intro l rest s T sl h
     induction h with
     | nil=>exact Zb _
     | two _ _ _ _ _ _ _ _ _ _ _ ih=>simp only[ZM];omega
     | one _ _ _ _ ih=>simp only[ZM];omega
    exact this (by assumption)
   refine wpList_buildFlatAt g1 25 21 k p h1 .i32 m w.heap.size rfl (some s) d1 Tryz.underlying25 (by kernel_rfl) (by kernel_rfl) hm.symm (by omega) (by omega) hp ?_
   refine Pg.wpList_exec g2 _ (Xt.exec3 103 _ _ _ h2 _ (Xt.put_self (by omega)) _ (Xt.run_row3 c n _ k k _)) ?_
   rw[d2]
   have ak:Below B w (w.alloc (.cells (m.map (Value.int .i32)).toArray 21)):=(Zd _ _).alloc hB _
   have aj:=Rw.At.new w 21 (m.map (Value.int .i32))
   refine ih _ _ (w.heap.size+1) ((s+1,.agg #[.int .i32 c,.int .i64 n,.slice (some ⟨w.heap.size,0,none⟩) k k])::vals) (by rw[Xt.put_size,Xt.put_size];omega) (fun x hx=>?_) (by simp) ?_
   · rcases List.mem_cons.1 hx with rfl|hx
     · exact⟨by omega,Xt.put_self (by rw[Xt.put_size];omega)⟩
     · have:=hv x hx
       exact⟨by omega,by rw[Xt.put_other (by omega),Xt.put_other (by omega)];exact this.2⟩
   · intro a' w' ads hl hb aa ag af ai
     refine K a' w' ((some ⟨w.heap.size,0,none⟩,k)::ads) (by simp[hl]) (ak.trans (hb.mono (by omega))) ?_ ⟨by rw[ag.1,Xt.put_size,Xt.put_size],ag.2⟩ (fun x hx=>af x (ZB _ hx)) ?_
     · intro i r ad hr ae
       cases i with
       | zero =>
         simp at hr ae
         subst hr;subst ae
         have ah:=aj.below' hb (ZR _)
         exact fun _=>⟨_,0,_,rfl,ah,fun i _=>by simp⟩
       | succ i=>exact aa i r ad (by simpa using hr) (by simpa using ae)
     · rw[Z0,List.zipWith_cons_cons,ai]
       congr 1
       have:=af _ Zw
       rw[this]
       unfold Xt.val
       rw[hm]
 | @one o l rest s c n T sl g1 d1 h1 _ ih =>
   intro a w B vals hs hv hB K
   simp only[ZM]at hs
   have hle:rest.length≤l.length:=by
    have:∀{l rest:List Oper} {s:Nat} {T:List Rw.Row} {sl:List Nat},Xt.Is l s T sl rest→rest.length≤l.length:=by
     intro l rest s T sl h
     induction h with
     | nil=>exact Zb _
     | two _ _ _ _ _ _ _ _ _ _ _ ih=>simp only[ZM];omega
     | one _ _ _ _ ih=>simp only[ZM];omega
    exact this (by assumption)
   refine Pg.wpList_exec g1 _ (Xt.exec2 103 _ _ h1 _ (Xt.run_row2 c n _)) ?_
   rw[d1]
   refine ih _ _ B ((s,.agg #[.int .i32 c,.int .i64 n,.slice none 0 0])::vals) (by rw[Xt.put_size];omega) (fun x hx=>?_) hB ?_
   · rcases List.mem_cons.1 hx with rfl|hx
     · exact⟨by omega,Xt.put_self (by omega)⟩
     · have:=hv x hx
       exact⟨by omega,by rw[Xt.put_other (by omega)];exact this.2⟩
   · intro a' w' ads hl hb aa ag af ai
     refine K a' w' ((none,0)::ads) (by simp[hl]) hb ?_ ⟨by rw[ag.1,Xt.put_size],ag.2⟩ (fun x hx=>af x (ZB _ hx)) ?_
     · intro i r ad hr ae
       cases i with
       | zero =>
         simp at hr ae
         subst hr;subst ae
         exact Slt.nil _ _ _
       | succ i=>exact aa i r ad (by simpa using hr) (by simpa using ae)
     · rw[Z0,List.zipWith_cons_cons,ai]
       congr 1
       exact af _ Zw
theorem Xt.flat_fl:∀(T:List Rw.Row) (ads:List (Option Addr × Nat)),((List.zipWith Xt.val T ads).flatMap fun v=>v.cells.toList)=Rw.fl T ads
 | [],_=>rfl
 | _::_,[]=>rfl
 | r::T,a::ads=>by
   rw[List.zipWith_cons_cons,Xw,Xt.flat_fl T ads]
   rfl
set_option maxRecDepth 100000 in
set_option maxHeartbeats 4000000 in
theorem Xt.table_any (w:World):Calls Tryz.prog 68 #[] w fun e w'=>∃A c,e=.returned (.slice A Xt.T.length c)∧Rw.Tab w' A Xt.T∧Below w.heap.size w w':=by
 go_enter Tryz.func68,Tryz.ntmps68
 go_upto_region 1 with (fail)
 go_step
 apply Xt.walk (s:=1) (T:=Xt.T) (B:=w.heap.size) (vals:=[])
 case h=>repeat (first|exact Xt.Is.nil|apply Xt.Is.two rfl rfl rfl rfl (by decide) (by decide) rfl rfl rfl rfl|apply Xt.Is.one rfl rfl rfl)
 · exact Nat.le_of_ble_eq_true (by kernel_rfl)
 · intro x hx;cases hx
 · exact Zb _
 · intro a' w' ads hl hb aa ai _ af
   have hi:(Tryz.prog.info? 103).map (fun i=>(i.zero.isSome,i.size))=some (true,3):=by kernel_rfl
   cases hie:Tryz.prog.info? 103 with
   | none=>simp[hie]at hi
   | some ie =>
     simp only[hie,Zn,Zg,YN]at hi
     obtain⟨z,hz⟩:=Option.isSome_iff_exists.1 hi.1
     have ae:Xt.T.length=121:=rfl
     refine wpList_buildSlice rfl 33 103 121 _ rfl (Rw.fl Xt.T ads).toArray ie z Tryz.underlying33 hie hz (by rw[hi.2];decide) (by rw[hi.2];decide) ?_ ?_
     · rw[hi.2]
       have h2:∀(p:Array (Nat × Operand)) (sl:List Nat),p.toList=((sl.zipIdx 0).map fun x=>(x.2,Operand.tmp x.1))→(p.map fun (i,x)=>(i,a'.eval x)).toList=(((sl.map fun q=>a'.eval (.tmp q)).zipIdx 0).map fun x=>(x.2,x.1)):=fun p sl hp=>by
        rw[Array.toList_map,hp,List.zipIdx_map,Y4,Y4]
        rfl
       rw[h2 _ _ (by kernel_rfl),af]
       have ag:(List.zipWith Xt.val Xt.T ads).length=121:=by rw[List.length_zipWith,hl,ae];rfl
       rw[Go.Great.fill_whole (s:=3) (by decide) _ _ (fun v hv=>?_) (by rw[ag];simp),Xt.flat_fl]
       obtain⟨i,aj,rfl⟩:=Xf hv
       rw[List.getElem_zipWith]
       rfl
     · go_wp2_with fail
       have h0:0<a'.tmps.size:=by rw[ai.1];exact Nat.le_of_ble_eq_true (by kernel_rfl)
       refine Yy (results_tmp rfl _ Tryz.prog _) rfl ?_
       refine⟨some ⟨w'.heap.size,0,none⟩,⟨121,by simp[h0]⟩,⟨ads,hl,?_,?_⟩,?_⟩
       · exact fun _=>⟨_,0,_,rfl,ZT _ _,fun i _=>by simp⟩
       · intro i r ad hr ah
         exact (aa i r ad hr ah).below ((Zd _ _).alloc (Zb _) _)
       · exact hb.alloc hb.size _
end Go.Proofs.YtbeakahjbkdeiaaGreatDoor
