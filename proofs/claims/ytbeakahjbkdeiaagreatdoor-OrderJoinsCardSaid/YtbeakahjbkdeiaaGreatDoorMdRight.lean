/- The law's Right: a table that may be, of any one: by walking its text. -/
import Derived.Test.YtbeakahjbkdeiaaGreatDoorAl1
import Derived.Test.YtbeakahjbkdeiaaGreatDoorMdRef5
import Derived.Test.YtbeakahjbkdeiaaGreatDoorMdRef6
import Derived.BigRegion
import Derived.Deep.DeepCutAuto
set_option linter.unusedVariables false
set_option linter.unusedSimpArgs false
namespace Go.Proofs.YtbeakahjbkdeiaaGreatDoor
open Go.RowKit
set_option linter.unusedSimpArgs false
set_option linter.unusedVariables false
def Md.rok (r:Rw.Row):Prop:=(-2147483648≤r.1∧r.1≤2147483647)∧(0≤r.2.1∧r.2.1≤254)∧r.2.2.length≤2∧(∀c∈r.2.2,-2147483648≤c∧c≤2147483647)∧(r.2.1=0→r.2.2≠[])
def Md.under (ads rest:List (Option Addr × Nat)):Prop:=∀a∈ads,∀p,a.1=some p→∀a'∈rest,∀q,a'.1=some q→p.block<q.block
def Md.RetRight (w:World) (e:Ending) (w':World):Prop :=
 ∃v T E,e=.returned v∧Md.Doc w' v T E∧(∀A n c A' n' c',v=.agg #[.slice A n c,.slice A' n' c']→n≤c∧n'≤c')∧T.length≤20∧E.length≤30∧(∀r∈T,Md.rok r)∧(∀c∈E,C.isC c=true)∧Md.chk T (Md.xs E)=0∧Below w.heap.size w w'
theorem Slt.grownA {w w':World} {t:TypeId} {A:Option Addr} {xs:List Value} {row:Option Nat} (h:Slt w t A xs) (hg:w.grownBy w' row) (hr:∀p,A=some p→row≠some p.block):Slt w' t A xs:=by
 intro hx
 obtain⟨b,o,cs,hA,hb,hc⟩:=h hx
 exact⟨b,o,cs,hA,(hg.block b (heap_lt hb) fun e=>hr _ hA e.symm).trans hb,hc⟩
theorem Slt.take {w:World} {t:TypeId} {A:Option Addr} {xs:List Value} (h:Slt w t A xs) (n:Nat):Slt w t A (xs.take n):=by
 intro hx
 rw[Zm]at hx
 obtain⟨b,o,cs,hA,hb,hc⟩:=h (by omega)
 refine⟨b,o,cs,hA,hb,fun i hi=>?_⟩
 rw[Zm]at hi
 rw[hc i (by omega),Ys,Zv (by omega)]
theorem Slt.set {w:World} {t:TypeId} {b o i:Nat} {xs:List Value} (h:Slt w t (some ⟨b,o,none⟩) xs) (hi:i<xs.length) (v:Value):Slt (w.setCell ⟨b,o+i,none⟩ v) t (some ⟨b,o,none⟩) (xs.set i v):=by
 intro _
 obtain⟨b',o',cs,hA,hb,hc⟩:=h (by omega)
 simp only[Zg,YE]at hA
 obtain⟨rfl,rfl,_⟩:=hA
 have aa:=heap_lt hb
 refine⟨b,o,cs.setIfInBounds (o+i) v,rfl,?_,fun j hj=>?_⟩
 · show (w.heap.modify b _)[b]?=_
   have hk:=(Array.getElem?_eq_some_iff.1 hb).2
   rw[Xa (by rw[Array.size_modify];exact aa),Array.getElem_modify_self,hk]
   simp
 · rw[Xc]at hj
   have hs:o+i<cs.size:=by
    have:=hc i hi
    rw[Zc hi]at this
    exact (Array.getElem?_eq_some_iff.1 this).1
   rw[Array.getElem?_setIfInBounds,List.getElem?_set]
   by_cases e:i=j
   · subst e
     rw[Zv rfl,Zv rfl,Zv hs,Zv hi]
   · rw[Zs (by omega),Zs e,hc j hj]
structure Md.RI (b2 b3 lo mid B4:Nat) (A2:Option Addr) (n2 c2:Nat) (XA2:Option Addr) (xn2 xc2:Nat) (T:List Rw.Row) (ads:List (Option Addr × Nat)) (E:List Int) (k:Nat) (wr:World) (To:List Rw.Row) (adso:List (Option Addr × Nat)) (vo:Value):Prop where
 a2:Rw.At wr b2 31 [.slice none 0 0,.slice none 0 0]
 a3:Rw.At wr b3 31 [vo,.slice XA2 xn2 xc2]
 rows:wr.ownsRow lo 43 3 (.slice A2 n2 c2) n2 (Rw.flI T ads)
 maps:∀(j:Nat) (r:Rw.Row) (a:Option Addr × Nat),k≤j→T[j]?=some r→ads[j]?=some a→Slt wr 3 a.1 (r.2.2.map (Value.int .i64))
 excl:wr.ownsRow mid 3 1 (.slice XA2 xn2 xc2) xn2 (E.map (Value.int .i64))
 lens:adso.length=To.length∧Md.caps To adso
 out:wr.ownsRow B4 43 3 vo To.length (Rw.flI To adso)
 mo:Rw.MapsI wr To adso
 rok:∀r∈To,Md.rok r
 und:Md.under adso (ads.drop k)
 chk:Md.chk To (Md.xs E)=0
 len:To.length≤k
section
variable {b2 b3 lo mid B4 n2 c2 xn2 xc2 k:Nat} {A2 XA2:Option Addr} {T To:List Rw.Row} {ads adso:List (Option Addr × Nat)} {E:List Int} {wr w':World} {vo:Value}
theorem Md.RI.below (h:Md.RI b2 b3 lo mid B4 A2 n2 c2 XA2 xn2 xc2 T ads E k wr To adso vo) (hb:Below wr.heap.size wr w'):Md.RI b2 b3 lo mid B4 A2 n2 c2 XA2 xn2 xc2 T ads E k w' To adso vo :=
 ⟨h.a2.below hb,h.a3.below hb,own_below h.rows hb (Zb _),fun j r a h1 h2 h3=>(h.maps j r a h1 h2 h3).below hb,own_below h.excl hb (Zb _),h.lens,own_below h.out hb (Zb _),h.mo.below hb,h.rok,h.und,h.chk,h.len⟩
theorem Md.RI.grown (h:Md.RI b2 b3 lo mid B4 A2 n2 c2 XA2 xn2 xc2 T ads E k wr To adso vo) {row:Option Nat} (hg:wr.grownBy w' row) {a:Option Addr × Nat} (ha:ads[k]?=some a) (ah:Md.apart lo mid ads)
 (aa:∀p,row=some p→(∃cs z,wr.heap[p]?=some (.cells cs 3 z))∧∃q,a.1=some q∧q.block=p):Md.RI b2 b3 lo mid B4 A2 n2 c2 XA2 xn2 xc2 T ads E (k+1) w' To adso vo:=by
 have hk:k<ads.length:=(List.getElem?_eq_some_iff.1 ha).1
 have ae:ads.drop k=a::ads.drop (k+1):=by
  obtain⟨h1,h2⟩:=List.getElem?_eq_some_iff.1 ha
  rw[ZS h1,h2]
 have hne:∀(b:Nat) (t:TypeId) cs z,wr.heap[b]?=some (.cells cs t z)→t≠3→row≠some b:=fun b t cs z hb ht e=>by
  obtain⟨⟨cs',z',hc⟩,_⟩:=aa b e
  rw[hb]at hc
  simp only[Zg,Xr]at hc
  exact ht hc.2.1
 have af:∀{base n:Nat} {v:Value} {xs:List Value},wr.ownsRow base 43 3 v n xs→w'.ownsRow base 43 3 v n xs:=fun {base n v xs} ho=>by
  refine ho.kept hg ?_
  rcases ho.2 with ⟨rfl,_⟩|⟨g,cap,aj,rfl,_,ai,_⟩
  · exact .inl rfl
  · exact .inr fun e=>hne g _ _ _ ai (by decide) e.symm
 refine⟨h.a2.grown hg (hne _ _ _ _ h.a2 (by decide)),h.a3.grown hg (hne _ _ _ _ h.a3 (by decide)),af h.rows,fun j r a' h1 h2 h3=>?_,?_,h.lens,af h.out,fun i r a' h1 h2=>?_,h.rok,?_,h.chk,Nat.le_succ_of_le h.len⟩
 · refine (h.maps j r a' (by omega) h2 h3).grownA hg fun p hp e=>?_
   obtain⟨_,q,hq,ag⟩:=aa _ e
   obtain⟨l1,l2⟩:=List.getElem?_eq_some_iff.1 h3
   obtain⟨l3,l4⟩:=List.getElem?_eq_some_iff.1 ha
   have:=List.pairwise_iff_getElem.1 ah.1 k j l3 l1 (by omega) q p (by rw[l4];exact hq) (by rw[l2];exact hp)
   omega
 · refine h.excl.kept hg ?_
   rcases hv:(Value.slice XA2 xn2 xc2).ownBlock with _|g
   · exact .inl rfl
   · refine .inr fun e=>?_
     obtain⟨_,q,hq,ag⟩:=aa g e.symm
     have h1:=(h.excl.lt g hv).1
     have h2:=(ah.2 a (Zk ha) q hq).2
     omega
 · refine (h.mo i r a' h1 h2).grownA hg fun p hp e=>?_
   obtain⟨_,q,hq,ag⟩:=aa _ e
   have:=h.und a' (Zk h2) p hp a (by rw[ae];exact Zw) q hq
   omega
 · intro x hx p hp y hy q hq
   exact h.und x hx p hp y (by rw[ae];exact ZB _ hy) q hq
end
theorem Md.upto_get (f:Int→Int) {l:List Int} {q:Nat} {y:Int} (hy:l[q]?=some y):(((l.take q).map f++l.drop q).map (Value.int .i64))[q]?=some (.int .i64 y):=by
 obtain⟨h1,h2⟩:=List.getElem?_eq_some_iff.1 hy
 have hl:((l.take q).map f).length=q:=by rw[Zf,Zm];omega
 rw[Zl,ZF (by omega),hl,Yu,Xm,YS,hy]
 rfl
theorem Md.upto_set (f:Int→Int) {l:List Int} {q:Nat} {y:Int} (hy:l[q]?=some y):(((l.take q).map f++l.drop q).map (Value.int .i64)).set q (.int .i64 (f y))=((l.take (q+1)).map f++l.drop (q+1)).map (Value.int .i64):=by
 obtain⟨h1,h2⟩:=List.getElem?_eq_some_iff.1 hy
 have hl:(((l.take q).map f).map (Value.int .i64)).length=q:=by rw[Zf,Zf,Zm];omega
 rw[ZO,Yx _ _ (by omega),hl,Yu,ZS h1,h2,Z0,ZA,Zr,hy]
 simp
structure Md.NX (b7:Nat) (x:Value) (rest:List (Option Addr × Nat)) (ws:World) (N:List Rw.Row) (nads:List (Option Addr × Nat)) (vn:Value):Prop where
 tab:Rw.At ws b7 31 [vn,x]
 lens:nads.length=N.length∧Md.caps N nads
 own:ws.ownsRow (b7+1) 43 3 vn N.length (Rw.flI N nads)
 mo:Rw.MapsI ws N nads
 rok:∀r∈N,Md.rok r
 und:Md.under nads rest
theorem Md.NX.below {b7:Nat} {x vn:Value} {rest nads:List (Option Addr × Nat)} {ws w':World} {N:List Rw.Row} (h:Md.NX b7 x rest ws N nads vn) (hb:Below ws.heap.size ws w'):Md.NX b7 x rest w' N nads vn :=
 ⟨h.tab.below hb,h.lens,own_below h.own hb (Zb _),h.mo.below hb,h.rok,h.und⟩
theorem Md.NX.push {b7:Nat} {x vn v6:Value} {rest nads:List (Option Addr × Nat)} {ws w6:World} {N:List Rw.Row} (h:Md.NX b7 x rest ws N nads vn) {r:Rw.Row} {a:Option Addr × Nat} (hs:Slt ws 3 a.1 (r.2.2.map (Value.int .i64))) (hc:r.2.2.length≤a.2) (hr:Md.rok r) (hu:Md.under [a] rest)
 (ag:(w6.ownsRow (b7+1) 43 3 v6 (N.length+1) (Rw.flI N nads++[.int .i64 r.1,.int .i64 r.2.1,.slice a.1 r.2.2.length a.2]))) {o:Obj} (hg:(ws.alloc o).grownBy w6 vn.ownBlock) :
 Md.NX b7 x rest (w6.setCell ⟨b7,0,none⟩ v6) (N++[r]) (nads++[a]) v6:=by
 have hb:Below ws.heap.size ws (ws.alloc o):=(Zd _ _).alloc (Zb _) _
 have aa:=own_below h.own hb (Zb _)
 have ae:=(h.tab.below hb).grown hg (Rw.own_ne h.own b7 (ZR _))
 have ai:=(h.mo.below hb).grown hg (Rw.own_not aa (by decide))
 have ah:=(hs.below hb).grown hg (Rw.own_not aa (by decide))
 have af:∀q,some b7=some q→∀cs z,w6.heap[q]?≠some (.cells cs 3 z):=fun q hq=>by
  cases hq
  exact ae.not (by decide)
 refine⟨ae.set 0 v6,⟨by simp[h.lens.1],h.lens.2.app h.lens.1 hc⟩,?_,(ai.grown (Rw.grown_set b7 0 v6) af).app h.lens.1 (ah.grown (Rw.grown_set b7 0 v6) af),fun q hq=>?_,fun q hq=>?_⟩
 · rw[Zi,Yq,Rw.flI_app _ _ _ _ h.lens.1]
   exact Rw.own_grown ag (ZR _) (Rw.grown_set b7 0 v6)
 · rcases List.mem_append.1 hq with hq|hq
   · exact h.rok q hq
   · rw[List.mem_singleton.1 hq];exact hr
 · rcases List.mem_append.1 hq with hq|hq
   · exact h.und q hq
   · exact hu q hq
theorem Md.RI.take {b2 b3 b7 lo mid B4 n2 c2 xn2 xc2 k:Nat} {A2 XA2:Option Addr} {T To N:List Rw.Row} {ads adso nads:List (Option Addr × Nat)} {E:List Int} {wx:World} {vo vn:Value}
 (h:Md.RI b2 b3 lo mid B4 A2 n2 c2 XA2 xn2 xc2 T ads E k wx To adso vo) (nx:Md.NX b7 (.slice XA2 xn2 xc2) (ads.drop k) wx N nads vn) (hc:Md.chk N (Md.xs E)=0) (hl:N.length≤k) (hB:B4≤b7+1) (hne:b2≠b3) :
 Md.RI b2 b3 lo mid B4 A2 n2 c2 XA2 xn2 xc2 T ads E k ((wx.setCell ⟨b3,0,none⟩ vn).setCell ⟨b3,1,none⟩ (.slice XA2 xn2 xc2)) N nads vn:=by
 have k1:=h.a3.set 0 vn
 have af:∀q,some b3=some q→∀cs z,wx.heap[q]?≠some (.cells cs 3 z):=fun q hq=>by cases hq;exact h.a3.not (by decide)
 have ag:∀q,some b3=some q→∀cs z,(wx.setCell ⟨b3,0,none⟩ vn).heap[q]?≠some (.cells cs 3 z):=fun q hq=>by cases hq;exact k1.not (by decide)
 have aa:∀{base n size:Nat} {e:TypeId} {v:Value} {xs:List Value},e≠31→wx.ownsRow base e size v n xs→((wx.setCell ⟨b3,0,none⟩ vn).setCell ⟨b3,1,none⟩ (.slice XA2 xn2 xc2)).ownsRow base e size v n xs:=fun {base n size e v xs} he ho=>by
  have h1:=ho.kept (Rw.grown_set b3 0 vn) (.inr fun e'=>Rw.own_not ho he _ e' _ _ h.a3)
  exact h1.kept (Rw.grown_set b3 1 _) (.inr fun e'=>Rw.own_not h1 he _ e' _ _ k1)
 have ae:∀{A:Option Addr} {xs:List Value},Slt wx 3 A xs→Slt ((wx.setCell ⟨b3,0,none⟩ vn).setCell ⟨b3,1,none⟩ (.slice XA2 xn2 xc2)) 3 A xs:=fun {A xs} hs =>
  (hs.grown (Rw.grown_set b3 0 vn) af).grown (Rw.grown_set b3 1 _) ag
 refine⟨(h.a2.other hne _).other hne _,k1.set 1 _,aa (by decide) h.rows,fun j r a h1 h2 h3=>ae (h.maps j r a h1 h2 h3),aa (by decide) h.excl,nx.lens,own_base (aa (by decide) nx.own) hB,fun i r a h1 h2=>ae (nx.mo i r a h1 h2),nx.rok,nx.und,hc,hl⟩
theorem Md.note_ne {k:Nat} (h:k≠0):(Md.note k).toList.isEmpty=false:=by
 have g1:(Md.note 1).toList.isEmpty=false:=by kernel_rfl
 have g2:(Md.note 2).toList.isEmpty=false:=by kernel_rfl
 have g3:(Md.note 3).toList.isEmpty=false:=by kernel_rfl
 have g4:(Md.note 4).toList.isEmpty=false:=by kernel_rfl
 have g5:(Md.note 5).toList.isEmpty=false:=by kernel_rfl
 match k,h with
 | 1,_=>exact g1
 | 2,_=>exact g2
 | 3,_=>exact g3
 | 4,_=>exact g4
 | _+5,_=>exact g5
theorem Md.tv_cap {A XA:Option Addr} {m c xn xc:Nat} (h:m≤c):∀A' n' c' x',Md.tv A m c XA xn xc=.agg #[.slice A' n' c',x']→n'≤c':=by
 intro A' n' c' x' he
 unfold Md.tv at he
 simp only[Xs,XK,Yc,ZV,YG]at he
 obtain⟨⟨rfl,rfl,rfl⟩,_⟩:=he
 exact h
theorem Md.grown_drew {w w':World} {row:Option Nat} (h:w.grownBy w' row):w.grownBy w'.drew row:=⟨h.os,h.tape,h.output,h.size,h.block⟩
theorem Md.and_8 (n:Int):bits .and .i64 n 255=n%256:=by
 have hm:(BitVec.ofInt 64 255).toNat=2 ^ 8-1:=by decide
 have key:(BitVec.ofInt 64 n &&& BitVec.ofInt 64 255).toNat=(n%((2 ^ 64:Nat):Int)).toNat%2 ^ 8:=by
  rw[BitVec.toNat_and,XJ,hm,YF]
 show IntKind.i64.wrap ((BitVec.ofInt 64 n &&& BitVec.ofInt 64 255).toNat:Nat)=n%256
 rw[key,Z1]
 omega
set_option maxRecDepth 100000 in
set_option maxHeartbeats 4000000 in
theorem Md.right_any (A XA:Option Addr) (n c xn xc:Nat) (T0:List Rw.Row) (E0:List Int) (w:World) (hn:T0.length=n) (hxn:E0.length=xn) (hnb:n≤maxLen) (hxb:xn≤maxLen) (hbd:∀r∈T0,Rw.bounds r) (h2:Rw.SeesI w A T0) (hX:Sl w w.heap.size XA (E0.map (Value.int .i64))) :
 Calls Tryz.prog 125 #[.agg #[.slice A n c,.slice XA xn xc]] w (Md.RetRight w):=by
 obtain⟨j0,hj0,iw,ia,h6⟩:=Yf infoRowI
 obtain⟨T,hT⟩:∃T,Md.fewT T0=T:=⟨_,rfl⟩
 obtain⟨E,hE⟩:∃E,Md.fewE E0=E:=⟨_,rfl⟩
 have ma:T.length≤20:=by rw[←hT];unfold Md.fewT;simp;omega
 have k7:E.length≤30:=by rw[←hE];unfold Md.fewE;simp;omega
 have lr:∀c∈E,C.isC c=true:=fun c hc=>by
  rw[←hE]at hc
  unfold Md.fewE at hc
  obtain⟨x,_,rfl⟩:=List.mem_map.1 hc
  exact Ch.K_is x
 have la:∀r∈T,r.2.2.length≤4:=fun r hr=>by
  rw[←hT]at hr
  unfold Md.fewT at hr
  obtain⟨q,_,rfl⟩:=List.mem_map.1 hr
  unfold Md.fewR
  simp
  omega
 obtain⟨wa,ez⟩:∃wa,(w.alloc (.cells #[.slice A n c,.slice XA xn xc] 31)).alloc (.cells #[.slice none 0 0,.slice none 0 0] 31)=wa:=⟨_,rfl⟩
 have nb:Below w.heap.size w wa:=by rw[←ez];exact ((Zd _ _).alloc (Zb _) _).alloc (by simp) _
 have ak:Rw.At wa w.heap.size 31 [.slice A n c,.slice XA xn xc]:=by rw[←ez];exact (Rw.At.new w 31 [.slice A n c,.slice XA xn xc]).alloc _
 have ap:Rw.At wa (w.heap.size+1) 31 [.slice none 0 0,.slice none 0 0]:=by
  have:=Rw.At.new (w.alloc (.cells #[.slice A n c,.slice XA xn xc] 31)) 31 [.slice none 0 0,.slice none 0 0]
  rw[←ez]
  simpa using this
 have iq:wa.heap.size=w.heap.size+2:=by rw[←ez];simp
 have nk:=Za ez
 have jl:=Za nb
 have hh:=Za ak
 have e8:=Za ap
 have nx:=Za iq
 have gg:Hid (∀W,Below w.heap.size w W→Calls Tryz.prog 159 #[.agg #[.slice A n c,.slice XA xn xc]] W fun e w'=>∃v,e=.returned v∧Md.DocO w' v W.heap.size T E∧Below W.heap.size W w'):=Za fun W hW=>by
  rw[←hT,←hE]
  exact Md.few_any A XA n c xn xc T0 E0 W hn hxn hnb hxb (fun r hr=>(hbd r hr).2.2.1) (h2.below hW) (hX.below hW hW.size)
 have oo:=Za ma
 have lz:=Za k7
 have ni:=Za lr
 have ol:=Za la
 have z0:=ak.cell 0 rfl
 have z1:=ak.cell 1 rfl
 have kr:=ak.lt
 clear hT hE ez nb ak ap iq ma k7 lr la hn hxn hnb hxb hbd h2 hX
 go_enter Tryz.func125,Tryz.ntmps125
 go_upto_region 1 with (fail)
 rw[nk.out]
 go_wp2_with fail
 refine (gg.out wa jl.out).mono ?_
 rintro e w2 ⟨v2,rfl,n9,dk⟩
 obtain⟨A2,c2,XA2,xc2,ads,rfl,⟨eg,cx⟩,b6,dr,mid,gu,fz,k0,b9⟩:=n9
 obtain⟨n2,h7⟩:∃k,T.length=k:=⟨_,rfl⟩
 obtain⟨xn2,cp⟩:∃k,E.length=k:=⟨_,rfl⟩
 rw[h7]at eg b6
 rw[cp]at b9
 rw[h7,cp]
 unfold Md.tv
 have ak:=hh.out.below dk
 have ap:=e8.out.below dk
 have y0:=ak.cell 0 rfl
 have y1:=ak.cell 1 rfl
 have y2:=ak.frozen 0
 have y3:=ak.frozen 1
 have o3:=ak.lt
 have iq:=nx.out
 have e5:=(ak.set 0 (.slice A2 n2 c2)).set 1 (.slice XA2 xn2 xc2)
 have kl:=(ap.other (b':=w.heap.size) (i:=0) (by omega) (.slice A2 n2 c2)).other (b':=w.heap.size) (i:=1) (by omega) (.slice XA2 xn2 xc2)
 have kb:=Rw.own_grown (Rw.own_grown b6 (by omega) (Rw.grown_set w.heap.size 0 (.slice A2 n2 c2))) (by omega) (Rw.grown_set w.heap.size 1 (.slice XA2 xn2 xc2))
 have jw:=Rw.own_grown (Rw.own_grown b9 (by omega) (Rw.grown_set w.heap.size 0 (.slice A2 n2 c2))) (by omega) (Rw.grown_set w.heap.size 1 (.slice XA2 xn2 xc2))
 have kd:=(dr.grown (Rw.grown_set w.heap.size 0 (.slice A2 n2 c2)) (by intro q hq;cases hq;exact ak.not (by decide))).grown (Rw.grown_set w.heap.size 1 (.slice XA2 xn2 xc2)) (by intro q hq;cases hq;exact (ak.set 0 (.slice A2 n2 c2)).not (by decide))
 have ee:Below w.heap.size w ((w2.setCell ⟨w.heap.size,0,none⟩ (.slice A2 n2 c2)).setCell ⟨w.heap.size,1,none⟩ (.slice XA2 xn2 xc2)) :=
  ((jl.out.trans (dk.mono jl.out.size)).setCell (p:=⟨w.heap.size,0,none⟩) (Zb _) _).setCell (p:=⟨w.heap.size,1,none⟩) (Zb _) _
 have nf:((w2.setCell ⟨w.heap.size,0,none⟩ (.slice A2 n2 c2)).setCell ⟨w.heap.size,1,none⟩ (.slice XA2 xn2 xc2)).heap.size=w2.heap.size:=by rw[ZJ,ZJ]
 obtain⟨w3,ka⟩:∃w3,(w2.setCell ⟨w.heap.size,0,none⟩ (.slice A2 n2 c2)).setCell ⟨w.heap.size,1,none⟩ (.slice XA2 xn2 xc2)=w3:=⟨_,rfl⟩
 rw[ka]at e5 kl kb jw kd ee nf
 have mb:=Za ka
 have x0:=e5.cell 0 rfl
 have x1:=e5.cell 1 rfl
 have ou:=e5.lt
 have nr:=dk.size
 have bc:Below w3.heap.size w3 (w3.alloc (.cells #[.slice none 0 0,.slice XA2 xn2 xc2] 31)):=(Zd _ _).alloc (Zb _) _
 have aa:=Rw.At.new w3 31 [.slice none 0 0,.slice XA2 xn2 xc2]
 obtain⟨w4,fm⟩:∃w4,w3.alloc (.cells #[.slice none 0 0,.slice XA2 xn2 xc2] 31)=w4:=⟨_,rfl⟩
 have aa:Rw.At w4 w3.heap.size 31 [.slice none 0 0,.slice XA2 xn2 xc2]:=by rw[←fm];exact aa
 rw[fm]at bc
 have k5:w4.heap.size=w3.heap.size+1:=by rw[←fm];simp
 have mg:=Za fm
 have er:=e5.below bc
 have t0:=er.cell 0 rfl
 have qd:=er.lt
 have ov:=Za (kl.below bc)
 have oq:=Za aa
 have o5:=Za (own_below kb bc (Zb _))
 have nj:=Za (own_below jw bc (Zb _))
 have o1:=Za (kd.below bc)
 have n5:=Za (ee.trans (bc.mono ee.size))
 have gi:=Za eg
 have gx:=Za cx
 have h9:=Za h7
 have l4:=Za cp
 have jv:=Za k0
 have jd:Hid (wa.heap.size=w.heap.size+2∧w.heap.size+2≤mid∧mid≤w3.heap.size∧w4.heap.size=w3.heap.size+1):=Za ⟨by omega,by omega,by omega,k5⟩
 clear eg cx b6 dr b9 k0 ak ap e5 kl kb jw kd ee nf ka bc aa fm k5 er h7 cp gu fz dk iq nr z0 z1 gg
 go_upto_region 2 with (fail)
 rw[mb.out]
 clear y0 y1 y2 y3
 go_upto_region 3 with (fail)
 rw[mg.out]
 clear x0 x1
 have di:Md.chk [] (Md.xs E)=0:=rfl
 have gz:=Za di
 clear di kr o3 ou hh e8 mb mg
 go_wp2_with fail
 clear t0
 go_loopw [19] (fun i wr=>∃(k:Nat) (To:List Rw.Row) (adso:List (Option Addr × Nat)) (vo:Value),k≤n2∧i=.int .i64 k∧Md.RI (w.heap.size+1) w3.heap.size wa.heap.size mid w4.heap.size A2 n2 c2 XA2 xn2 xc2 T ads E k wr To adso vo∧Below w.heap.size w wr∧w4.heap.size≤wr.heap.size) (fun i _=>n2-(intOf i).toNat)
 case atStart=>exact⟨0,[],[],.slice none 0 0,Zz _,rfl,⟨ov.out,oq.out,o5.out,fun j r a _ h1 h2=>o1.out j r a h1 h2,nj.out,⟨rfl,fun i r a h=>absurd h (by simp)⟩,ZG _ _ _ _,fun i r a h=>absurd h (by simp),fun r hr=>absurd hr (by simp),fun a ha=>absurd ha (by simp),gz.out,Zz _⟩,n5.out,Zb _⟩
 case round =>
  obtain⟨k,To,adso,vo,hk,rfl,cw,eo,pp⟩:=hrel
  have jm:=Za cw
  have jo:n2≤20:=by rw[←h9.out];exact oo.out
  have cr:=Za eo
  by_cases hlt:k<n2
  · obtain⟨r,hr⟩:∃r,T[k]?=some r:=⟨_,Zc (by rw[h9.out];exact hlt)⟩
    obtain⟨a,ha⟩:∃a,ads[k]?=some a:=⟨_,Zc (by rw[gi.out];exact hlt)⟩
    have fo:(Rw.flI T ads).length=n2*3:=by rw[Rw.flI_len _ _ (by rw[gi.out,h9.out]),h9.out]
    obtain⟨b,o,rfl,hb,bq⟩:=(Sl.of_own cw.rows) (by rw[fo];omega)
    obtain⟨g0,g1,g2⟩:=Rw.flI_get T ads k r a hr ha
    have c0:=bq (k*3) (by rw[fo];omega)
    have c1:=bq (k*3+1) (by rw[fo];omega)
    have iu:=bq (k*3+2) (by rw[fo];omega)
    rw[g0]at c0
    rw[g1,←Yh]at c1
    rw[g2,←Yh]at iu
    have e7:=ol.out r (Zk hr)
    have ej:=cw.maps k r a (Zb _) hr ha
    have cz:=gx.out k r a hr ha
    obtain⟨rc,rk,rm⟩:=r
    obtain⟨aA,ac⟩:=a
    dsimp only at c0 c1 iu e7 ej cz
    obtain⟨ml,jt⟩:∃ml,rm.length=ml:=⟨_,rfl⟩
    rw[jt]at iu e7 cz
    have ey:=Za jt
    have HR:=Za hr
    have HA:=Za ha
    have qf:(k:Int)<n2:=by omega
    have p6:(0:Int)≤k:=by omega
    have bc:Below wr.heap.size wr (wr.alloc (.cells #[.int .i64 rc,.int .i64 rk,.slice aA ml ac] 43)):=(Zd _ _).alloc (Zb _) _
    have aj:=Rw.At.new wr 43 [.int .i64 rc,.int .i64 rk,.slice aA ml ac]
    obtain⟨w5,ic⟩:∃w5,wr.alloc (.cells #[.int .i64 rc,.int .i64 rk,.slice aA ml ac] 43)=w5:=⟨_,rfl⟩
    have ao:Rw.At w5 wr.heap.size 43 [.int .i64 rc,.int .i64 rk,.slice aA ml ac]:=by rw[←ic];exact aj
    rw[ic]at bc
    have mn:=Za ic
    have pg:=Za bc
    have ks:=Za ao
    have ju:=Za ej
    have q0:=ao.cell 0 rfl
    have q1:=ao.cell 1 rfl
    have q2:=ao.cell 2 rfl
    have f0:=ao.frozen 0
    have f1:=ao.frozen 1
    have f2:=ao.frozen 2
    have nl:=ao.lt
    have mf:=Ch.K_bd rc
    have hK:=Ch.char_any rc w5
    obtain⟨kc,jn⟩:∃kc,Ch.K rc=kc:=⟨_,rfl⟩
    rw[jn]at hK mf
    have HK:=Za hK
    have pv:=Za jn
    have ek:IntKind.i64.wrap kc=kc:=by rw[Z1];omega
    have nu:=Md.and_8 rk
    obtain⟨cl,lc⟩:∃cl,rk%256%255=cl:=⟨_,rfl⟩
    have kx:0≤cl∧cl≤254:=by omega
    have jq:(rk%256).tmod 255=cl:=by rw[Int.tmod_eq_emod_of_nonneg (by omega)];exact lc
    have jb:IntKind.i64.wrap cl=cl:=by rw[Z1];omega
    clear cw eo fo bq g0 g1 g2 ej jt hr ha bc aj ao ic hK jn hb lc
    go_upto_region 6 with (fail)
    rw[mn.out]
    clear c0 c1 iu
    go_wp2_with fail
    refine HK.out.mono ?_
    rintro e w6 ⟨rfl,rfl⟩
    go_upto_region 8 with (fail)
    obtain⟨w8,h8⟩:∃w8,(w5.setCell ⟨wr.heap.size,0,none⟩ (.int .i64 kc)).setCell ⟨wr.heap.size,1,none⟩ (.int .i64 cl)=w8:=⟨_,rfl⟩
    have b1:Rw.At w8 wr.heap.size 43 [.int .i64 kc,.int .i64 cl,.slice aA ml ac]:=by rw[←h8];exact (ks.out.set 0 (.int .i64 kc)).set 1 (.int .i64 cl)
    have lh:Below wr.heap.size wr w8:=by rw[←h8];exact (pg.out.setCell (p:=⟨wr.heap.size,0,none⟩) (Zb _) _).setCell (p:=⟨wr.heap.size,1,none⟩) (Zb _) _
    rw[h8]
    have fh:=Za b1
    have k3:=Za lh
    have q2:=b1.cell 2 rfl
    have f2:=b1.frozen 2
    have np:=b1.lt
    clear b1 lh h8 q0 q1 f0 f1 nl ek nu jq jb mn
    go_upto_if 36 with (fail)
    go_cut [] (fun wx=>Rw.At wx wr.heap.size 43 [.int .i64 kc,.int .i64 cl,.slice aA (min ml 2) ac]∧Below wr.heap.size wr wx)
    case first =>
     by_cases h2:2<ml
     · have nw:(2:Int)<ml:=by omega
       have pu:(2:Int)≤ac:=by omega
       have b2:min ml 2=2:=by omega
       have dw:=Za b2
       clear b2
       go_wp2_with fail
       go_meet
       rw[dw.out]
       exact⟨fh.out.set 2 _,k3.out.setCell (p:=⟨wr.heap.size,2,none⟩) (Zb _) _⟩
     · have nw:¬(2:Int)<ml:=by omega
       have b2:min ml 2=ml:=by omega
       have dw:=Za b2
       clear b2
       go_wp2_with fail
       go_meet
       rw[dw.out]
       exact⟨fh.out,k3.out⟩
    case rest =>
     obtain⟨bz,ih⟩:=hcut
     obtain⟨wx,rfl⟩:∃wx:World,wx=wc:=⟨_,rfl⟩
     obtain⟨m2,kp⟩:∃m2,min ml 2=m2:=⟨_,rfl⟩
     rw[kp]at bz
     have j7:m2≤2:=by omega
     have ot:m2≤ml:=by omega
     have pw:=Za kp
     have jh:=Za bz
     have j1:=Za ih
     have ec:=ju.out.below ih
     have j8:=Za ec
     have oz:=Za (jm.out.below ih)
     obtain⟨row,df,dv,dp⟩:∃row:Option Nat,(m2=0→row=none)∧(∀p,row=some p→(∃cs z,wx.heap[p]?=some (.cells cs 3 z))∧∃q,aA=some q∧q.block=p)∧(0<m2→∃bk ok,aA=some ⟨bk,ok,none⟩∧row=some bk):=by
      by_cases h0:m2=0
      · exact⟨none,fun _=>rfl,fun p hp=>absurd hp (by simp),fun h=>absurd h (by omega)⟩
      · obtain⟨bk,ok,cs,hA,hc,_⟩:=ec (by rw[Zf,ey.out];omega)
        refine⟨some bk,fun h=>absurd h h0,fun p hp=>?_,fun _=>⟨bk,ok,hA,rfl⟩⟩
        cases hp
        exact⟨⟨cs,_,hc⟩,_,hA,rfl⟩
     have na:=Za df
     have dt:=Za dv
     have fp:=Za dp
     have x2:=bz.cell 2 rfl
     have pr:=bz.lt
     clear bz ih ec kp df dv dp q2 f2 np
     go_wp2_with fail
     clear x2
     go_loopw [44] (fun i wq=>∃q:Nat,q≤m2∧i=.int .i64 q∧Rw.At wq wr.heap.size 43 [.int .i64 kc,.int .i64 cl,.slice aA m2 ac]∧Slt wq 3 aA (((rm.take q).map Ch.K++rm.drop q).map (Value.int .i64))∧wx.grownBy wq row) (fun i _=>m2-(intOf i).toNat)
     case atStart=>exact⟨0,Nat.zero_le _,rfl,jh.out,by simpa using j8.out,Rw.grown_bel (Below.refl _ _)⟩
     case round =>
      obtain⟨q,hq,rfl,bj,bi,e0⟩:=hrel
      obtain⟨wq,rfl⟩:∃wq:World,wq=wr:=⟨_,rfl⟩
      have cg:=Za bj
      have kk:=Za bi
      have o0:=Za e0
      have q2:=bj.cell 2 rfl
      have py:=bj.lt
      by_cases hltq:q<m2
      · obtain⟨y,hy⟩:∃y,rm[q]?=some y:=⟨_,Zc (by rw[ey.out];omega)⟩
        obtain⟨bk,ok,hA,lm⟩:=fp.out (by omega)
        subst hA
        have hlen:(((rm.take q).map Ch.K++rm.drop q).map (Value.int .i64)).length=ml:=by
         rw[Zf,Zi,Zf,Zm,ZL,ey.out];omega
        obtain⟨b',o',fw,nc,bq⟩:=bi.sl (by rw[hlen];omega)
        simp only[Zg,YE]at fw
        obtain⟨rfl,rfl,_⟩:=fw
        have cy:=bq q (by rw[hlen];omega)
        rw[Md.upto_get Ch.K hy]at cy
        have fy:=bi.frozen (by rw[hlen];omega) (ok+q)
        have kh:=bi.set (i:=q) (by rw[hlen];omega) (.int .i64 (Ch.K y))
        rw[Md.upto_set Ch.K hy]at kh
        have l5:=Za kh
        obtain⟨ky,kq⟩:∃ky,Ch.K y=ky:=⟨_,rfl⟩
        have lu:=Ch.K_bd y
        rw[kq]at lu l5
        have pj:Hid (∀W,Calls Tryz.prog 47 #[.int .i64 y] W fun e w'=>e=.returned (.int .i32 ky)∧W=w'):=Za fun W=>by rw[←kq];exact Ch.char_any y W
        have p9:IntKind.i64.wrap ky=ky:=by rw[Z1];omega
        have qb:(q:Int)<m2:=by omega
        have pz:(0:Int)≤q:=by omega
        have pq:q<m2:=hltq
        have o9:=Za lm
        clear bj bi e0 hy hlen bq kh kq lu lm
        have hne:wr.heap.size≠bk:=fun e=>by
         obtain⟨b',o',cs,fw,nc,_⟩:=kk.out (by rw[Zf,Zi,Zf,Zm,ZL,ey.out];omega)
         simp only[Zg,YE]at fw
         obtain⟨rfl,rfl,_⟩:=fw
         subst e
         exact cg.out.not (by decide) _ _ nc
        have l7:=Rw.grown_trans o0.out (by rw[o9.out];exact Rw.grown_set bk (ok+q) (.int .i64 ky))
        have aa:=cg.out.other (i:=ok+q) hne (.int .i64 ky)
        have o2:=Za (Md.grown_drew l7)
        have kf:=Za aa
        clear hne l7 aa
        go_upto_region 13 with (fail)
        go_region_law
         (first
           | (refine step_quiet _ (by rfl) 47 _ _ (by rfl) (C.enter Tryz.func47 (by kernel_rfl) rfl) (.int .i64 y) (by rfl) _ (pj.out _) ?_)
           | fail)
        all_goals go_wp2_with fail
        all_goals exact⟨⟨q+1,by omega,by go_num,kf.out,l5.out,o2.out⟩,by simp[intOf];omega⟩
      · obtain rfl:m2=q:=by omega
        have b8:=oz.out.grown e0 HA.out jv.out dt.out
        have l8:Below w.heap.size w wq:=(cr.out.trans (j1.out.mono cr.out.size)).trans (Rw.below_grown e0 (Zh cr.out.size j1.out.size) fun p hp=>by
         obtain⟨_,y,hy,qe⟩:=dt.out p hp
         have h1:=(jv.out.2 (aA,ac) (Zk HA.out) y hy).1
         have h2:=jd.out
         omega)
        have jg:w4.heap.size≤wq.heap.size:=by
         have h1:=j1.out.size
         have h2:=e0.size
         omega
        have iv:=bi.take m2
        rw[←List.map_take,List.take_append_of_le_length (by rw[Zf,Zm,ey.out];omega),Zj (by rw[Zf,Zm];omega)]at iv
        have bs:((rm.take m2).map Ch.K).length=m2:=by rw[Zf,Zm,ey.out];omega
        have ei:∀c∈(rm.take m2).map Ch.K,-2147483648≤c∧c≤2147483647:=fun c hc=>by
         obtain⟨y,_,rfl⟩:=List.mem_map.1 hc
         exact Ch.K_bd y
        obtain⟨mp,lp⟩:∃mp,(rm.take m2).map Ch.K=mp:=⟨_,rfl⟩
        rw[lp]at iv bs ei
        have bb:=Za b8
        have gp:=Za l8
        have ly:=Za iv
        have aw:=Za bs
        have jf:=Za ei
        have z1:=bj.cell 1 rfl
        have z2:=bj.cell 2 rfl
        clear b8 l8 iv bs ei lp bj bi e0 q2 hltq
        obtain⟨gb,lq⟩:∃gb,decide (cl=0∧m2=0)=gb:=⟨_,rfl⟩
        have ib:=Za lq
        clear lq
        go_upto_region 15 with (fail)
        go_cut [67] (fun s wx=>s=.bool gb∧wx=wq)
        case first =>
         rcases h1:(cl == 0) with _|_
         · have cc:gb=false:=by
            rw[←ib.out]
            have a1:¬cl=0:=by simpa using h1
            simp[a1]
           subst cc
           go_wp2_with fail
           go_meet
           exact⟨rfl,rfl⟩
         · rcases h2:((m2:Int) == 0) with _|_
           · have cc:gb=false:=by
              rw[←ib.out]
              have a1:¬(m2:Int)=0:=by simpa using h2
              have a2:¬m2=0:=by omega
              simp[a2]
             subst cc
             go_wp2_with fail
             go_meet
             exact⟨rfl,rfl⟩
           · have cc:gb=true:=by
              rw[←ib.out]
              have a1:cl=0:=by simpa using h1
              have a2:(m2:Int)=0:=by simpa using h2
              have a3:m2=0:=by omega
              simp[a1,a3]
             subst cc
             go_wp2_with fail
             go_meet
             exact⟨rfl,rfl⟩
        case rest =>
         obtain⟨rfl,rfl⟩:=hcut
         obtain⟨wq,rfl⟩:∃wq:World,wq=wc:=⟨_,rfl⟩
         rcases gb with _|_
         · obtain⟨Ao,co,rfl⟩:=own_form bb.out.out
           obtain⟨on,ed⟩:∃on,To.length=on:=⟨_,rfl⟩
           have b7:=bb.out
           have aa:=b7.a3
           rw[ed]at aa
           have y1:=aa.cell 1 rfl
           have mi:=aa.lt
           have bc:Below wq.heap.size wq (wq.alloc (.cells #[.slice none 0 0,.slice XA2 xn2 xc2] 31)):=(Zd _ _).alloc (Zb _) _
           have hl:=Rw.At.new wq 31 [.slice none 0 0,.slice XA2 xn2 xc2]
           obtain⟨wn,iz⟩:∃wn,wq.alloc (.cells #[.slice none 0 0,.slice XA2 xn2 xc2] 31)=wn:=⟨_,rfl⟩
           have du:Rw.At wn wq.heap.size 31 [.slice none 0 0,.slice XA2 xn2 xc2]:=by rw[←iz];exact hl
           rw[iz]at bc
           have c8:Md.rok (kc,cl,mp):=by
            refine⟨mf,kx,by show mp.length≤2;rw[aw.out];exact j7,jf.out,fun h0 pc=>?_⟩
            have h1:decide (cl=0∧m2=0)=false:=ib.out
            rw[ZX]at h1
            apply h1
            refine⟨h0,?_⟩
            have:=aw.out
            rw[show mp=[] from pc]at this
            simpa using this.symm
           have dc:Md.under [(aA,ac)] (ads.drop (k+1)):=fun x hx p hp y hy q hq=>by
            rw[Zy]at hx
            subst hx
            obtain⟨l1,l2⟩:=List.getElem?_eq_some_iff.1 HA.out
            obtain⟨j,hj,k9⟩:=Xf hy
            rw[List.getElem_drop]at k9
            rw[ZL]at hj
            have:=List.pairwise_iff_getElem.1 jv.out.1 k (k+1+j) l1 (by omega) (by omega) p q (by rw[l2];exact hp) (by rw[k9];exact hq)
            omega
           have fu:=Za c8
           have c6:=Za dc
           have bo:=Za ed
           have nz:=Za iz
           have fc:=Za bc
           have jy:Hid (Md.NX wq.heap.size (.slice XA2 xn2 xc2) (ads.drop (k+1)) wn [] [] (.slice none 0 0)):=Za ⟨du,⟨rfl,fun i r a h=>absurd h (by simp)⟩,ZG _ _ _ _,fun i r a h=>absurd h (by simp),fun r hr=>absurd hr (by simp),fun a ha=>absurd ha (by simp)⟩
           have nv:=bc.size
           clear b7 aa ed bc hl du iz c8 dc z1 z2
           go_upto_region 17 with (fail)
           rw[nz.out]
           clear y1
           have aa:=(bb.out.below fc.out).a3
           rw[bo.out]at aa
           have y0:=aa.cell 0 rfl
           have mi:=aa.lt
           clear aa
           go_wp2_with fail
           clear y0
           have od:on≤20:=by have h1:=bb.out.len;rw[bo.out]at h1;omega
           go_loopw [8,74] (fun v8 i ws=>∃(j:Nat) (d:Bool) (N:List Rw.Row) (nads:List (Option Addr × Nat)) (vn:Value),j≤on∧i=.int .i64 j∧v8=.bool d∧Md.NX wq.heap.size (.slice XA2 xn2 xc2) (ads.drop (k+1)) ws N nads vn∧N.length≤j+(if d=true then 1 else 0)∧Below wq.heap.size wq ws) (fun _ i _=>on-(intOf i).toNat)
           case atStart=>exact⟨0,false,[],[],.slice none 0 0,Zz _,rfl,rfl,jy.out,Zz _,fc.out⟩
           case round =>
            obtain⟨j,d,N,nads,vn,hj,rfl,rfl,fq,iy,dm⟩:=hrel
            obtain⟨ws,rfl⟩:∃ws:World,ws=wr:=⟨_,rfl⟩
            have e3:=Za fq
            have ij:=Za iy
            have j5:=Za dm
            by_cases hltj:j<on
            · have bf:=bb.out.below dm
              obtain⟨q,hq⟩:∃q,To[j]?=some q:=⟨_,Zc (by rw[bo.out];exact hltj)⟩
              obtain⟨qa,h4⟩:∃qa,adso[j]?=some qa:=⟨_,Zc (by rw[bf.lens.1,bo.out];exact hltj)⟩
              have b5:=bf.out
              have bx:(Rw.flI To adso).length=on*3:=by rw[Rw.flI_len _ _ bf.lens.1,bo.out]
              rw[bo.out]at b5
              obtain⟨b4,o4,rfl,ko,bq⟩:=(Sl.of_own b5) (by rw[bx];omega)
              obtain⟨g0,g1,g2⟩:=Rw.flI_get To adso j q qa hq h4
              have c0:=bq (j*3) (by rw[bx];omega)
              have c1:=bq (j*3+1) (by rw[bx];omega)
              have c2:=bq (j*3+2) (by rw[bx];omega)
              rw[g0]at c0
              rw[g1,←Yh]at c1
              rw[g2,←Yh]at c2
              have jr:=bf.mo j q qa hq h4
              have il:=bf.lens.2 j q qa hq h4
              have j2:=bf.rok q (Zk hq)
              have ld:Md.under [qa] (ads.drop (k+1)):=fun x hx p hp y hy z hz=>by
               rw[Zy]at hx
               subst hx
               exact bf.und x (Zk h4) p hp y hy z hz
              obtain⟨qc,qk,qm⟩:=q
              obtain⟨qA,ae⟩:=qa
              dsimp only at c0 c1 c2 jr il
              obtain⟨ql,ku⟩:∃ql,qm.length=ql:=⟨_,rfl⟩
              rw[ku]at c2 il
              have nh:=j2.1
              dsimp only at nh
              have ik:=Za ku
              have k8:=Za j2
              have lb:=Za ld
              have px:(j:Int)<on:=by omega
              have o7:(0:Int)≤j:=by omega
              have gv:Below ws.heap.size ws (ws.alloc (.cells #[.int .i64 qc,.int .i64 qk,.slice qA ql ae] 43)):=(Zd _ _).alloc (Zb _) _
              have fk:=Rw.At.new ws 43 [.int .i64 qc,.int .i64 qk,.slice qA ql ae]
              obtain⟨wv,i1⟩:∃wv,ws.alloc (.cells #[.int .i64 qc,.int .i64 qk,.slice qA ql ae] 43)=wv:=⟨_,rfl⟩
              have ax:Rw.At wv ws.heap.size 43 [.int .i64 qc,.int .i64 qk,.slice qA ql ae]:=by rw[←i1];exact fk
              rw[i1]at gv
              have cm:=dm.trans (gv.mono dm.size)
              have n8:=Za i1
              have jz:=Za ax
              have k6:=Za (jr.below gv)
              have kg:=Za (ly.out.below cm)
              have bg:=Za (fq.below gv)
              have cj:=Za cm
              have aj:=cg.out.below cm
              have mh:=Za aj
              have r0:=aj.cell 0 rfl
              have r1:=aj.cell 1 rfl
              have r2:=aj.cell 2 rfl
              have rl:=aj.lt
              have p0:=ax.cell 0 rfl
              have p1:=ax.cell 1 rfl
              have p2:=ax.cell 2 rfl
              have pl:=ax.lt
              have gh:Hid (∀q,vn.ownBlock=some q→q<ws.heap.size):=Za fun q hq=>(fq.own.lt q hq).2
              have h5:N.length≤30:=by have:=iy;split at this <;> omega
              clear bf hq h4 b5 bx bq g0 g1 g2 jr j2 ld ku gv fk ax i1 cm aj fq dm
              obtain⟨fj,h3⟩:∃g,(!d&&decide (kc<qc))=g:=⟨_,rfl⟩
              have cu:=Za h3
              clear h3
              go_upto_region 21 with (fail)
              rw[n8.out]
              clear c0 c1 c2
              go_cut [86] (fun s wx=>s=.bool fj∧wx=wv)
              case first =>
               cases d
               · by_cases hkq:kc<qc
                 · have cc:fj=true:=by rw[←cu.out];simp[hkq]
                   subst cc
                   go_wp2_with fail
                   go_meet
                   exact⟨rfl,rfl⟩
                 · have cc:fj=false:=by rw[←cu.out];simp[hkq]
                   subst cc
                   go_wp2_with fail
                   go_meet
                   exact⟨rfl,rfl⟩
               · have cc:fj=false:=by rw[←cu.out];rfl
                 subst cc
                 go_wp2_with fail
                 go_meet
                 exact⟨rfl,rfl⟩
              case rest =>
               obtain⟨rfl,rfl⟩:=hcut
               obtain⟨wv,rfl⟩:∃wv:World,wv=wc:=⟨_,rfl⟩
               rcases fj with _|_
               · obtain⟨og,o8,rfl⟩:=own_form bg.out.own
                 obtain⟨im,et⟩:∃nn,N.length=nn:=⟨_,rfl⟩
                 have ba:=bg.out.tab
                 have ay:=bg.out.own.alloc (.cells #[.int .i64 qc,.int .i64 qk,.slice qA ql ae] 43)
                 rw[et]at ba ay
                 have p7:=ba.cell 0 rfl
                 have p4:=ba.lt
                 have hg:wq.heap.size+1≤(wv.alloc (.cells #[.int .i64 qc,.int .i64 qk,.slice qA ql ae] 43)).heap.size:=by simp;omega
                 have e6:=Za (Sl.lit (w:=wv.alloc (.cells #[.int .i64 qc,.int .i64 qk,.slice qA ql ae] 43)) (A:=some ⟨wv.heap.size,0,none⟩) (xs:=[.int .i64 qc,.int .i64 qk,.slice qA ql ae]) rfl 43 (0,0) (ZT wv _))
                 have ki:=Za (Rw.own_ne ay wq.heap.size (ZR _))
                 have ef:=Za ay
                 have dx:=Za (ba.alloc (.cells #[.int .i64 qc,.int .i64 qk,.slice qA ql ae] 43))
                 have eb:=Za et
                 have li:im≤40:=by omega
                 clear ba ay et
                 go_wp2_with (first|(at_builtin;refine wpList_appendSl _ rfl _ _ _ rfl (wq.heap.size+1) 43 j0 _ 3 40 Tryz.underlying28 hj0 iw ia h6 rfl (by omega) (.slice og im o8) im _ rfl ef.out _ (some ⟨wv.heap.size,0,none⟩) 1 1 [.int .i64 qc,.int .i64 qk,.slice qA ql ae] rfl rfl e6.out (by simp[Value.oneCell']) (by simp only[maxLen];omega) (by omega) hg ?_;intro v1 oa bw kv bu;have ag:=dx.out.grown bu ki.out;have u0:=ag.cell 0 rfl;have ig:=ag.frozen 0;have ir:=ag.lt;obtain⟨pd,om,rfl⟩:=own_form bw)|fail)
                 have mv:=bw
                 rw[←ik.out,←eb.out]at mv
                 have dn:=bg.out.push (r:=(qc,qk,qm)) (a:=(qA,ae)) k6.out (by show _≤_;rw[ik.out];exact il) k8.out lb.out mv (by rw[eb.out];exact bu)
                 rw[eb.out]at dn
                 have je:Below wq.heap.size wq ((oa).setCell ⟨wq.heap.size,0,none⟩ (.slice pd (im+1) om)):=((cj.out.alloc cj.out.size (.cells #[.int .i64 qc,.int .i64 qk,.slice qA ql ae] 43)).trans (kv.mono (ZW _))).setCell (p:=⟨wq.heap.size,0,none⟩) (Zb _) _
                 exact⟨⟨j+1,d,_,_,_,by omega,by go_num,rfl,dn,by simp only[Zi,Yq];have:=ij.out;omega,je⟩,by simp[intOf];omega⟩
               · have oh:d=false:=by
                  have h:=cu.out
                  cases d
                  · rfl
                  · exact absurd h (by simp)
                 subst oh
                 obtain⟨kz,j9,rfl⟩:=own_form bg.out.own
                 obtain⟨bp,bl⟩:∃nn,N.length=nn:=⟨_,rfl⟩
                 have ah:=bg.out.tab
                 have af:=bg.out.own.alloc (.cells #[.int .i64 kc,.int .i64 cl,.slice aA m2 ac] 43)
                 rw[bl]at ah af
                 have l9:=ah.cell 0 rfl
                 have mz:=ah.lt
                 have cb:wq.heap.size+1≤(wv.alloc (.cells #[.int .i64 kc,.int .i64 cl,.slice aA m2 ac] 43)).heap.size:=by simp;omega
                 have b3:=Za (Sl.lit (w:=wv.alloc (.cells #[.int .i64 kc,.int .i64 cl,.slice aA m2 ac] 43)) (A:=some ⟨wv.heap.size,0,none⟩) (xs:=[.int .i64 kc,.int .i64 cl,.slice aA m2 ac]) rfl 43 (0,0) (ZT wv _))
                 have ea:=Za (Rw.own_ne af wq.heap.size (ZR _))
                 have a6:=Za af
                 have bm:=Za (ah.alloc (.cells #[.int .i64 kc,.int .i64 cl,.slice aA m2 ac] 43))
                 have bh:=Za bl
                 have e9:bp≤40:=by omega
                 clear ah af bl
                 go_upto_region 24 with (first|(at_builtin;refine wpList_appendSl _ rfl _ _ _ rfl (wq.heap.size+1) 43 j0 _ 3 40 Tryz.underlying28 hj0 iw ia h6 rfl (by omega) (.slice kz bp j9) bp _ rfl a6.out _ (some ⟨wv.heap.size,0,none⟩) 1 1 [.int .i64 kc,.int .i64 cl,.slice aA m2 ac] rfl rfl b3.out (by simp[Value.oneCell']) (by simp only[maxLen];omega) (by omega) cb ?_;intro v1 jx aq ch ai;have ag:=bm.out.grown ai ea.out;have u0:=ag.cell 0 rfl;have ig:=ag.frozen 0;have ir:=ag.lt;obtain⟨e2,e4,rfl⟩:=own_form aq)|fail)
                 have e1:=aq
                 rw[←aw.out,←bh.out]at e1
                 have ar:=bg.out.push (r:=(kc,cl,mp)) (a:=(aA,ac)) kg.out (by show _≤_;rw[aw.out];exact (by omega)) fu.out c6.out e1 (by rw[bh.out];exact ai)
                 rw[bh.out]at ar
                 have kj:Below wq.heap.size wq (jx.setCell ⟨wq.heap.size,0,none⟩ (.slice e2 (bp+1) e4)):=((cj.out.alloc cj.out.size (.cells #[.int .i64 kc,.int .i64 cl,.slice aA m2 ac] 43)).trans (ch.mono (ZW _))).setCell (p:=⟨wq.heap.size,0,none⟩) (Zb _) _
                 have au:=((jz.out.alloc (.cells #[.int .i64 kc,.int .i64 cl,.slice aA m2 ac] 43)).grown ai (fun e=>Nat.lt_irrefl _ (gh.out _ (by rw[bh.out];exact e)))).other (b':=wq.heap.size) (i:=0) (by have:=j5.out.size;have:=e3.out.tab.lt;omega) (.slice e2 (bp+1) e4)
                 have dz:=(((k6.out.below ((Zd _ _).alloc (Zb _) (.cells #[.int .i64 kc,.int .i64 cl,.slice aA m2 ac] 43))).grown ai (Rw.own_not a6.out (by decide))).grown (Rw.grown_set wq.heap.size 0 (.slice e2 (bp+1) e4)) (by intro q hq;cases hq;exact ag.not (by decide)))
                 obtain⟨wy,j3⟩:∃wy,jx.setCell ⟨wq.heap.size,0,none⟩ (.slice e2 (bp+1) e4)=wy:=⟨_,rfl⟩
                 rw[j3]at ar kj au dz
                 obtain⟨vy,ng⟩:∃v,Value.slice e2 (bp+1) e4=v:=⟨_,rfl⟩
                 rw[ng]at ar
                 clear ng
                 rw[j3]
                 have ct:=Za ar
                 have mq:=Za kj
                 have kn:=Za dz
                 have p0:=au.cell 0 rfl
                 have p1:=au.cell 1 rfl
                 have p2:=au.cell 2 rfl
                 have pl:=au.lt
                 clear ar kj au dz j3 e1 aq ch ai ag u0 ig ir r0 r1 r2 rl l9 mz
                 obtain⟨o6,po,rfl⟩:=own_form ct.out.own
                 obtain⟨ix,cq⟩:∃nn,(N++[(kc,cl,mp)]).length=nn:=⟨_,rfl⟩
                 have a8:=ct.out.tab
                 have az:=ct.out.own.alloc (.cells #[.int .i64 qc,.int .i64 qk,.slice qA ql ae] 43)
                 rw[cq]at a8 az
                 have p5:=a8.cell 0 rfl
                 have p8:=a8.lt
                 have gy:wq.heap.size+1≤(wy.alloc (.cells #[.int .i64 qc,.int .i64 qk,.slice qA ql ae] 43)).heap.size:=by simp;omega
                 have fe:=Za (Sl.lit (w:=wy.alloc (.cells #[.int .i64 qc,.int .i64 qk,.slice qA ql ae] 43)) (A:=some ⟨wy.heap.size,0,none⟩) (xs:=[.int .i64 qc,.int .i64 qk,.slice qA ql ae]) rfl 43 (0,0) (ZT wy _))
                 have kw:=Za (Rw.own_ne az wq.heap.size (ZR _))
                 have ep:=Za az
                 have eu:=Za (a8.alloc (.cells #[.int .i64 qc,.int .i64 qk,.slice qA ql ae] 43))
                 have dy:=Za cq
                 have mj:ix≤40:=by rw[←cq,Zi,Yq];omega
                 clear a8 az cq
                 go_wp2_with (first|(at_builtin;refine wpList_appendSl _ rfl _ _ _ rfl (wq.heap.size+1) 43 j0 _ 3 40 Tryz.underlying28 hj0 iw ia h6 rfl (by omega) (.slice o6 ix po) ix _ rfl ep.out _ (some ⟨wy.heap.size,0,none⟩) 1 1 [.int .i64 qc,.int .i64 qk,.slice qA ql ae] rfl rfl fe.out (by simp[Value.oneCell']) (by simp only[maxLen];omega) (by omega) gy ?_;intro v1 ow bt i7 br;have ag:=eu.out.grown br kw.out;have u0:=ag.cell 0 rfl;have ig:=ag.frozen 0;have ir:=ag.lt;obtain⟨ox,ny,rfl⟩:=own_form bt)|fail)
                 have lx:=bt
                 rw[←ik.out,←dy.out]at lx
                 have cv:=ct.out.push (r:=(qc,qk,qm)) (a:=(qA,ae)) kn.out (by show _≤_;rw[ik.out];exact il) k8.out lb.out lx (by rw[dy.out];exact br)
                 rw[dy.out]at cv
                 have ja:Below wq.heap.size wq ((ow).setCell ⟨wq.heap.size,0,none⟩ (.slice ox (ix+1) ny)):=((mq.out.alloc mq.out.size (.cells #[.int .i64 qc,.int .i64 qk,.slice qA ql ae] 43)).trans (i7.mono (ZW _))).setCell (p:=⟨wq.heap.size,0,none⟩) (Zb _) _
                 exact⟨⟨j+1,true,_,_,_,by omega,by go_num,rfl,cv,by simp only[Zi,Yq];have h1:=ij.out;simp at h1 ⊢;omega,ja⟩,by simp[intOf];omega⟩
            · obtain rfl:on=j:=by omega
              have lf:=j5
              have aj:=cg.out.below dm
              have r0:=aj.cell 0 rfl
              have r1:=aj.cell 1 rfl
              have r2:=aj.cell 2 rfl
              have rl:=aj.lt
              have kg:=Za (ly.out.below dm)
              have h5:N.length≤30:=by have:=iy;split at this <;> omega
              clear fq iy dm aj hltj
              go_upto_if 101 with (fail)
              go_cut [] (fun wx=>∃(N':List Rw.Row) (cd:List (Option Addr × Nat)) (l3:Value),Md.NX wq.heap.size (.slice XA2 xn2 xc2) (ads.drop (k+1)) wx N' cd l3∧N'.length≤on+1∧Below wq.heap.size wq wx)
              case first =>
               cases d
               · have ph:N.length≤on:=by have h1:=ij.out;simpa using h1
                 obtain⟨kz,j9,rfl⟩:=own_form e3.out.own
                 obtain⟨bp,bl⟩:∃nn,N.length=nn:=⟨_,rfl⟩
                 have ah:=e3.out.tab
                 have af:=e3.out.own.alloc (.cells #[.int .i64 kc,.int .i64 cl,.slice aA m2 ac] 43)
                 rw[bl]at ah af
                 have l9:=ah.cell 0 rfl
                 have mz:=ah.lt
                 have cb:wq.heap.size+1≤(ws.alloc (.cells #[.int .i64 kc,.int .i64 cl,.slice aA m2 ac] 43)).heap.size:=by simp;omega
                 have b3:=Za (Sl.lit (w:=ws.alloc (.cells #[.int .i64 kc,.int .i64 cl,.slice aA m2 ac] 43)) (A:=some ⟨ws.heap.size,0,none⟩) (xs:=[.int .i64 kc,.int .i64 cl,.slice aA m2 ac]) rfl 43 (0,0) (ZT ws _))
                 have ea:=Za (Rw.own_ne af wq.heap.size (ZR _))
                 have a6:=Za af
                 have bm:=Za (ah.alloc (.cells #[.int .i64 kc,.int .i64 cl,.slice aA m2 ac] 43))
                 have bh:=Za bl
                 have e9:bp≤40:=by omega
                 clear ah af bl
                 go_wp2_with (first|(at_builtin;refine wpList_appendSl _ rfl _ _ _ rfl (wq.heap.size+1) 43 j0 _ 3 40 Tryz.underlying28 hj0 iw ia h6 rfl (by omega) (.slice kz bp j9) bp _ rfl a6.out _ (some ⟨ws.heap.size,0,none⟩) 1 1 [.int .i64 kc,.int .i64 cl,.slice aA m2 ac] rfl rfl b3.out (by simp[Value.oneCell']) (by simp only[maxLen];omega) (by omega) cb ?_;intro v1 jx aq ch ai;have ag:=bm.out.grown ai ea.out;have u0:=ag.cell 0 rfl;have ig:=ag.frozen 0;have ir:=ag.lt;obtain⟨e2,e4,rfl⟩:=own_form aq)|fail)
                 have e1:=aq
                 rw[←aw.out,←bh.out]at e1
                 have ar:=e3.out.push (r:=(kc,cl,mp)) (a:=(aA,ac)) kg.out (by show _≤_;rw[aw.out];exact (by omega)) fu.out c6.out e1 (by rw[bh.out];exact ai)
                 rw[bh.out]at ar
                 go_meet
                 exact⟨_,_,_,ar,by rw[Zi,Yq];omega,(((lf.out.alloc lf.out.size (.cells #[.int .i64 kc,.int .i64 cl,.slice aA m2 ac] 43)).trans (ch.mono (ZW _))).setCell (p:=⟨wq.heap.size,0,none⟩) (Zb _) _)⟩
               · go_wp2_with fail
                 go_meet
                 exact⟨N,nads,vn,e3.out,by have h1:=ij.out;simpa using h1,j5.out⟩
              case rest =>
               obtain⟨N',cd,l3,a7,kt,eh⟩:=hcut
               obtain⟨my,rfl⟩:∃w':World,w'=wc:=⟨_,rfl⟩
               obtain⟨An,cn,rfl⟩:=own_form a7.own
               have lj:=bb.out.below eh
               have l6:=Sl.of_own lj.excl
               have gw:Md.Doc my (Md.tv An N'.length cn XA2 E.length xc2) N' E:=⟨An,cn,XA2,xc2,rfl,Rw.seesI_mk a7.lens.1 (Slt.of_own a7.own) a7.mo,l6⟩
               have dh:=Md.own_cap a7.own
               have mm:N'.length≤100000:=by omega
               have dk:E.length≤1000000:=Zh lz.out (by decide)
               have av:=a7.rok
               have ee:Md.bd N':=fun r hr=>⟨(av r hr).1,(av r hr).2.2.2.1⟩
               have ko:∀r∈N',r.2.2.length≤1000:=fun r hr=>Zh (av r hr).2.2.1 (by decide)
               have k4:∀r∈N',-9223372036854775808≤r.2.1∧r.2.1≤9223372036854775807:=fun r hr=>⟨Xn (by decide) (av r hr).2.1.1,Xn (av r hr).2.1.2 (by decide)⟩
               have bn:=Md.rcheck_any _ N' E my mm dk ee ko k4 gw (Md.tv_cap dh)
               clear l6 mm dk av ee ko k4
               unfold Md.tv at bn
               rw[l4.out]at bn
               obtain⟨ck,i6⟩:∃ck,Md.chk N' (Md.xs E)=ck:=⟨_,rfl⟩
               rw[i6]at bn
               obtain⟨nn,km⟩:∃nn,N'.length=nn:=⟨_,rfl⟩
               have cf:=a7.tab
               rw[km]at bn cf kt
               have t0:=cf.cell 0 rfl
               have t1:=cf.cell 1 rfl
               have tl:=cf.lt
               have j4:=Za bn
               have gm:=Za a7
               have en:=Za eh
               have ob:=Za i6
               have jc:=Za km
               clear a7 eh lj gw dh bn i6 km cf
               go_wp2_with fail
               refine j4.out.mono ?_
               rintro e w9 ⟨rfl,fg⟩
               have ji:=(bb.out.below en.out).below fg
               have gf:=gm.out.below fg
               rw[jc.out]at gf
               have ll:=Za ji
               have oy:=Za (gm.out.below fg)
               have ie:=Za (en.out.trans (fg.mono en.out.size))
               have t0:=gf.tab.cell 0 rfl
               have t1:=gf.tab.cell 1 rfl
               have tl:=gf.tab.lt
               have ew:=ji.a3
               have s0:=ew.cell 0 rfl
               have s1:=ew.cell 1 rfl
               have g0:=ew.frozen 0
               have g1:=ew.frozen 1
               have gl:=ew.lt
               clear ji gf fg ew
               by_cases hck0:ck=0
               · subst hck0
                 have ft:Md.note 0=⟨#[]⟩:=rfl
                 rw[ft]
                 go_wp2_with fail
                 have gq:k+1≤n2:=hlt
                 have pn:=jd.out
                 have kr:=jm.out.len
                 rw[bo.out]at kr
                 have b8:=Md.RI.take ll.out oy.out ob.out (by rw[jc.out];omega) (by omega) (by omega)
                 rw[jc.out]at b8
                 have js:=gp.out.trans (ie.out.mono gp.out.size)
                 have oc:=ie.out.size
                 refine⟨⟨k+1,N',cd,.slice An nn cn,gq,?_,b8,?_,?_⟩,?_⟩
                 · go_num
                 · exact (js.setCell (p:=⟨w3.heap.size,0,none⟩) (by show w.heap.size≤w3.heap.size;omega) _).setCell (p:=⟨w3.heap.size,1,none⟩) (by show w.heap.size≤w3.heap.size;omega) _
                 · rw[ZJ,ZJ];omega
                 · simp[intOf];omega
               · have j6:=Md.note_ne hck0
                 have ke:¬Md.note ck=⟨#[]⟩:=fun e=>by
                  rw[e]at j6
                  revert j6
                  decide +kernel
                 obtain⟨nt,lg⟩:∃nt,Md.note ck=nt:=⟨_,rfl⟩
                 rw[lg]at j6 ke ⊢
                 clear lg hck0
                 go_wp2_with fail
                 have gq:k+1≤n2:=hlt
                 have js:=gp.out.trans (ie.out.mono gp.out.size)
                 have oc:=ie.out.size
                 refine⟨⟨k+1,To,adso,_,gq,?_,ll.out,js,by omega⟩,?_⟩
                 · go_num
                 · simp[intOf];omega
         · go_wp2_with fail
           have gq:k+1≤n2:=hlt
           refine⟨⟨k+1,To,adso,vo,gq,?_,bb.out,gp.out,jg⟩,?_⟩
           · go_num
           · simp[intOf];omega
  · obtain rfl:n2=k:=by omega
    obtain⟨wz,rfl⟩:∃wz:World,wz=wr:=⟨_,rfl⟩
    obtain⟨Ao,co,rfl⟩:=own_form cw.out
    obtain⟨on,ed⟩:∃on,To.length=on:=⟨_,rfl⟩
    have aa:=cw.a3
    have ap:=cw.a2
    rw[ed]at aa
    have pn:=jd.out
    have y0:=aa.cell 0 rfl
    have y1:=aa.cell 1 rfl
    have x0:=ap.cell 0 rfl
    have x1:=ap.cell 1 rfl
    have f0:=ap.frozen 0
    have f1:=ap.frozen 1
    have p3:=ap.lt
    have mi:=aa.lt
    have bo:=Za ed
    have dl:=Za ap
    clear ap aa ed cw eo hlt hk
    go_wp2_with fail
    have k1:=dl.out.set 0 (.slice Ao on co)
    have k2:=k1.set 1 (.slice XA2 xn2 xc2)
    have b7:=jm.out
    rw[bo.out]at b7
    have gj:∀q,some (w.heap.size+1)=some q→∀cs z,wz.heap[q]?≠some (.cells cs 3 z):=fun q hq=>by cases hq;exact dl.out.not (by decide)
    have fx:∀q,some (w.heap.size+1)=some q→∀cs z,(wz.setCell ⟨w.heap.size+1,0,none⟩ (.slice Ao on co)).heap[q]?≠some (.cells cs 3 z):=fun q hq=>by cases hq;exact k1.not (by decide)
    have ho:=Rw.own_grown (Rw.own_grown b7.out (by omega) (Rw.grown_set (w.heap.size+1) 0 (.slice Ao on co))) (by omega) (Rw.grown_set (w.heap.size+1) 1 (.slice XA2 xn2 xc2))
    have hx:=Rw.own_grown (Rw.own_grown b7.excl (by omega) (Rw.grown_set (w.heap.size+1) 0 (.slice Ao on co))) (by omega) (Rw.grown_set (w.heap.size+1) 1 (.slice XA2 xn2 xc2))
    have hm:=(b7.mo.grown (Rw.grown_set (w.heap.size+1) 0 (.slice Ao on co)) gj).grown (Rw.grown_set (w.heap.size+1) 1 (.slice XA2 xn2 xc2)) fx
    refine Yy (Rw.results1 rfl _ _ (w.heap.size+1) _ _ _ _ rfl k2 Tryz.underlying31 rfl (by kernel_rfl)) rfl ⟨_,To,E,rfl,⟨Ao,co,XA2,xc2,?_,Rw.seesI_mk b7.lens.1 ?_ hm,Sl.of_own hx⟩,?_,Zh b7.len jo,lz.out,b7.rok,ni.out,b7.chk,?_⟩
    · rw[bo.out,l4.out];rfl
    · rw[bo.out]at ho
      exact Slt.of_own ho
    · intro A' n' c' A7 n7 c7 he
      simp only[Xs,XK,Yc,ZV,YG]at he
      obtain⟨⟨rfl,rfl,rfl⟩,rfl,rfl,rfl⟩:=he
      rw[bo.out]at ho
      exact⟨Md.own_cap ho,Md.own_cap hx⟩
    · exact (cr.out.setCell (p:=⟨w.heap.size+1,0,none⟩) (ZW _) _).setCell (p:=⟨w.heap.size+1,1,none⟩) (ZW _) _
end Go.Proofs.YtbeakahjbkdeiaaGreatDoor
