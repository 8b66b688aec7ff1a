/- The law's Right: a table that may be, of any one: by walking its text. -/
import Derived.Test.YtikiplbhlohmdaaGreatDoorMdRef6
set_option linter.unusedVariables false
set_option linter.unusedSimpArgs false
namespace Go.Proofs.YtikiplbhlohmdaaGreatDoor
open Go.RowKit
def Md.rok (r:Rw.Row):Prop:=(-2147483648≤r.1∧r.1≤2147483647)∧(0≤r.2.1∧r.2.1≤254)∧r.2.2.length≤2∧(∀c∈r.2.2,-2147483648≤c∧c≤2147483647)∧(r.2.1=0→r.2.2≠[])
def Md.under (ads rest:List (Option Addr × Nat)):Prop:=∀a∈ads,∀p,a.1=some p→∀a'∈rest,∀q,a'.1=some q→p.block<q.block
def Md.RetRight (w:World) (e:Ending) (w':World):Prop :=
 ∃v T E,e=.returned v∧Md.Doc w' v T E∧(∀A n c A' n' c',v=.agg #[.slice A n c,.slice A' n' c']→n≤c∧n'≤c')∧T.length≤20∧E.length≤30∧(∀r∈T,Md.rok r)∧(∀c∈E,C.isC c=true)∧Md.chk T (Md.xs E)=0∧Below w.heap.size w w'
theorem Slt.grownA {w w':World} {t:TypeId} {A:Option Addr} {xs:List Value} {row:Option Nat} (h:Slt w t A xs) (hg:w.grownBy w' row) (hr:∀p,A=some p→row≠some p.block):Slt w' t A xs:=by
 intro hx
 obtain⟨b,o,cs,hA,hb,hc⟩:=h hx
 exact⟨b,o,cs,hA,(hg.block b (heap_lt hb) fun e=>hr _ hA e.symm).trans hb,hc⟩
theorem Slt.take {w:World} {t:TypeId} {A:Option Addr} {xs:List Value} (h:Slt w t A xs) (n:Nat):Slt w t A (xs.take n):=by
 intro hx
 rw[Zq]at hx
 obtain⟨b,o,cs,hA,hb,hc⟩:=h (by omega)
 refine⟨b,o,cs,hA,hb,fun i hi=>?_⟩
 rw[Zq]at hi
 rw[hc i (by omega),YG,Zp (by omega)]
theorem Slt.set {w:World} {t:TypeId} {b o i:Nat} {xs:List Value} (h:Slt w t (some ⟨b,o,none⟩) xs) (hi:i<xs.length) (v:Value):Slt (w.setCell ⟨b,o+i,none⟩ v) t (some ⟨b,o,none⟩) (xs.set i v):=by
 intro _
 obtain⟨b',o',cs,hA,hb,hc⟩:=h (by omega)
 simp only[Zi,YO]at hA
 obtain⟨rfl,rfl,_⟩:=hA
 have aa:=heap_lt hb
 refine⟨b,o,cs.setIfInBounds (o+i) v,rfl,?_,fun j hj=>?_⟩
 · show (w.heap.modify b _)[b]?=_
   have hk:=(Array.getElem?_eq_some_iff.1 hb).2
   rw[Xk (by rw[Array.size_modify];exact aa),Array.getElem_modify_self,hk]
   simp
 · rw[Xl]at hj
   have hs:o+i<cs.size:=by
    have:=hc i hi
    rw[Zc hi]at this
    exact (Array.getElem?_eq_some_iff.1 this).1
   rw[Array.getElem?_setIfInBounds,List.getElem?_set]
   by_cases e:i=j
   · subst e
     rw[Zp rfl,Zp rfl,Zp hs,Zp hi]
   · rw[Zl (by omega),Zl e,hc j hj]
structure Md.RI (b2 b3 lo mid B4:Nat) (A2:Option Addr) (n2 c2:Nat) (XA2:Option Addr) (xn2 xc2:Nat) (T:List Rw.Row) (ads:List (Option Addr × Nat)) (E:List Int) (k:Nat) (wr:World) (To:List Rw.Row) (adso:List (Option Addr × Nat)) (vo:Value):Prop where
 a2:Rw.At wr b2 25 [.slice none 0 0,.slice none 0 0]
 a3:Rw.At wr b3 25 [vo,.slice XA2 xn2 xc2]
 rows:wr.ownsRow lo 61 3 (.slice A2 n2 c2) n2 (Rw.flI T ads)
 maps:∀(j:Nat) (r:Rw.Row) (a:Option Addr × Nat),k≤j→T[j]?=some r→ads[j]?=some a→Slt wr 3 a.1 (r.2.2.map (Value.int .i64))
 excl:wr.ownsRow mid 3 1 (.slice XA2 xn2 xc2) xn2 (E.map (Value.int .i64))
 lens:adso.length=To.length∧Md.caps To adso
 out:wr.ownsRow B4 61 3 vo To.length (Rw.flI To adso)
 mo:Rw.MapsI wr To adso
 rok:∀r∈To,Md.rok r
 und:Md.under adso (ads.drop k)
 chk:Md.chk To (Md.xs E)=0
 len:To.length≤k
section
variable {b2 b3 lo mid B4 n2 c2 xn2 xc2 k:Nat} {A2 XA2:Option Addr} {T To:List Rw.Row} {ads adso:List (Option Addr × Nat)} {E:List Int} {wr w':World} {vo:Value}
theorem Md.RI.below (h:Md.RI b2 b3 lo mid B4 A2 n2 c2 XA2 xn2 xc2 T ads E k wr To adso vo) (hb:Below wr.heap.size wr w'):Md.RI b2 b3 lo mid B4 A2 n2 c2 XA2 xn2 xc2 T ads E k w' To adso vo :=
 ⟨h.a2.below hb,h.a3.below hb,own_below h.rows hb (Zb _),fun j r a h1 h2 h3=>(h.maps j r a h1 h2 h3).below hb,own_below h.excl hb (Zb _),h.lens,own_below h.out hb (Zb _),h.mo.below hb,h.rok,h.und,h.chk,h.len⟩
theorem Md.RI.grown (h:Md.RI b2 b3 lo mid B4 A2 n2 c2 XA2 xn2 xc2 T ads E k wr To adso vo) {row:Option Nat} (hg:wr.grownBy w' row) {a:Option Addr × Nat} (ha:ads[k]?=some a) (ag:Md.apart lo mid ads)
 (aa:∀p,row=some p→(∃cs z,wr.heap[p]?=some (.cells cs 3 z))∧∃q,a.1=some q∧q.block=p):Md.RI b2 b3 lo mid B4 A2 n2 c2 XA2 xn2 xc2 T ads E (k+1) w' To adso vo:=by
 have hk:k<ads.length:=(List.getElem?_eq_some_iff.1 ha).1
 have ae:ads.drop k=a::ads.drop (k+1):=by
  obtain⟨h1,h2⟩:=List.getElem?_eq_some_iff.1 ha
  rw[ZV h1,h2]
 have hne:∀(b:Nat) (t:TypeId) cs z,wr.heap[b]?=some (.cells cs t z)→t≠3→row≠some b:=fun b t cs z hb ht e=>by
  obtain⟨⟨cs',z',hc⟩,_⟩:=aa b e
  rw[hb]at hc
  simp only[Zi,XD]at hc
  exact ht hc.2.1
 have af:∀{base n:Nat} {v:Value} {xs:List Value},wr.ownsRow base 61 3 v n xs→w'.ownsRow base 61 3 v n xs:=fun {base n v xs} ho=>by
  refine ho.kept hg ?_
  rcases ho.2 with ⟨rfl,_⟩|⟨g,cap,aj,rfl,_,ai,_⟩
  · exact .inl rfl
  · exact .inr fun e=>hne g _ _ _ ai (by decide) e.symm
 refine⟨h.a2.grown hg (hne _ _ _ _ h.a2 (by decide)),h.a3.grown hg (hne _ _ _ _ h.a3 (by decide)),af h.rows,fun j r a' h1 h2 h3=>?_,?_,h.lens,af h.out,fun i r a' h1 h2=>?_,h.rok,?_,h.chk,Nat.le_succ_of_le h.len⟩
 · refine (h.maps j r a' (by omega) h2 h3).grownA hg fun p hp e=>?_
   obtain⟨_,q,hq,ah⟩:=aa _ e
   obtain⟨l1,l2⟩:=List.getElem?_eq_some_iff.1 h3
   obtain⟨l3,l4⟩:=List.getElem?_eq_some_iff.1 ha
   have:=List.pairwise_iff_getElem.1 ag.1 k j l3 l1 (by omega) q p (by rw[l4];exact hq) (by rw[l2];exact hp)
   omega
 · refine h.excl.kept hg ?_
   rcases hv:(Value.slice XA2 xn2 xc2).ownBlock with _|g
   · exact .inl rfl
   · refine .inr fun e=>?_
     obtain⟨_,q,hq,ah⟩:=aa g e.symm
     have h1:=(h.excl.lt g hv).1
     have h2:=(ag.2 a (Zk ha) q hq).2
     omega
 · refine (h.mo i r a' h1 h2).grownA hg fun p hp e=>?_
   obtain⟨_,q,hq,ah⟩:=aa _ e
   have:=h.und a' (Zk h2) p hp a (by rw[ae];exact Zv) q hq
   omega
 · intro x hx p hp y hy q hq
   exact h.und x hx p hp y (by rw[ae];exact Zx _ hy) q hq
end
theorem Md.upto_get (f:Int→Int) {l:List Int} {q:Nat} {y:Int} (hy:l[q]?=some y):(((l.take q).map f++l.drop q).map (Value.int .i64))[q]?=some (.int .i64 y):=by
 obtain⟨h1,h2⟩:=List.getElem?_eq_some_iff.1 hy
 have hl:((l.take q).map f).length=q:=by rw[Zg,Zq];omega
 rw[Zu,ZL (by omega),hl,Yv,Xf,YW,hy]
 rfl
theorem Md.upto_set (f:Int→Int) {l:List Int} {q:Nat} {y:Int} (hy:l[q]?=some y):(((l.take q).map f++l.drop q).map (Value.int .i64)).set q (.int .i64 (f y))=((l.take (q+1)).map f++l.drop (q+1)).map (Value.int .i64):=by
 obtain⟨h1,h2⟩:=List.getElem?_eq_some_iff.1 hy
 have hl:(((l.take q).map f).map (Value.int .i64)).length=q:=by rw[Zg,Zg,Zq];omega
 rw[ZM,YC _ _ (by omega),hl,Yv,ZV h1,h2,ZT,ZD,Zw,hy]
 simp
structure Md.NX (b7:Nat) (x:Value) (rest:List (Option Addr × Nat)) (ws:World) (N:List Rw.Row) (nads:List (Option Addr × Nat)) (vn:Value):Prop where
 tab:Rw.At ws b7 25 [vn,x]
 lens:nads.length=N.length∧Md.caps N nads
 own:ws.ownsRow (b7+1) 61 3 vn N.length (Rw.flI N nads)
 mo:Rw.MapsI ws N nads
 rok:∀r∈N,Md.rok r
 und:Md.under nads rest
theorem Md.NX.below {b7:Nat} {x vn:Value} {rest nads:List (Option Addr × Nat)} {ws w':World} {N:List Rw.Row} (h:Md.NX b7 x rest ws N nads vn) (hb:Below ws.heap.size ws w'):Md.NX b7 x rest w' N nads vn :=
 ⟨h.tab.below hb,h.lens,own_below h.own hb (Zb _),h.mo.below hb,h.rok,h.und⟩
theorem Md.NX.push {b7:Nat} {x vn v6:Value} {rest nads:List (Option Addr × Nat)} {ws w6:World} {N:List Rw.Row} (h:Md.NX b7 x rest ws N nads vn) {r:Rw.Row} {a:Option Addr × Nat} (hs:Slt ws 3 a.1 (r.2.2.map (Value.int .i64))) (hc:r.2.2.length≤a.2) (hr:Md.rok r) (hu:Md.under [a] rest)
 (ag:(w6.ownsRow (b7+1) 61 3 v6 (N.length+1) (Rw.flI N nads++[.int .i64 r.1,.int .i64 r.2.1,.slice a.1 r.2.2.length a.2]))) {o:Obj} (hg:(ws.alloc o).grownBy w6 vn.ownBlock) :
 Md.NX b7 x rest (w6.setCell ⟨b7,0,none⟩ v6) (N++[r]) (nads++[a]) v6:=by
 have hb:Below ws.heap.size ws (ws.alloc o):=(Zd _ _).alloc (Zb _) _
 have aa:=own_below h.own hb (Zb _)
 have ae:=(h.tab.below hb).grown hg (Rw.own_ne h.own b7 (ZS _))
 have ai:=(h.mo.below hb).grown hg (Rw.own_not aa (by decide))
 have ah:=(hs.below hb).grown hg (Rw.own_not aa (by decide))
 have af:∀q,some b7=some q→∀cs z,w6.heap[q]?≠some (.cells cs 3 z):=fun q hq=>by
  cases hq
  exact ae.not (by decide)
 refine⟨ae.set 0 v6,⟨by simp[h.lens.1],h.lens.2.app h.lens.1 hc⟩,?_,(ai.grown (Rw.grown_set b7 0 v6) af).app h.lens.1 (ah.grown (Rw.grown_set b7 0 v6) af),fun q hq=>?_,fun q hq=>?_⟩
 · rw[Ze,Yu,Rw.flI_app _ _ _ _ h.lens.1]
   exact Rw.own_grown ag (ZS _) (Rw.grown_set b7 0 v6)
 · rcases List.mem_append.1 hq with hq|hq
   · exact h.rok q hq
   · rw[List.mem_singleton.1 hq];exact hr
 · rcases List.mem_append.1 hq with hq|hq
   · exact h.und q hq
   · exact hu q hq
theorem Md.RI.take {b2 b3 b7 lo mid B4 n2 c2 xn2 xc2 k:Nat} {A2 XA2:Option Addr} {T To N:List Rw.Row} {ads adso nads:List (Option Addr × Nat)} {E:List Int} {wx:World} {vo vn:Value}
 (h:Md.RI b2 b3 lo mid B4 A2 n2 c2 XA2 xn2 xc2 T ads E k wx To adso vo) (nx:Md.NX b7 (.slice XA2 xn2 xc2) (ads.drop k) wx N nads vn) (hc:Md.chk N (Md.xs E)=0) (hl:N.length≤k) (hB:B4≤b7+1) (hne:b2≠b3) :
 Md.RI b2 b3 lo mid B4 A2 n2 c2 XA2 xn2 xc2 T ads E k ((wx.setCell ⟨b3,0,none⟩ vn).setCell ⟨b3,1,none⟩ (.slice XA2 xn2 xc2)) N nads vn:=by
 have k1:=h.a3.set 0 vn
 have ag:∀q,some b3=some q→∀cs z,wx.heap[q]?≠some (.cells cs 3 z):=fun q hq=>by cases hq;exact h.a3.not (by decide)
 have af:∀q,some b3=some q→∀cs z,(wx.setCell ⟨b3,0,none⟩ vn).heap[q]?≠some (.cells cs 3 z):=fun q hq=>by cases hq;exact k1.not (by decide)
 have aa:∀{base n size:Nat} {e:TypeId} {v:Value} {xs:List Value},e≠25→wx.ownsRow base e size v n xs→((wx.setCell ⟨b3,0,none⟩ vn).setCell ⟨b3,1,none⟩ (.slice XA2 xn2 xc2)).ownsRow base e size v n xs:=fun {base n size e v xs} he ho=>by
  have h1:=ho.kept (Rw.grown_set b3 0 vn) (.inr fun e'=>Rw.own_not ho he _ e' _ _ h.a3)
  exact h1.kept (Rw.grown_set b3 1 _) (.inr fun e'=>Rw.own_not h1 he _ e' _ _ k1)
 have ae:∀{A:Option Addr} {xs:List Value},Slt wx 3 A xs→Slt ((wx.setCell ⟨b3,0,none⟩ vn).setCell ⟨b3,1,none⟩ (.slice XA2 xn2 xc2)) 3 A xs:=fun {A xs} hs =>
  (hs.grown (Rw.grown_set b3 0 vn) ag).grown (Rw.grown_set b3 1 _) af
 refine⟨(h.a2.other hne _).other hne _,k1.set 1 _,aa (by decide) h.rows,fun j r a h1 h2 h3=>ae (h.maps j r a h1 h2 h3),aa (by decide) h.excl,nx.lens,own_base (aa (by decide) nx.own) hB,fun i r a h1 h2=>ae (nx.mo i r a h1 h2),nx.rok,nx.und,hc,hl⟩
theorem Md.note_ne {k:Nat} (h:k≠0):(Md.note k).toList.isEmpty=false:=by
 have g1:(Md.note 1).toList.isEmpty=false:=by kernel_rfl
 have g2:(Md.note 2).toList.isEmpty=false:=by kernel_rfl
 have g3:(Md.note 3).toList.isEmpty=false:=by kernel_rfl
 have g4:(Md.note 4).toList.isEmpty=false:=by kernel_rfl
 have g5:(Md.note 5).toList.isEmpty=false:=by kernel_rfl
 match k,h with
 | 1,_=>exact g1
 | 2,_=>exact g2
 | 3,_=>exact g3
 | 4,_=>exact g4
 | _+5,_=>exact g5
theorem Md.tv_cap {A XA:Option Addr} {m c xn xc:Nat} (h:m≤c):∀A' n' c' x',Md.tv A m c XA xn xc=.agg #[.slice A' n' c',x']→n'≤c':=by
 intro A' n' c' x' he
 unfold Md.tv at he
 simp only[XE,XY,Yd,Z3,YH]at he
 obtain⟨⟨rfl,rfl,rfl⟩,_⟩:=he
 exact h
theorem Md.grown_drew {w w':World} {row:Option Nat} (h:w.grownBy w' row):w.grownBy w'.drew row:=⟨h.os,h.tape,h.output,h.size,h.block⟩
theorem Md.and_8 (n:Int):bits .and .i64 n 255=n%256:=by
 have hm:(BitVec.ofInt 64 255).toNat=2 ^ 8-1:=by decide
 have key:(BitVec.ofInt 64 n &&& BitVec.ofInt 64 255).toNat=(n%((2 ^ 64:Nat):Int)).toNat%2 ^ 8:=by
  rw[BitVec.toNat_and,XU,hm,YK]
 show IntKind.i64.wrap ((BitVec.ofInt 64 n &&& BitVec.ofInt 64 255).toNat:Nat)=n%256
 rw[key,Z0]
 omega
set_option maxRecDepth 100000 in
set_option maxHeartbeats 4000000 in
theorem Md.right_any (A XA:Option Addr) (n c xn xc:Nat) (T0:List Rw.Row) (E0:List Int) (w:World) (hn:T0.length=n) (hxn:E0.length=xn) (hnb:n≤maxLen) (hxb:xn≤maxLen) (hbd:∀r∈T0,Rw.bounds r) (h2:Rw.SeesI w A T0) (hX:Sl w w.heap.size XA (E0.map (Value.int .i64))) :
 Calls Tryz.prog 47 #[.agg #[.slice A n c,.slice XA xn xc]] w (Md.RetRight w):=by
 obtain⟨j0,hj0,ih,iy,ir⟩:=Z7 infoRowI
 obtain⟨T,hT⟩:∃T,Md.fewT T0=T:=⟨_,rfl⟩
 obtain⟨E,hE⟩:∃E,Md.fewE E0=E:=⟨_,rfl⟩
 have mg:T.length≤20:=by rw[←hT];unfold Md.fewT;simp;omega
 have l7:E.length≤30:=by rw[←hE];unfold Md.fewE;simp;omega
 have ld:∀c∈E,C.isC c=true:=fun c hc=>by
  rw[←hE]at hc
  unfold Md.fewE at hc
  obtain⟨x,_,rfl⟩:=List.mem_map.1 hc
  exact Ch.K_is x
 have k8:∀r∈T,r.2.2.length≤4:=fun r hr=>by
  rw[←hT]at hr
  unfold Md.fewT at hr
  obtain⟨q,_,rfl⟩:=List.mem_map.1 hr
  unfold Md.fewR
  simp
  omega
 obtain⟨wa,e5⟩:∃wa,(w.alloc (.cells #[.slice A n c,.slice XA xn xc] 25)).alloc (.cells #[.slice none 0 0,.slice none 0 0] 25)=wa:=⟨_,rfl⟩
 have k4:Below w.heap.size w wa:=by rw[←e5];exact ((Zd _ _).alloc (Zb _) _).alloc (by simp) _
 have ak:Rw.At wa w.heap.size 25 [.slice A n c,.slice XA xn xc]:=by rw[←e5];exact (Rw.At.new w 25 [.slice A n c,.slice XA xn xc]).alloc _
 have aq:Rw.At wa (w.heap.size+1) 25 [.slice none 0 0,.slice none 0 0]:=by
  have:=Rw.At.new (w.alloc (.cells #[.slice A n c,.slice XA xn xc] 25)) 25 [.slice none 0 0,.slice none 0 0]
  rw[←e5]
  simpa using this
 have ik:wa.heap.size=w.heap.size+2:=by rw[←e5];simp
 have ph:=Za e5
 have jb:=Za k4
 have hh:=Za ak
 have fk:=Za aq
 have ny:=Za ik
 have gh:Hid (∀W,Below w.heap.size w W→Calls Tryz.prog 76 #[.agg #[.slice A n c,.slice XA xn xc]] W fun e w'=>∃v,e=.returned v∧Md.DocO w' v W.heap.size T E∧Below W.heap.size W w'):=Za fun W hW=>by
  rw[←hT,←hE]
  exact Md.few_any A XA n c xn xc T0 E0 W hn hxn hnb hxb (fun r hr=>(hbd r hr).2.2.1) (h2.below hW) (hX.below hW hW.size)
 have ow:=Za mg
 have lb:=Za l7
 have nh:=Za ld
 have pc:=Za k8
 have z0:=ak.cell 0 rfl
 have z1:=ak.cell 1 rfl
 have ji:=ak.lt
 clear hT hE e5 k4 ak aq ik mg l7 ld k8 hn hxn hnb hxb hbd h2 hX
 go_enter Tryz.func47,Tryz.ntmps47
 go_upto_region 1 with (fail)
 rw[ph.out]
 go_wp2_with fail
 refine (gh.out wa jb.out).mono ?_
 rintro e w2 ⟨v2,rfl,oo,c6⟩
 obtain⟨A2,c2,XA2,xc2,ads,rfl,⟨ee,dl⟩,bw,dm,mid,gy,e7,mi,cc⟩:=oo
 obtain⟨n2,il⟩:∃k,T.length=k:=⟨_,rfl⟩
 obtain⟨xn2,ct⟩:∃k,E.length=k:=⟨_,rfl⟩
 rw[il]at ee bw
 rw[ct]at cc
 rw[il,ct]
 unfold Md.tv
 have ak:=hh.out.below c6
 have aq:=fk.out.below c6
 have y0:=ak.cell 0 rfl
 have y1:=ak.cell 1 rfl
 have y2:=ak.frozen 0
 have y3:=ak.frozen 1
 have oz:=ak.lt
 have ik:=ny.out
 have ez:=(ak.set 0 (.slice A2 n2 c2)).set 1 (.slice XA2 xn2 xc2)
 have jc:=(aq.other (b':=w.heap.size) (i:=0) (by omega) (.slice A2 n2 c2)).other (b':=w.heap.size) (i:=1) (by omega) (.slice XA2 xn2 xc2)
 have kk:=Rw.own_grown (Rw.own_grown bw (by omega) (Rw.grown_set w.heap.size 0 (.slice A2 n2 c2))) (by omega) (Rw.grown_set w.heap.size 1 (.slice XA2 xn2 xc2))
 have jg:=Rw.own_grown (Rw.own_grown cc (by omega) (Rw.grown_set w.heap.size 0 (.slice A2 n2 c2))) (by omega) (Rw.grown_set w.heap.size 1 (.slice XA2 xn2 xc2))
 have jr:=(dm.grown (Rw.grown_set w.heap.size 0 (.slice A2 n2 c2)) (by intro q hq;cases hq;exact ak.not (by decide))).grown (Rw.grown_set w.heap.size 1 (.slice XA2 xn2 xc2)) (by intro q hq;cases hq;exact (ak.set 0 (.slice A2 n2 c2)).not (by decide))
 have eb:Below w.heap.size w ((w2.setCell ⟨w.heap.size,0,none⟩ (.slice A2 n2 c2)).setCell ⟨w.heap.size,1,none⟩ (.slice XA2 xn2 xc2)) :=
  ((jb.out.trans (c6.mono jb.out.size)).setCell (p:=⟨w.heap.size,0,none⟩) (Zb _) _).setCell (p:=⟨w.heap.size,1,none⟩) (Zb _) _
 have k5:((w2.setCell ⟨w.heap.size,0,none⟩ (.slice A2 n2 c2)).setCell ⟨w.heap.size,1,none⟩ (.slice XA2 xn2 xc2)).heap.size=w2.heap.size:=by rw[ZN,ZN]
 obtain⟨w3,i7⟩:∃w3,(w2.setCell ⟨w.heap.size,0,none⟩ (.slice A2 n2 c2)).setCell ⟨w.heap.size,1,none⟩ (.slice XA2 xn2 xc2)=w3:=⟨_,rfl⟩
 rw[i7]at ez jc kk jg jr eb k5
 have l4:=Za i7
 have x0:=ez.cell 0 rfl
 have x1:=ez.cell 1 rfl
 have o0:=ez.lt
 have nl:=c6.size
 have bh:Below w3.heap.size w3 (w3.alloc (.cells #[.slice none 0 0,.slice XA2 xn2 xc2] 25)):=(Zd _ _).alloc (Zb _) _
 have aa:=Rw.At.new w3 25 [.slice none 0 0,.slice XA2 xn2 xc2]
 obtain⟨w4,fc⟩:∃w4,w3.alloc (.cells #[.slice none 0 0,.slice XA2 xn2 xc2] 25)=w4:=⟨_,rfl⟩
 have aa:Rw.At w4 w3.heap.size 25 [.slice none 0 0,.slice XA2 xn2 xc2]:=by rw[←fc];exact aa
 rw[fc]at bh
 have l3:w4.heap.size=w3.heap.size+1:=by rw[←fc];simp
 have lf:=Za fc
 have dw:=ez.below bh
 have t0:=dw.cell 0 rfl
 have p7:=dw.lt
 have o9:=Za (jc.below bh)
 have nk:=Za aa
 have n9:=Za (own_below kk bh (Zb _))
 have nr:=Za (own_below jg bh (Zb _))
 have oa:=Za (jr.below bh)
 have o1:=Za (eb.trans (bh.mono eb.size))
 have fo:=Za ee
 have h3:=Za dl
 have ib:=Za il
 have ma:=Za ct
 have kl:=Za mi
 have kq:Hid (wa.heap.size=w.heap.size+2∧w.heap.size+2≤mid∧mid≤w3.heap.size∧w4.heap.size=w3.heap.size+1):=Za ⟨by omega,by omega,by omega,l3⟩
 clear ee dl bw dm cc mi ak aq ez jc kk jg jr eb k5 i7 bh aa fc l3 dw il ct gy e7 c6 ik nl z0 z1 gh
 go_upto_region 2 with (fail)
 rw[l4.out]
 clear y0 y1 y2 y3
 go_upto_region 3 with (fail)
 rw[lf.out]
 clear x0 x1
 have dv:Md.chk [] (Md.xs E)=0:=rfl
 have gx:=Za dv
 clear dv ji oz o0 hh fk l4 lf
 go_wp2_with fail
 clear t0
 go_loopw [19] (fun i wr=>∃(k:Nat) (To:List Rw.Row) (adso:List (Option Addr × Nat)) (vo:Value),k≤n2∧i=.int .i64 k∧Md.RI (w.heap.size+1) w3.heap.size wa.heap.size mid w4.heap.size A2 n2 c2 XA2 xn2 xc2 T ads E k wr To adso vo∧Below w.heap.size w wr∧w4.heap.size≤wr.heap.size) (fun i _=>n2-(intOf i).toNat)
 case atStart=>exact⟨0,[],[],.slice none 0 0,ZE _,rfl,⟨o9.out,nk.out,n9.out,fun j r a _ h1 h2=>oa.out j r a h1 h2,nr.out,⟨rfl,fun i r a h=>absurd h (by simp)⟩,ZC _ _ _ _,fun i r a h=>absurd h (by simp),fun r hr=>absurd hr (by simp),fun a ha=>absurd ha (by simp),gx.out,ZE _⟩,o1.out,Zb _⟩
 case round =>
  obtain⟨k,To,adso,vo,hk,rfl,du,ed,py⟩:=hrel
  have j8:=Za du
  have j7:n2≤20:=by rw[←ib.out];exact ow.out
  have cj:=Za ed
  by_cases hlt:k<n2
  · obtain⟨r,hr⟩:∃r,T[k]?=some r:=⟨_,Zc (by rw[ib.out];exact hlt)⟩
    obtain⟨a,ha⟩:∃a,ads[k]?=some a:=⟨_,Zc (by rw[fo.out];exact hlt)⟩
    have fj:(Rw.flI T ads).length=n2*3:=by rw[Rw.flI_len _ _ (by rw[fo.out,ib.out]),ib.out]
    obtain⟨b,o,rfl,hb,bo⟩:=(Sl.of_own du.rows) (by rw[fj];omega)
    obtain⟨g0,g1,g2⟩:=Rw.flI_get T ads k r a hr ha
    have c0:=bo (k*3) (by rw[fj];omega)
    have c1:=bo (k*3+1) (by rw[fj];omega)
    have iw:=bo (k*3+2) (by rw[fj];omega)
    rw[g0]at c0
    rw[g1,←Yi]at c1
    rw[g2,←Yi]at iw
    have fm:=pc.out r (Zk hr)
    have eh:=du.maps k r a (Zb _) hr ha
    have cz:=h3.out k r a hr ha
    obtain⟨rc,rk,rm⟩:=r
    obtain⟨aA,ac⟩:=a
    dsimp only at c0 c1 iw fm eh cz
    obtain⟨ml,km⟩:∃ml,rm.length=ml:=⟨_,rfl⟩
    rw[km]at iw fm cz
    have e3:=Za km
    have HR:=Za hr
    have HA:=Za ha
    have pw:(k:Int)<n2:=by omega
    have po:(0:Int)≤k:=by omega
    have bh:Below wr.heap.size wr (wr.alloc (.cells #[.int .i64 rc,.int .i64 rk,.slice aA ml ac] 61)):=(Zd _ _).alloc (Zb _) _
    have aj:=Rw.At.new wr 61 [.int .i64 rc,.int .i64 rk,.slice aA ml ac]
    obtain⟨w5,iq⟩:∃w5,wr.alloc (.cells #[.int .i64 rc,.int .i64 rk,.slice aA ml ac] 61)=w5:=⟨_,rfl⟩
    have ao:Rw.At w5 wr.heap.size 61 [.int .i64 rc,.int .i64 rk,.slice aA ml ac]:=by rw[←iq];exact aj
    rw[iq]at bh
    have nb:=Za iq
    have nu:=Za bh
    have kg:=Za ao
    have kj:=Za eh
    have q0:=ao.cell 0 rfl
    have q1:=ao.cell 1 rfl
    have q2:=ao.cell 2 rfl
    have f0:=ao.frozen 0
    have f1:=ao.frozen 1
    have f2:=ao.frozen 2
    have o7:=ao.lt
    have k3:=Ch.K_bd rc
    have hK:=Ch.char_any rc w5
    obtain⟨kc,hkc⟩:∃kc,Ch.K rc=kc:=⟨_,rfl⟩
    rw[hkc]at hK k3
    have HK:=Za hK
    have p9:=Za hkc
    have ek:IntKind.i64.wrap kc=kc:=by rw[Z0];omega
    have nw:=Md.and_8 rk
    obtain⟨cl,la⟩:∃cl,rk%256%255=cl:=⟨_,rfl⟩
    have i6:0≤cl∧cl≤254:=by omega
    have kt:(rk%256).tmod 255=cl:=by rw[Int.tmod_eq_emod_of_nonneg (by omega)];exact la
    have jf:IntKind.i64.wrap cl=cl:=by rw[Z0];omega
    clear du ed fj bo g0 g1 g2 eh km hr ha bh aj ao iq hK hkc hb la
    go_upto_region 6 with (fail)
    rw[nb.out]
    clear c0 c1 iw
    go_wp2_with fail
    refine HK.out.mono ?_
    rintro e w6 ⟨rfl,rfl⟩
    go_upto_region 8 with (fail)
    obtain⟨w8,ij⟩:∃w8,(w5.setCell ⟨wr.heap.size,0,none⟩ (.int .i64 kc)).setCell ⟨wr.heap.size,1,none⟩ (.int .i64 cl)=w8:=⟨_,rfl⟩
    have b1:Rw.At w8 wr.heap.size 61 [.int .i64 kc,.int .i64 cl,.slice aA ml ac]:=by rw[←ij];exact (kg.out.set 0 (.int .i64 kc)).set 1 (.int .i64 cl)
    have lm:Below wr.heap.size wr w8:=by rw[←ij];exact (nu.out.setCell (p:=⟨wr.heap.size,0,none⟩) (Zb _) _).setCell (p:=⟨wr.heap.size,1,none⟩) (Zb _) _
    rw[ij]
    have e9:=Za b1
    have li:=Za lm
    have q2:=b1.cell 2 rfl
    have f2:=b1.frozen 2
    have ob:=b1.lt
    clear b1 lm ij q0 q1 f0 f1 o7 ek nw kt jf nb
    go_upto_if 36 with (fail)
    go_cut [] (fun wx=>Rw.At wx wr.heap.size 61 [.int .i64 kc,.int .i64 cl,.slice aA (min ml 2) ac]∧Below wr.heap.size wr wx)
    case first =>
     by_cases h2:2<ml
     · have ox:(2:Int)<ml:=by omega
       have p6:(2:Int)≤ac:=by omega
       have bs:min ml 2=2:=by omega
       have dy:=Za bs
       clear bs
       go_wp2_with fail
       go_meet
       rw[dy.out]
       exact⟨e9.out.set 2 _,li.out.setCell (p:=⟨wr.heap.size,2,none⟩) (Zb _) _⟩
     · have ox:¬(2:Int)<ml:=by omega
       have bs:min ml 2=ml:=by omega
       have dy:=Za bs
       clear bs
       go_wp2_with fail
       go_meet
       rw[dy.out]
       exact⟨e9.out,li.out⟩
    case rest =>
     obtain⟨b5,h7⟩:=hcut
     obtain⟨wx,rfl⟩:∃wx:World,wx=wc:=⟨_,rfl⟩
     obtain⟨m2,kw⟩:∃m2,min ml 2=m2:=⟨_,rfl⟩
     rw[kw]at b5
     have jv:m2≤2:=by omega
     have ot:m2≤ml:=by omega
     have pv:=Za kw
     have ju:=Za b5
     have js:=Za h7
     have ec:=kj.out.below h7
     have kx:=Za ec
     have og:=Za (j8.out.below h7)
     obtain⟨row,c8,cx,dp⟩:∃row:Option Nat,(m2=0→row=none)∧(∀p,row=some p→(∃cs z,wx.heap[p]?=some (.cells cs 3 z))∧∃q,aA=some q∧q.block=p)∧(0<m2→∃bk ok,aA=some ⟨bk,ok,none⟩∧row=some bk):=by
      by_cases h0:m2=0
      · exact⟨none,fun _=>rfl,fun p hp=>absurd hp (by simp),fun h=>absurd h (by omega)⟩
      · obtain⟨bk,ok,cs,hA,hc,_⟩:=ec (by rw[Zg,e3.out];omega)
        refine⟨some bk,fun h=>absurd h h0,fun p hp=>?_,fun _=>⟨bk,ok,hA,rfl⟩⟩
        cases hp
        exact⟨⟨cs,_,hc⟩,_,hA,rfl⟩
     have l5:=Za c8
     have df:=Za cx
     have hg:=Za dp
     have x2:=b5.cell 2 rfl
     have qe:=b5.lt
     clear b5 h7 ec kw c8 cx dp q2 f2 ob
     go_wp2_with fail
     clear x2
     go_loopw [44] (fun i wq=>∃q:Nat,q≤m2∧i=.int .i64 q∧Rw.At wq wr.heap.size 61 [.int .i64 kc,.int .i64 cl,.slice aA m2 ac]∧Slt wq 3 aA (((rm.take q).map Ch.K++rm.drop q).map (Value.int .i64))∧wx.grownBy wq row) (fun i _=>m2-(intOf i).toNat)
     case atStart=>exact⟨0,Nat.zero_le _,rfl,ju.out,by simpa using kx.out,Rw.grown_bel (Below.refl _ _)⟩
     case round =>
      obtain⟨q,hq,rfl,bm,bi,e1⟩:=hrel
      obtain⟨wq,rfl⟩:∃wq:World,wq=wr:=⟨_,rfl⟩
      have cr:=Za bm
      have ko:=Za bi
      have o5:=Za e1
      have q2:=bm.cell 2 rfl
      have px:=bm.lt
      by_cases hltq:q<m2
      · obtain⟨y,hy⟩:∃y,rm[q]?=some y:=⟨_,Zc (by rw[e3.out];omega)⟩
        obtain⟨bk,ok,hA,my⟩:=hg.out (by omega)
        subst hA
        have hlen:(((rm.take q).map Ch.K++rm.drop q).map (Value.int .i64)).length=ml:=by
         rw[Zg,Ze,Zg,Zq,ZK,e3.out];omega
        obtain⟨b',o',gf,l9,bo⟩:=bi.sl (by rw[hlen];omega)
        simp only[Zi,YO]at gf
        obtain⟨rfl,rfl,_⟩:=gf
        have cy:=bo q (by rw[hlen];omega)
        rw[Md.upto_get Ch.K hy]at cy
        have fy:=bi.frozen (by rw[hlen];omega) (ok+q)
        have ks:=bi.set (i:=q) (by rw[hlen];omega) (.int .i64 (Ch.K y))
        rw[Md.upto_set Ch.K hy]at ks
        have k7:=Za ks
        obtain⟨ky,j1⟩:∃ky,Ch.K y=ky:=⟨_,rfl⟩
        have lz:=Ch.K_bd y
        rw[j1]at lz k7
        have n5:Hid (∀W,Calls Tryz.prog 19 #[.int .i64 y] W fun e w'=>e=.returned (.int .i32 ky)∧W=w'):=Za fun W=>by rw[←j1];exact Ch.char_any y W
        have pr:IntKind.i64.wrap ky=ky:=by rw[Z0];omega
        have p3:(q:Int)<m2:=by omega
        have qb:(0:Int)≤q:=by omega
        have pu:q<m2:=hltq
        have o2:=Za my
        clear bm bi e1 hy hlen bo ks j1 lz my
        have hne:wr.heap.size≠bk:=fun e=>by
         obtain⟨b',o',cs,gf,l9,_⟩:=ko.out (by rw[Zg,Ze,Zg,Zq,ZK,e3.out];omega)
         simp only[Zi,YO]at gf
         obtain⟨rfl,rfl,_⟩:=gf
         subst e
         exact cr.out.not (by decide) _ _ l9
        have ll:=Rw.grown_trans o5.out (by rw[o2.out];exact Rw.grown_set bk (ok+q) (.int .i64 ky))
        have aa:=cr.out.other (i:=ok+q) hne (.int .i64 ky)
        have om:=Za (Md.grown_drew ll)
        have jw:=Za aa
        clear hne ll aa
        go_upto_region 13 with (fail)
        go_region_law
         (first
           | (refine step_quiet _ (by rfl) 19 _ _ (by rfl) (C.enter Tryz.func19 (by kernel_rfl) rfl) (.int .i64 y) (by rfl) _ (n5.out _) ?_)
           | fail)
        all_goals go_wp2_with fail
        all_goals exact⟨⟨q+1,by omega,by go_num,jw.out,k7.out,om.out⟩,by simp[intOf];omega⟩
      · obtain rfl:m2=q:=by omega
        have br:=og.out.grown e1 HA.out kl.out df.out
        have lj:Below w.heap.size w wq:=(cj.out.trans (js.out.mono cj.out.size)).trans (Rw.below_grown e1 (Zh cj.out.size js.out.size) fun p hp=>by
         obtain⟨_,y,hy,pq⟩:=df.out p hp
         have h1:=(kl.out.2 (aA,ac) (Zk HA.out) y hy).1
         have h2:=kq.out
         omega)
        have kr:w4.heap.size≤wq.heap.size:=by
         have h1:=js.out.size
         have h2:=e1.size
         omega
        have im:=bi.take m2
        rw[←List.map_take,List.take_append_of_le_length (by rw[Zg,Zq,e3.out];omega),Zj (by rw[Zg,Zq];omega)]at im
        have b3:((rm.take m2).map Ch.K).length=m2:=by rw[Zg,Zq,e3.out];omega
        have en:∀c∈(rm.take m2).map Ch.K,-2147483648≤c∧c≤2147483647:=fun c hc=>by
         obtain⟨y,_,rfl⟩:=List.mem_map.1 hc
         exact Ch.K_bd y
        obtain⟨mp,l8⟩:∃mp,(rm.take m2).map Ch.K=mp:=⟨_,rfl⟩
        rw[l8]at im b3 en
        have bf:=Za br
        have gz:=Za lj
        have nc:=Za im
        have ax:=Za b3
        have jl:=Za en
        have z1:=bm.cell 1 rfl
        have z2:=bm.cell 2 rfl
        clear br lj im b3 en l8 bm bi e1 q2 hltq
        obtain⟨gb,lc⟩:∃gb,decide (cl=0∧m2=0)=gb:=⟨_,rfl⟩
        have iz:=Za lc
        clear lc
        go_upto_region 15 with (fail)
        go_cut [67] (fun s wx=>s=.bool gb∧wx=wq)
        case first =>
         rcases h1:(cl == 0) with _|_
         · have bx:gb=false:=by
            rw[←iz.out]
            have a1:¬cl=0:=by simpa using h1
            simp[a1]
           subst bx
           go_wp2_with fail
           go_meet
           exact⟨rfl,rfl⟩
         · rcases h2:((m2:Int) == 0) with _|_
           · have bx:gb=false:=by
              rw[←iz.out]
              have a1:¬(m2:Int)=0:=by simpa using h2
              have a2:¬m2=0:=by omega
              simp[a2]
             subst bx
             go_wp2_with fail
             go_meet
             exact⟨rfl,rfl⟩
           · have bx:gb=true:=by
              rw[←iz.out]
              have a1:cl=0:=by simpa using h1
              have a2:(m2:Int)=0:=by simpa using h2
              have a3:m2=0:=by omega
              simp[a1,a3]
             subst bx
             go_wp2_with fail
             go_meet
             exact⟨rfl,rfl⟩
        case rest =>
         obtain⟨rfl,rfl⟩:=hcut
         obtain⟨wq,rfl⟩:∃wq:World,wq=wc:=⟨_,rfl⟩
         rcases gb with _|_
         · obtain⟨Ao,co,rfl⟩:=own_form bf.out.out
           obtain⟨on,dx⟩:∃on,To.length=on:=⟨_,rfl⟩
           have cb:=bf.out
           have aa:=cb.a3
           rw[dx]at aa
           have y1:=aa.cell 1 rfl
           have k0:=aa.lt
           have bh:Below wq.heap.size wq (wq.alloc (.cells #[.slice none 0 0,.slice XA2 xn2 xc2] 25)):=(Zd _ _).alloc (Zb _) _
           have fh:=Rw.At.new wq 25 [.slice none 0 0,.slice XA2 xn2 xc2]
           obtain⟨wn,ig⟩:∃wn,wq.alloc (.cells #[.slice none 0 0,.slice XA2 xn2 xc2] 25)=wn:=⟨_,rfl⟩
           have dn:Rw.At wn wq.heap.size 25 [.slice none 0 0,.slice XA2 xn2 xc2]:=by rw[←ig];exact fh
           rw[ig]at bh
           have dc:Md.rok (kc,cl,mp):=by
            refine⟨k3,i6,by show mp.length≤2;rw[ax.out];exact jv,jl.out,fun h0 o3=>?_⟩
            have h1:decide (cl=0∧m2=0)=false:=iz.out
            rw[ZY]at h1
            apply h1
            refine⟨h0,?_⟩
            have:=ax.out
            rw[show mp=[] from o3]at this
            simpa using this.symm
           have dr:Md.under [(aA,ac)] (ads.drop (k+1)):=fun x hx p hp y hy q hq=>by
            rw[ZA]at hx
            subst hx
            obtain⟨l1,l2⟩:=List.getElem?_eq_some_iff.1 HA.out
            obtain⟨j,hj,mh⟩:=Xr hy
            rw[List.getElem_drop]at mh
            rw[ZK]at hj
            have:=List.pairwise_iff_getElem.1 kl.out.1 k (k+1+j) l1 (by omega) (by omega) p q (by rw[l2];exact hp) (by rw[mh];exact hq)
            omega
           have fu:=Za dc
           have di:=Za dr
           have bq:=Za dx
           have nz:=Za ig
           have h5:=Za bh
           have kv:Hid (Md.NX wq.heap.size (.slice XA2 xn2 xc2) (ads.drop (k+1)) wn [] [] (.slice none 0 0)):=Za ⟨dn,⟨rfl,fun i r a h=>absurd h (by simp)⟩,ZC _ _ _ _,fun i r a h=>absurd h (by simp),fun r hr=>absurd hr (by simp),fun a ha=>absurd ha (by simp)⟩
           have oh:=bh.size
           clear cb aa dx bh fh dn ig dc dr z1 z2
           go_upto_region 17 with (fail)
           rw[nz.out]
           clear y1
           have aa:=(bf.out.below h5.out).a3
           rw[bq.out]at aa
           have y0:=aa.cell 0 rfl
           have k0:=aa.lt
           clear aa
           go_wp2_with fail
           clear y0
           have nv:on≤20:=by have h1:=bf.out.len;rw[bq.out]at h1;omega
           go_loopw [8,74] (fun v8 i ws=>∃(j:Nat) (d:Bool) (N:List Rw.Row) (nads:List (Option Addr × Nat)) (vn:Value),j≤on∧i=.int .i64 j∧v8=.bool d∧Md.NX wq.heap.size (.slice XA2 xn2 xc2) (ads.drop (k+1)) ws N nads vn∧N.length≤j+(if d=true then 1 else 0)∧Below wq.heap.size wq ws) (fun _ i _=>on-(intOf i).toNat)
           case atStart=>exact⟨0,false,[],[],.slice none 0 0,ZE _,rfl,rfl,kv.out,ZE _,h5.out⟩
           case round =>
            obtain⟨j,d,N,nads,vn,hj,rfl,rfl,ft,h8,dt⟩:=hrel
            obtain⟨ws,rfl⟩:∃ws:World,ws=wr:=⟨_,rfl⟩
            have e2:=Za ft
            have i1:=Za h8
            have jm:=Za dt
            by_cases hltj:j<on
            · have a8:=bf.out.below dt
              obtain⟨q,hq⟩:∃q,To[j]?=some q:=⟨_,Zc (by rw[bq.out];exact hltj)⟩
              obtain⟨qa,gw⟩:∃qa,adso[j]?=some qa:=⟨_,Zc (by rw[a8.lens.1,bq.out];exact hltj)⟩
              have bt:=a8.out
              have bz:(Rw.flI To adso).length=on*3:=by rw[Rw.flI_len _ _ a8.lens.1,bq.out]
              rw[bq.out]at bt
              obtain⟨b4,o4,rfl,j4,bo⟩:=(Sl.of_own bt) (by rw[bz];omega)
              obtain⟨g0,g1,g2⟩:=Rw.flI_get To adso j q qa hq gw
              have c0:=bo (j*3) (by rw[bz];omega)
              have c1:=bo (j*3+1) (by rw[bz];omega)
              have c2:=bo (j*3+2) (by rw[bz];omega)
              rw[g0]at c0
              rw[g1,←Yi]at c1
              rw[g2,←Yi]at c2
              have ku:=a8.mo j q qa hq gw
              have ia:=a8.lens.2 j q qa hq gw
              have jz:=a8.rok q (Zk hq)
              have lu:Md.under [qa] (ads.drop (k+1)):=fun x hx p hp y hy z hz=>by
               rw[ZA]at hx
               subst hx
               exact a8.und x (Zk gw) p hp y hy z hz
              obtain⟨qc,qk,qm⟩:=q
              obtain⟨qA,ae⟩:=qa
              dsimp only at c0 c1 c2 ku ia
              obtain⟨ql,je⟩:∃ql,qm.length=ql:=⟨_,rfl⟩
              rw[je]at c2 ia
              have oc:=jz.1
              dsimp only at oc
              have ic:=Za je
              have ly:=Za jz
              have nf:=Za lu
              have pp:(j:Int)<on:=by omega
              have ou:(0:Int)≤j:=by omega
              have gg:Below ws.heap.size ws (ws.alloc (.cells #[.int .i64 qc,.int .i64 qk,.slice qA ql ae] 61)):=(Zd _ _).alloc (Zb _) _
              have fe:=Rw.At.new ws 61 [.int .i64 qc,.int .i64 qk,.slice qA ql ae]
              obtain⟨wv,iu⟩:∃wv,ws.alloc (.cells #[.int .i64 qc,.int .i64 qk,.slice qA ql ae] 61)=wv:=⟨_,rfl⟩
              have aw:Rw.At wv ws.heap.size 61 [.int .i64 qc,.int .i64 qk,.slice qA ql ae]:=by rw[←iu];exact fe
              rw[iu]at gg
              have cg:=dt.trans (gg.mono dt.size)
              have oq:=Za iu
              have ka:=Za aw
              have kz:=Za (ku.below gg)
              have j6:=Za (nc.out.below cg)
              have bc:=Za (ft.below gg)
              have cq:=Za cg
              have aj:=cr.out.below cg
              have mm:=Za aj
              have r0:=aj.cell 0 rfl
              have r1:=aj.cell 1 rfl
              have r2:=aj.cell 2 rfl
              have rl:=aj.lt
              have p0:=aw.cell 0 rfl
              have p1:=aw.cell 1 rfl
              have p2:=aw.cell 2 rfl
              have pl:=aw.lt
              have gi:Hid (∀q,vn.ownBlock=some q→q<ws.heap.size):=Za fun q hq=>(ft.own.lt q hq).2
              have e8:N.length≤30:=by have:=h8;split at this <;> omega
              clear a8 hq gw bt bz bo g0 g1 g2 ku jz lu je gg fe aw iu cg aj ft dt
              obtain⟨gm,fp⟩:∃g,(!d&&decide (kc<qc))=g:=⟨_,rfl⟩
              have cp:=Za fp
              clear fp
              go_upto_region 21 with (fail)
              rw[oq.out]
              clear c0 c1 c2
              go_cut [86] (fun s wx=>s=.bool gm∧wx=wv)
              case first =>
               cases d
               · by_cases hkq:kc<qc
                 · have bx:gm=true:=by rw[←cp.out];simp[hkq]
                   subst bx
                   go_wp2_with fail
                   go_meet
                   exact⟨rfl,rfl⟩
                 · have bx:gm=false:=by rw[←cp.out];simp[hkq]
                   subst bx
                   go_wp2_with fail
                   go_meet
                   exact⟨rfl,rfl⟩
               · have bx:gm=false:=by rw[←cp.out];rfl
                 subst bx
                 go_wp2_with fail
                 go_meet
                 exact⟨rfl,rfl⟩
              case rest =>
               obtain⟨rfl,rfl⟩:=hcut
               obtain⟨wv,rfl⟩:∃wv:World,wv=wc:=⟨_,rfl⟩
               rcases gm with _|_
               · obtain⟨nj,o6,rfl⟩:=own_form bc.out.own
                 obtain⟨h6,ea⟩:∃nn,N.length=nn:=⟨_,rfl⟩
                 have ba:=bc.out.tab
                 have az:=bc.out.own.alloc (.cells #[.int .i64 qc,.int .i64 qk,.slice qA ql ae] 61)
                 rw[ea]at ba az
                 have p4:=ba.cell 0 rfl
                 have p8:=ba.lt
                 have h4:wq.heap.size+1≤(wv.alloc (.cells #[.int .i64 qc,.int .i64 qk,.slice qA ql ae] 61)).heap.size:=by simp;omega
                 have gv:=Za (Sl.lit (w:=wv.alloc (.cells #[.int .i64 qc,.int .i64 qk,.slice qA ql ae] 61)) (A:=some ⟨wv.heap.size,0,none⟩) (xs:=[.int .i64 qc,.int .i64 qk,.slice qA ql ae]) rfl 61 (0,0) (ZP wv _))
                 have ki:=Za (Rw.own_ne az wq.heap.size (ZS _))
                 have ei:=Za az
                 have ef:=Za (ba.alloc (.cells #[.int .i64 qc,.int .i64 qk,.slice qA ql ae] 61))
                 have eo:=Za ea
                 have lh:h6≤40:=by omega
                 clear ba az ea
                 go_wp2_with (first|(at_builtin;refine wpList_appendSl _ rfl _ _ _ rfl (wq.heap.size+1) 61 j0 _ 3 40 Tryz.underlying22 hj0 ih iy ir rfl (by omega) (.slice nj h6 o6) h6 _ rfl ei.out _ (some ⟨wv.heap.size,0,none⟩) 1 1 [.int .i64 qc,.int .i64 qk,.slice qA ql ae] rfl rfl gv.out (by simp[Value.oneCell']) (by simp only[maxLen];omega) (by omega) h4 ?_;intro v1 nx b8 kh b6;have ai:=ef.out.grown b6 ki.out;have u0:=ai.cell 0 rfl;have ie:=ai.frozen 0;have h9:=ai.lt;obtain⟨od,pd,rfl⟩:=own_form b8)|fail)
                 have mq:=b8
                 rw[←ic.out,←eo.out]at mq
                 have cw:=bc.out.push (r:=(qc,qk,qm)) (a:=(qA,ae)) kz.out (by show _≤_;rw[ic.out];exact ia) ly.out nf.out mq (by rw[eo.out];exact b6)
                 rw[eo.out]at cw
                 have j9:Below wq.heap.size wq ((nx).setCell ⟨wq.heap.size,0,none⟩ (.slice od (h6+1) pd)):=((cq.out.alloc cq.out.size (.cells #[.int .i64 qc,.int .i64 qk,.slice qA ql ae] 61)).trans (kh.mono (ZZ _))).setCell (p:=⟨wq.heap.size,0,none⟩) (Zb _) _
                 exact⟨⟨j+1,d,_,_,_,by omega,by go_num,rfl,cw,by simp only[Ze,Yu];have:=i1.out;omega,j9⟩,by simp[intOf];omega⟩
               · have ol:d=false:=by
                  have h:=cp.out
                  cases d
                  · rfl
                  · exact absurd h (by simp)
                 subst ol
                 obtain⟨jo,kd,rfl⟩:=own_form bc.out.own
                 obtain⟨bp,bl⟩:∃nn,N.length=nn:=⟨_,rfl⟩
                 have ag:=bc.out.tab
                 have af:=bc.out.own.alloc (.cells #[.int .i64 kc,.int .i64 cl,.slice aA m2 ac] 61)
                 rw[bl]at ag af
                 have lr:=ag.cell 0 rfl
                 have mv:=ag.lt
                 have b7:wq.heap.size+1≤(wv.alloc (.cells #[.int .i64 kc,.int .i64 cl,.slice aA m2 ac] 61)).heap.size:=by simp;omega
                 have b2:=Za (Sl.lit (w:=wv.alloc (.cells #[.int .i64 kc,.int .i64 cl,.slice aA m2 ac] 61)) (A:=some ⟨wv.heap.size,0,none⟩) (xs:=[.int .i64 kc,.int .i64 cl,.slice aA m2 ac]) rfl 61 (0,0) (ZP wv _))
                 have ej:=Za (Rw.own_ne af wq.heap.size (ZS _))
                 have a6:=Za af
                 have bj:=Za (ag.alloc (.cells #[.int .i64 kc,.int .i64 cl,.slice aA m2 ac] 61))
                 have bb:=Za bl
                 have fq:bp≤40:=by omega
                 clear ag af bl
                 go_upto_region 24 with (first|(at_builtin;refine wpList_appendSl _ rfl _ _ _ rfl (wq.heap.size+1) 61 j0 _ 3 40 Tryz.underlying22 hj0 ih iy ir rfl (by omega) (.slice jo bp kd) bp _ rfl a6.out _ (some ⟨wv.heap.size,0,none⟩) 1 1 [.int .i64 kc,.int .i64 cl,.slice aA m2 ac] rfl rfl b2.out (by simp[Value.oneCell']) (by simp only[maxLen];omega) (by omega) b7 ?_;intro v1 j2 ap cu ah;have ai:=bj.out.grown ah ej.out;have u0:=ai.cell 0 rfl;have ie:=ai.frozen 0;have h9:=ai.lt;obtain⟨ew,e4,rfl⟩:=own_form ap)|fail)
                 have e0:=ap
                 rw[←ax.out,←bb.out]at e0
                 have ar:=bc.out.push (r:=(kc,cl,mp)) (a:=(aA,ac)) j6.out (by show _≤_;rw[ax.out];exact (by omega)) fu.out di.out e0 (by rw[bb.out];exact ah)
                 rw[bb.out]at ar
                 have jh:Below wq.heap.size wq (j2.setCell ⟨wq.heap.size,0,none⟩ (.slice ew (bp+1) e4)):=((cq.out.alloc cq.out.size (.cells #[.int .i64 kc,.int .i64 cl,.slice aA m2 ac] 61)).trans (cu.mono (ZZ _))).setCell (p:=⟨wq.heap.size,0,none⟩) (Zb _) _
                 have au:=((ka.out.alloc (.cells #[.int .i64 kc,.int .i64 cl,.slice aA m2 ac] 61)).grown ah (fun e=>Nat.lt_irrefl _ (gi.out _ (by rw[bb.out];exact e)))).other (b':=wq.heap.size) (i:=0) (by have:=jm.out.size;have:=e2.out.tab.lt;omega) (.slice ew (bp+1) e4)
                 have er:=(((kz.out.below ((Zd _ _).alloc (Zb _) (.cells #[.int .i64 kc,.int .i64 cl,.slice aA m2 ac] 61))).grown ah (Rw.own_not a6.out (by decide))).grown (Rw.grown_set wq.heap.size 0 (.slice ew (bp+1) e4)) (by intro q hq;cases hq;exact ai.not (by decide)))
                 obtain⟨wy,kf⟩:∃wy,j2.setCell ⟨wq.heap.size,0,none⟩ (.slice ew (bp+1) e4)=wy:=⟨_,rfl⟩
                 rw[kf]at ar jh au er
                 obtain⟨vy,lq⟩:∃v,Value.slice ew (bp+1) e4=v:=⟨_,rfl⟩
                 rw[lq]at ar
                 clear lq
                 rw[kf]
                 have ch:=Za ar
                 have mf:=Za jh
                 have j3:=Za er
                 have p0:=au.cell 0 rfl
                 have p1:=au.cell 1 rfl
                 have p2:=au.cell 2 rfl
                 have pl:=au.lt
                 clear ar jh au er kf e0 ap cu ah ai u0 ie h9 r0 r1 r2 rl lr mv
                 obtain⟨pg,pj,rfl⟩:=own_form ch.out.own
                 obtain⟨iv,cm⟩:∃nn,(N++[(kc,cl,mp)]).length=nn:=⟨_,rfl⟩
                 have bg:=ch.out.tab
                 have a7:=ch.out.own.alloc (.cells #[.int .i64 qc,.int .i64 qk,.slice qA ql ae] 61)
                 rw[cm]at bg a7
                 have qd:=bg.cell 0 rfl
                 have p5:=bg.lt
                 have fz:wq.heap.size+1≤(wy.alloc (.cells #[.int .i64 qc,.int .i64 qk,.slice qA ql ae] 61)).heap.size:=by simp;omega
                 have gq:=Za (Sl.lit (w:=wy.alloc (.cells #[.int .i64 qc,.int .i64 qk,.slice qA ql ae] 61)) (A:=some ⟨wy.heap.size,0,none⟩) (xs:=[.int .i64 qc,.int .i64 qk,.slice qA ql ae]) rfl 61 (0,0) (ZP wy _))
                 have jq:=Za (Rw.own_ne a7 wq.heap.size (ZS _))
                 have dz:=Za a7
                 have eg:=Za (bg.alloc (.cells #[.int .i64 qc,.int .i64 qk,.slice qA ql ae] 61))
                 have et:=Za cm
                 have mz:iv≤40:=by rw[←cm,Ze,Yu];omega
                 clear bg a7 cm
                 go_wp2_with (first|(at_builtin;refine wpList_appendSl _ rfl _ _ _ rfl (wq.heap.size+1) 61 j0 _ 3 40 Tryz.underlying22 hj0 ih iy ir rfl (by omega) (.slice pg iv pj) iv _ rfl dz.out _ (some ⟨wy.heap.size,0,none⟩) 1 1 [.int .i64 qc,.int .i64 qk,.slice qA ql ae] rfl rfl gq.out (by simp[Value.oneCell']) (by simp only[maxLen];omega) (by omega) fz ?_;intro v1 n8 b9 kn cd;have ai:=eg.out.grown cd jq.out;have u0:=ai.cell 0 rfl;have ie:=ai.frozen 0;have h9:=ai.lt;obtain⟨ov,ni,rfl⟩:=own_form b9)|fail)
                 have lp:=b9
                 rw[←ic.out,←et.out]at lp
                 have dk:=ch.out.push (r:=(qc,qk,qm)) (a:=(qA,ae)) j3.out (by show _≤_;rw[ic.out];exact ia) ly.out nf.out lp (by rw[et.out];exact cd)
                 rw[et.out]at dk
                 have ja:Below wq.heap.size wq ((n8).setCell ⟨wq.heap.size,0,none⟩ (.slice ov (iv+1) ni)):=((mf.out.alloc mf.out.size (.cells #[.int .i64 qc,.int .i64 qk,.slice qA ql ae] 61)).trans (kn.mono (ZZ _))).setCell (p:=⟨wq.heap.size,0,none⟩) (Zb _) _
                 exact⟨⟨j+1,true,_,_,_,by omega,by go_num,rfl,dk,by simp only[Ze,Yu];have h1:=i1.out;simp at h1 ⊢;omega,ja⟩,by simp[intOf];omega⟩
            · obtain rfl:on=j:=by omega
              have lg:=jm
              have aj:=cr.out.below dt
              have r0:=aj.cell 0 rfl
              have r1:=aj.cell 1 rfl
              have r2:=aj.cell 2 rfl
              have rl:=aj.lt
              have j6:=Za (nc.out.below dt)
              have e8:N.length≤30:=by have:=h8;split at this <;> omega
              clear ft h8 dt aj hltj
              go_upto_if 101 with (fail)
              go_cut [] (fun wx=>∃(N':List Rw.Row) (bu:List (Option Addr × Nat)) (l6:Value),Md.NX wq.heap.size (.slice XA2 xn2 xc2) (ads.drop (k+1)) wx N' bu l6∧N'.length≤on+1∧Below wq.heap.size wq wx)
              case first =>
               cases d
               · have ng:N.length≤on:=by have h1:=i1.out;simpa using h1
                 obtain⟨jo,kd,rfl⟩:=own_form e2.out.own
                 obtain⟨bp,bl⟩:∃nn,N.length=nn:=⟨_,rfl⟩
                 have ag:=e2.out.tab
                 have af:=e2.out.own.alloc (.cells #[.int .i64 kc,.int .i64 cl,.slice aA m2 ac] 61)
                 rw[bl]at ag af
                 have lr:=ag.cell 0 rfl
                 have mv:=ag.lt
                 have b7:wq.heap.size+1≤(ws.alloc (.cells #[.int .i64 kc,.int .i64 cl,.slice aA m2 ac] 61)).heap.size:=by simp;omega
                 have b2:=Za (Sl.lit (w:=ws.alloc (.cells #[.int .i64 kc,.int .i64 cl,.slice aA m2 ac] 61)) (A:=some ⟨ws.heap.size,0,none⟩) (xs:=[.int .i64 kc,.int .i64 cl,.slice aA m2 ac]) rfl 61 (0,0) (ZP ws _))
                 have ej:=Za (Rw.own_ne af wq.heap.size (ZS _))
                 have a6:=Za af
                 have bj:=Za (ag.alloc (.cells #[.int .i64 kc,.int .i64 cl,.slice aA m2 ac] 61))
                 have bb:=Za bl
                 have fq:bp≤40:=by omega
                 clear ag af bl
                 go_wp2_with (first|(at_builtin;refine wpList_appendSl _ rfl _ _ _ rfl (wq.heap.size+1) 61 j0 _ 3 40 Tryz.underlying22 hj0 ih iy ir rfl (by omega) (.slice jo bp kd) bp _ rfl a6.out _ (some ⟨ws.heap.size,0,none⟩) 1 1 [.int .i64 kc,.int .i64 cl,.slice aA m2 ac] rfl rfl b2.out (by simp[Value.oneCell']) (by simp only[maxLen];omega) (by omega) b7 ?_;intro v1 j2 ap cu ah;have ai:=bj.out.grown ah ej.out;have u0:=ai.cell 0 rfl;have ie:=ai.frozen 0;have h9:=ai.lt;obtain⟨ew,e4,rfl⟩:=own_form ap)|fail)
                 have e0:=ap
                 rw[←ax.out,←bb.out]at e0
                 have ar:=e2.out.push (r:=(kc,cl,mp)) (a:=(aA,ac)) j6.out (by show _≤_;rw[ax.out];exact (by omega)) fu.out di.out e0 (by rw[bb.out];exact ah)
                 rw[bb.out]at ar
                 go_meet
                 exact⟨_,_,_,ar,by rw[Ze,Yu];omega,(((lg.out.alloc lg.out.size (.cells #[.int .i64 kc,.int .i64 cl,.slice aA m2 ac] 61)).trans (cu.mono (ZZ _))).setCell (p:=⟨wq.heap.size,0,none⟩) (Zb _) _)⟩
               · go_wp2_with fail
                 go_meet
                 exact⟨N,nads,vn,e2.out,by have h1:=i1.out;simpa using h1,jm.out⟩
              case rest =>
               obtain⟨N',bu,l6,ay,jx,ep⟩:=hcut
               obtain⟨mj,rfl⟩:∃w':World,w'=wc:=⟨_,rfl⟩
               obtain⟨An,cn,rfl⟩:=own_form ay.own
               have na:=bf.out.below ep
               have mb:=Sl.of_own na.excl
               have gp:Md.Doc mj (Md.tv An N'.length cn XA2 E.length xc2) N' E:=⟨An,cn,XA2,xc2,rfl,Rw.seesI_mk ay.lens.1 (Slt.of_own ay.own) ay.mo,mb⟩
               have cv:=Md.own_cap ay.own
               have mn:N'.length≤100000:=by omega
               have c6:E.length≤1000000:=Zh lb.out (by decide)
               have av:=ay.rok
               have eb:Md.bd N':=fun r hr=>⟨(av r hr).1,(av r hr).2.2.2.1⟩
               have j4:∀r∈N',r.2.2.length≤1000:=fun r hr=>Zh (av r hr).2.2.1 (by decide)
               have lx:∀r∈N',-9223372036854775808≤r.2.1∧r.2.1≤9223372036854775807:=fun r hr=>⟨Z9 (by decide) (av r hr).2.1.1,Z9 (av r hr).2.1.2 (by decide)⟩
               have bn:=Md.rcheck_any _ N' E mj mn c6 eb j4 lx gp (Md.tv_cap cv)
               clear mb mn c6 av eb j4 lx
               unfold Md.tv at bn
               rw[ma.out]at bn
               obtain⟨ck,jy⟩:∃ck,Md.chk N' (Md.xs E)=ck:=⟨_,rfl⟩
               rw[jy]at bn
               obtain⟨nn,jt⟩:∃nn,N'.length=nn:=⟨_,rfl⟩
               have cf:=ay.tab
               rw[jt]at bn cf jx
               have t0:=cf.cell 0 rfl
               have t1:=cf.cell 1 rfl
               have tl:=cf.lt
               have jn:=Za bn
               have e6:=Za ay
               have eu:=Za ep
               have oy:=Za jy
               have ke:=Za jt
               clear ay ep na gp cv bn jy jt cf
               go_wp2_with fail
               refine jn.out.mono ?_
               rintro e w9 ⟨rfl,gj⟩
               have kp:=(bf.out.below eu.out).below gj
               have hl:=e6.out.below gj
               rw[ke.out]at hl
               have k9:=Za kp
               have o8:=Za (e6.out.below gj)
               have ix:=Za (eu.out.trans (gj.mono eu.out.size))
               have t0:=hl.tab.cell 0 rfl
               have t1:=hl.tab.cell 1 rfl
               have tl:=hl.tab.lt
               have ey:=kp.a3
               have s0:=ey.cell 0 rfl
               have s1:=ey.cell 1 rfl
               have g0:=ey.frozen 0
               have g1:=ey.frozen 1
               have gl:=ey.lt
               clear kp hl gj ey
               by_cases hck0:ck=0
               · subst hck0
                 have fx:Md.note 0=⟨#[]⟩:=rfl
                 rw[fx]
                 go_wp2_with fail
                 have fg:k+1≤n2:=hlt
                 have pn:=kq.out
                 have ji:=j8.out.len
                 rw[bq.out]at ji
                 have br:=Md.RI.take k9.out o8.out oy.out (by rw[ke.out];omega) (by omega) (by omega)
                 rw[ke.out]at br
                 have j5:=gz.out.trans (ix.out.mono gz.out.size)
                 have np:=ix.out.size
                 refine⟨⟨k+1,N',bu,.slice An nn cn,fg,?_,br,?_,?_⟩,?_⟩
                 · go_num
                 · exact (j5.setCell (p:=⟨w3.heap.size,0,none⟩) (by show w.heap.size≤w3.heap.size;omega) _).setCell (p:=⟨w3.heap.size,1,none⟩) (by show w.heap.size≤w3.heap.size;omega) _
                 · rw[ZN,ZN];omega
                 · simp[intOf];omega
               · have kb:=Md.note_ne hck0
                 have jd:¬Md.note ck=⟨#[]⟩:=fun e=>by
                  rw[e]at kb
                  revert kb
                  decide +kernel
                 obtain⟨nt,k6⟩:∃nt,Md.note ck=nt:=⟨_,rfl⟩
                 rw[k6]at kb jd ⊢
                 clear k6 hck0
                 go_wp2_with fail
                 have fg:k+1≤n2:=hlt
                 have j5:=gz.out.trans (ix.out.mono gz.out.size)
                 have np:=ix.out.size
                 refine⟨⟨k+1,To,adso,_,fg,?_,k9.out,j5,by omega⟩,?_⟩
                 · go_num
                 · simp[intOf];omega
         · go_wp2_with fail
           have fg:k+1≤n2:=hlt
           refine⟨⟨k+1,To,adso,vo,fg,?_,bf.out,gz.out,kr⟩,?_⟩
           · go_num
           · simp[intOf];omega
  · obtain rfl:n2=k:=by omega
    obtain⟨wz,rfl⟩:∃wz:World,wz=wr:=⟨_,rfl⟩
    obtain⟨Ao,co,rfl⟩:=own_form du.out
    obtain⟨on,dx⟩:∃on,To.length=on:=⟨_,rfl⟩
    have aa:=du.a3
    have aq:=du.a2
    rw[dx]at aa
    have pn:=kq.out
    have y0:=aa.cell 0 rfl
    have y1:=aa.cell 1 rfl
    have x0:=aq.cell 0 rfl
    have x1:=aq.cell 1 rfl
    have f0:=aq.frozen 0
    have f1:=aq.frozen 1
    have pz:=aq.lt
    have k0:=aa.lt
    have bq:=Za dx
    have dh:=Za aq
    clear aq aa dx du ed hlt hk
    go_wp2_with fail
    have k1:=dh.out.set 0 (.slice Ao on co)
    have k2:=k1.set 1 (.slice XA2 xn2 xc2)
    have cb:=j8.out
    rw[bq.out]at cb
    have fw:∀q,some (w.heap.size+1)=some q→∀cs z,wz.heap[q]?≠some (.cells cs 3 z):=fun q hq=>by cases hq;exact dh.out.not (by decide)
    have gu:∀q,some (w.heap.size+1)=some q→∀cs z,(wz.setCell ⟨w.heap.size+1,0,none⟩ (.slice Ao on co)).heap[q]?≠some (.cells cs 3 z):=fun q hq=>by cases hq;exact k1.not (by decide)
    have ho:=Rw.own_grown (Rw.own_grown cb.out (by omega) (Rw.grown_set (w.heap.size+1) 0 (.slice Ao on co))) (by omega) (Rw.grown_set (w.heap.size+1) 1 (.slice XA2 xn2 xc2))
    have hx:=Rw.own_grown (Rw.own_grown cb.excl (by omega) (Rw.grown_set (w.heap.size+1) 0 (.slice Ao on co))) (by omega) (Rw.grown_set (w.heap.size+1) 1 (.slice XA2 xn2 xc2))
    have hm:=(cb.mo.grown (Rw.grown_set (w.heap.size+1) 0 (.slice Ao on co)) fw).grown (Rw.grown_set (w.heap.size+1) 1 (.slice XA2 xn2 xc2)) gu
    refine Yl (Rw.results1 rfl _ _ (w.heap.size+1) _ _ _ _ rfl k2 Tryz.underlying25 rfl (by kernel_rfl)) rfl ⟨_,To,E,rfl,⟨Ao,co,XA2,xc2,?_,Rw.seesI_mk cb.lens.1 ?_ hm,Sl.of_own hx⟩,?_,Zh cb.len j7,lb.out,cb.rok,nh.out,cb.chk,?_⟩
    · rw[bq.out,ma.out];rfl
    · rw[bq.out]at ho
      exact Slt.of_own ho
    · intro A' n' c' A7 n7 c7 he
      simp only[XE,XY,Yd,Z3,YH]at he
      obtain⟨⟨rfl,rfl,rfl⟩,rfl,rfl,rfl⟩:=he
      rw[bq.out]at ho
      exact⟨Md.own_cap ho,Md.own_cap hx⟩
    · exact (cj.out.setCell (p:=⟨w.heap.size+1,0,none⟩) (ZZ _) _).setCell (p:=⟨w.heap.size+1,1,none⟩) (ZZ _) _
end Go.Proofs.YtikiplbhlohmdaaGreatDoor
