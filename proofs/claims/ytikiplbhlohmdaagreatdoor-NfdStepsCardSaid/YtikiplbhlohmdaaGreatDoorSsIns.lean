/- Small laws of the layer rows: a block whose cells are known. -/
import Derived.Test.YtikiplbhlohmdaaGreatDoorRwFl
import Derived.RangeFuncRecord
set_option linter.unusedVariables false
set_option linter.unusedSimpArgs false
namespace Go.Proofs.YtikiplbhlohmdaaGreatDoor
open Go.RowKit
def Rw.At (w:World) (b:Nat) (t:TypeId) (cs:List Value):Prop:=w.heap[b]?=some (.cells cs.toArray t (0,0))
theorem Rw.At.lt {w:World} {b:Nat} {t:TypeId} {cs:List Value} (h:Rw.At w b t cs):b<w.heap.size:=heap_lt h
theorem Rw.At.cell {w:World} {b:Nat} {t:TypeId} {cs:List Value} (h:Rw.At w b t cs) (i:Nat) {v:Value} (hv:cs[i]?=some v):w.cell? ⟨b,i,none⟩=some v:=by
 unfold Rw.At at h
 simp[World.cell?,h,hv]
theorem Rw.At.frozen {w:World} {b:Nat} {t:TypeId} {cs:List Value} (h:Rw.At w b t cs) (i:Nat):w.frozen? ⟨b,i,none⟩=false:=by
 unfold Rw.At at h
 simp[World.frozen?,h]
theorem Rw.At.set {w:World} {b:Nat} {t:TypeId} {cs:List Value} (h:Rw.At w b t cs) (i:Nat) (v:Value):Rw.At (w.setCell ⟨b,i,none⟩ v) b t (cs.set i v):=by
 obtain⟨aa,hk⟩:=Array.getElem?_eq_some_iff.1 h
 show (w.heap.modify b _)[b]?=_
 rw[Xk (by rw[Array.size_modify];exact aa),Array.getElem_modify_self,hk]
 simp
theorem Rw.At.grown {w w':World} {b:Nat} {t:TypeId} {cs:List Value} {row:Option Nat} (h:Rw.At w b t cs) (hg:w.grownBy w' row) (hr:row≠some b):Rw.At w' b t cs :=
 (hg.block b h.lt fun e=>hr e.symm).trans h
theorem Rw.At.below {w w':World} {b:Nat} {t:TypeId} {cs:List Value} (h:Rw.At w b t cs) (hb:Below w.heap.size w w'):Rw.At w' b t cs:=(hb.block b h.lt).trans h
theorem Rw.At.new (w:World) (t:TypeId) (cs:List Value):Rw.At (w.alloc (.cells cs.toArray t)) w.heap.size t cs:=World.alloc_heap_new w _
theorem Rw.grown_below {w w':World} (h:Below w.heap.size w w'):w.grownBy w' none:=⟨h.os,h.tape,h.output,h.size,fun k hk _=>h.block k hk⟩
theorem Rw.At.three {w:World} {b:Nat} {t:TypeId} {u v x:Value} (h:Rw.At w b t [u,v,x]) :
 w.cell? ⟨b,0,none⟩=some u∧w.cell? ⟨b,1,none⟩=some v∧w.cell? ⟨b,2,none⟩=some x∧w.frozen? ⟨b,0,none⟩=false∧w.frozen? ⟨b,1,none⟩=false∧w.frozen? ⟨b,2,none⟩=false :=
 ⟨h.cell 0 rfl,h.cell 1 rfl,h.cell 2 rfl,h.frozen 0,h.frozen 1,h.frozen 2⟩
theorem Rw.At.below' {w w':World} {b B:Nat} {t:TypeId} {cs:List Value} (h:Rw.At w b t cs) (hb:Below B w w') (hB:b<B):Rw.At w' b t cs:=(hb.block b hB).trans h
theorem Rw.At.other {w:World} {b b' i:Nat} {t:TypeId} {cs:List Value} (h:Rw.At w b t cs) (hne:b≠b') (v:Value):Rw.At (w.setCell ⟨b',i,none⟩ v) b t cs :=
 (Ym _ _ _ b hne).trans h
theorem Rw.At.alloc {w:World} {b:Nat} {t:TypeId} {cs:List Value} (h:Rw.At w b t cs) (o:Obj):Rw.At (w.alloc o) b t cs:=(Below.heap_alloc _ _ _ h.lt).trans h
theorem Slt.setAt {w:World} {t t':TypeId} {A:Option Addr} {xs cs:List Value} {b:Nat} (h:Slt w t A xs) (k:Rw.At w b t' cs) (hne:t'≠t) (i:Nat) (v:Value):Slt (w.setCell ⟨b,i,none⟩ v) t A xs:=by
 intro hx
 obtain⟨g,o,cs',hA,hb,hc⟩:=h hx
 refine⟨g,o,cs',hA,(Ym _ _ _ g fun e=>?_).trans hb,hc⟩
 have e:g=b:=e
 subst e
 have:=k.symm.trans hb
 simp only[Zi,XD]at this
 exact hne this.2.1
theorem Rw.results2 {P:Program} {fn:Func} {p u:Tmp} {ty:TypeId} (h:fn.results = #[.cell p ty,.tmp u]) (tmps:Array Value) (w:World) (g:Nat) (t:TypeId) (cs:Array Value) (fr:Nat × Nat) (d:TypeDesc)
 (hp:tmps.getD p undef=.pointer (some ⟨g,0,none⟩)) (hg:w.heap[g]?=some (.cells cs t fr))
 (hu:P.underlying ty=some d) (hd:(match d with | .struct _ | .array _ _=>true|_=>false)=true) (hi:(P.info? ty).map (·.size)=some cs.size) :
 (results fn tmps).run P w=.ok (.tuple #[.agg cs,tmps.getD u undef]) w:=by
 have aa:tmps[p]?.getD undef=.pointer (some ⟨g,0,none⟩):=by simpa using hp
 simp[results,h,aa,asAddr,XR w g t ty cs fr d hg hu hd hi]
theorem Rw.grown_set {w:World} (b i:Nat) (v:Value):w.grownBy (w.setCell ⟨b,i,none⟩ v) (some b) :=
 ⟨rfl,rfl,rfl,(by show w.heap.size≤(w.heap.modify b _).size;rw[Array.size_modify];exact Zb _),fun k _ hk=>Ym _ _ _ k (fun e=>hk (by rw[show k=b from e]))⟩
theorem Rw.grown_trans {w w' w'':World} {row:Option Nat} (h:w.grownBy w' row) (h':w'.grownBy w'' row):w.grownBy w'' row :=
 ⟨h'.os.trans h.os,h'.tape.trans h.tape,h'.output.trans h.output,Zh h.size h'.size,fun k hk hne=>(h'.block k (Zf hk h.size) hne).trans (h.block k hk hne)⟩
theorem Rw.grown_bel {w w':World} {row:Option Nat} (h:Below w.heap.size w w'):w.grownBy w' row:=⟨h.os,h.tape,h.output,h.size,fun k hk _=>h.block k hk⟩
theorem Rw.grown_row {w w':World} {row:Option Nat} (h:w.grownBy w' none):w.grownBy w' row:=⟨h.os,h.tape,h.output,h.size,fun k hk _=>h.block k hk (by simp)⟩
theorem Rw.At.not {w:World} {b:Nat} {t t':TypeId} {cs:List Value} (h:Rw.At w b t cs) (hne:t≠t'):∀cs' z,w.heap[b]?≠some (.cells cs' t' z):=fun cs' z e=>by
 have:=h.symm.trans e
 simp only[Zi,XD]at this
 exact hne this.2.1
theorem Ss.wrN {z:Int} {k:Nat} (h:z=k) (hk:k≤4000000):wrap64 z=k:=by
 subst h
 unfold wrap64
 omega
theorem Ss.wrI {z y:Int} (h:z=y) (hk:0≤y∧y≤4000000):wrap64 z=y:=by
 subst h
 unfold wrap64
 omega
def Ss.At (w:World) (g sz:Nat) (Z:List Int):Prop:=∃R:List Value,Z.length+R.length=sz∧Rw.At w g 21 (Z.map (Value.int .i32)++R)
theorem Ss.At.cell {w:World} {g sz:Nat} {Z:List Int} (h:Ss.At w g sz Z) {i:Nat} {x:Int} (hx:Z[i]?=some x):w.cell? ⟨g,i,none⟩=some (.int .i32 x):=by
 obtain⟨R,hs,h⟩:=h
 refine Rw.At.cell h i ?_
 rw[ZW (by rw[Zg];exact (List.getElem?_eq_some_iff.1 hx).1),Zu,hx]
 rfl
theorem Ss.At.fro {w:World} {g sz:Nat} {Z:List Int} (h:Ss.At w g sz Z) (i:Nat):w.frozen? ⟨g,i,none⟩=false:=by
 obtain⟨R,hs,h⟩:=h
 exact Rw.At.frozen h i
theorem Ss.At.lt {w:World} {g sz:Nat} {Z:List Int} (h:Ss.At w g sz Z):g<w.heap.size:=by
 obtain⟨R,hs,h⟩:=h
 exact Rw.At.lt h
theorem Ss.At.set {w:World} {g sz:Nat} {Z:List Int} (h:Ss.At w g sz Z) (i:Nat) (hi:i<Z.length) (x:Int):Ss.At (w.setCell ⟨g,i,none⟩ (.int .i32 x)) g sz (Z.set i x):=by
 obtain⟨R,hs,h⟩:=h
 refine⟨R,by rw[Xl];exact hs,?_⟩
 rw[List.map_set,←List.set_append_left _ _ (by rw[Zg];exact hi)]
 exact Rw.At.set h i _
theorem Ss.At.swapA {w:World} {g sz:Nat} {P M Q:List Int} {x y:Int} (h:Ss.At w g sz (P++x::(M++y::Q))):Ss.At ((w.setCell ⟨g,P.length,none⟩ (.int .i32 y)).setCell ⟨g,P.length+1+M.length,none⟩ (.int .i32 x)) g sz (P++y::(M++x::Q)):=by
 have:=(h.set P.length (by simp) y).set (P.length+1+M.length) (by simp;omega) x
 rw[Ss.swap2]at this
 exact this
theorem Ss.At.swapB {w:World} {g sz:Nat} {P M Q:List Int} {x y:Int} (h:Ss.At w g sz (P++x::(M++y::Q))):Ss.At ((w.setCell ⟨g,P.length+1+M.length,none⟩ (.int .i32 x)).setCell ⟨g,P.length,none⟩ (.int .i32 y)) g sz (P++y::(M++x::Q)):=by
 have:=(h.set (P.length+1+M.length) (by simp;omega) x).set P.length (by simp) y
 rw[Ss.swap2']at this
 exact this
theorem Ss.At.below {w w':World} {g sz:Nat} {Z:List Int} (h:Ss.At w g sz Z) (hb:Below w.heap.size w w'):Ss.At w' g sz Z:=by
 obtain⟨R,hs,h⟩:=h
 exact⟨R,hs,Rw.At.below h hb⟩
theorem Ss.grown_drew {w w':World} {row:Option Nat} (h:w.grownBy w' row):w.grownBy w'.drew row:=⟨h.os,h.tape,h.output,h.size,h.block⟩
theorem Ss.grown_refl (w:World) (row:Option Nat):w.grownBy w row:=⟨rfl,rfl,rfl,Zb _,fun _ _ _=>rfl⟩
theorem Ss.grown_below {w w':World} {row:Option Nat} (h:Below w.heap.size w w'):w.grownBy w' row:=⟨h.os,h.tape,h.output,h.size,fun k hk _=>h.block k hk⟩
theorem Ss.grown_set {w w':World} {g:Nat} (h:w.grownBy w' (some g)) (i:Nat) (v:Value):w.grownBy (w'.setCell ⟨g,i,none⟩ v) (some g):=Rw.grown_trans h (Rw.grown_set g i v)
set_option maxRecDepth 100000 in
set_option maxHeartbeats 2000000 in
theorem Ss.swapRange_any (sz g o n0 cap a b n:Nat) (cv:Value) (P X M Y Q:List Int) (w:World) (hZ:Ss.At w g sz (P++(X++(M++(Y++Q))))) (hP:P.length=o+a) (hX:X.length=n) (hY:Y.length=n) (hM:a+n+M.length=b) (hn:b+n≤n0) (au:n0≤1000000) :
 Calls Tryz.prog 207 #[.slice (some ⟨g,o,none⟩) n0 cap,.int .i64 a,.int .i64 b,.int .i64 n,cv] w fun e w'=>e=.returned (.tuple #[])∧Ss.At w' g sz (P++(Y++(M++(X++Q))))∧w.grownBy w' (some g):=by
 have ag:=Za (Ss.mid_all (P:=P) (M:=M) (Q:=Q) hX hY)
 have HZ:=Za hZ
 have HX:=Za hX
 have HY:=Za hY
 have HP:=Za hP
 have HM:=Za hM
 clear hZ hX hY hP hM
 go_enter Tryz.func207,Tryz.ntmps207
 go_wp2_with fail
 go_loopw [10] (fun i wr=>∃t:Nat,t≤n∧i=.int .i64 t∧Ss.At wr g sz (Ss.mid P X M Y Q t)∧w.grownBy wr (some g)) (fun i _=>n-(intOf i).toNat)
 case atStart=>exact⟨0,ZE _,rfl,by rw[Ss.mid_zero];exact HZ.out,Ss.grown_refl _ _⟩
 case round =>
  obtain⟨t,ht,rfl,aa,af⟩:=hrel
  have ak:=Za af
  by_cases hlt:t<n
  · obtain⟨x,hx⟩:∃x,X[t]?=some x:=⟨_,Zc (by rw[HX.out];exact hlt)⟩
    obtain⟨y,hy⟩:∃y,Y[t]?=some y:=⟨_,Zc (by rw[HY.out];exact hlt)⟩
    obtain⟨e1,e2⟩:=Ss.mid_step (P:=P) (M:=M) (Q:=Q) hx hy
    obtain⟨l1,l2⟩:=Ss.mid_len (P:=P) (M:=M) HX.out HY.out hlt
    rw[HP.out]at l1 l2
    have ah:(P++Y.take t).length+1+(X.drop (t+1)++(M++X.take t)).length=o+(b+t):=by have:=HM.out;omega
    have ai:(P++Y.take t).length=o+(a+t):=by omega
    have ao:=Za ai
    have aj:=Za ah
    clear l1 l2 ai ah
    rw[e1]at aa
    have c1:=aa.cell (Ss.get_first _ _ _)
    have c2:=aa.cell (Ss.get_second _ _ _ _ _)
    rw[ao.out]at c1
    rw[aj.out]at c2
    have f1:=aa.fro (o+(a+t))
    have f2:=aa.fro (o+(b+t))
    have gl:=aa.lt
    have ae:=aa.swapA
    rw[←e2,aj.out,ao.out]at ae
    have tI:(t:Int)<n:=by omega
    have a0:(0:Int)≤(a:Int)+t:=by omega
    have a1:(a:Int)+t<n0:=by have:=HM.out;omega
    have b0:(0:Int)≤(b:Int)+t:=by omega
    have b1:(b:Int)+t<n0:=by omega
    have ap:¬a=b:=by have:=HM.out;omega
    have av:¬b=a:=fun h=>ap h.symm
    have wA:wrap64 ((a:Int)+t)=(a:Int)+t:=Ss.wrI (by omega) (by omega)
    have wB:wrap64 ((b:Int)+t)=(b:Int)+t:=Ss.wrI (by omega) (by omega)
    have tA:((a:Int)+t).toNat=a+t:=by omega
    have tB:((b:Int)+t).toNat=b+t:=by omega
    have ar:=Za ae
    clear hx hy e1 e2 aa af ae
    go_wp2
    go_region
    go_wp2
    exact⟨⟨t+1,by omega,by go_num,ar.out,Ss.grown_drew (Ss.grown_set (Ss.grown_set ak.out _ _) _ _)⟩,by simp[intOf];omega⟩
  · obtain rfl:t=n:=by omega
    have tI:¬(t:Int)<t:=by omega
    rw[ag.out]at aa
    have aq:=Za aa
    clear aa af
    go_wp2_with fail
    go_end0
    exact⟨rfl,aq.out,ak.out⟩
def Ss.cmp (a b:Int):Int:=if a<b then -1 else if b<a then 1 else 0
theorem Ss.cmp_lt (a b:Int):Ss.cmp a b<0↔a<b:=by
 unfold Ss.cmp
 split
 · simp;assumption
 · split
   · constructor
     · intro h;omega
     · intro h;omega
   · constructor
     · intro h;omega
     · intro h;omega
def Ss.Cmp (aa:FuncId) (cd:Option Addr) (k:Int→Int) (g:Nat) (w:World):Prop:=∀W,w.grownBy W (some g)→∀x y:Int,Calls Tryz.prog aa #[.int .i32 x,.int .i32 y,.pointer cd] W fun e w'=>e=.returned (.int .i64 (Ss.cmp (k x) (k y)))∧Below W.heap.size W w'
theorem Ss.Cmp.grown {aa:FuncId} {cd:Option Addr} {k:Int→Int} {g:Nat} {w w':World} (h:Ss.Cmp aa cd k g w) (hg:w.grownBy w' (some g)):Ss.Cmp aa cd k g w':=fun W hW=>h W (Rw.grown_trans hg hW)
set_option maxRecDepth 100000 in
set_option maxHeartbeats 2000000 in
theorem Ss.rotate_any (sz g o n0 cap a m b:Nat) (cv:Value) (P U V Q:List Int) (w:World) (hZ:Ss.At w g sz (P++(U++(V++Q)))) (hP:P.length=o+a) (hU:a+U.length=m) (hV:m+V.length=b) (hu:a<m) (hv:m<b) (hn:b≤n0) (bh:n0≤1000000) :
 Calls Tryz.prog 176 #[.slice (some ⟨g,o,none⟩) n0 cap,.int .i64 a,.int .i64 m,.int .i64 b,cv] w fun e w'=>e=.returned (.tuple #[])∧Ss.At w' g sz (P++(V++(U++Q)))∧w.grownBy w' (some g):=by
 have bb:=Za (fun i k n P X M Y Q W h1 h2 h3 h4 h5 h6=>Ss.swapRange_any sz g o n0 cap i k n cv P X M Y Q W h1 h2 h3 h4 h5 h6 bh)
 have HZ:=Za hZ
 have HP:=Za hP
 have HU:=Za hU
 have HV:=Za hV
 clear hZ hP hU hV
 go_enter Tryz.func176,Tryz.ntmps176
 go_wp2_with fail
 go_loopw [10,11] (fun vi vj wr=>∃(i j:Nat) (X Y Pl Sr:List Int),1≤i∧1≤j∧i≤m∧m+j≤b∧vi=.int .i64 i∧vj=.int .i64 j∧X.length=i∧Y.length=j∧Ss.At wr g sz (Pl++(X++(Y++Sr)))∧Pl.length=o+(m-i)∧Pl++(Y++(X++Sr))=P++(V++(U++Q))∧w.grownBy wr (some g)) (fun vi vj _=>(intOf vi).toNat+(intOf vj).toNat)
 case atStart=>exact⟨m-a,b-m,U,V,P,Q,by omega,by omega,by omega,by omega,Z4 (Value.int .i64) (by omega),Z4 (Value.int .i64) (by omega),by have:=HU.out;omega,by have:=HV.out;omega,HZ.out,by rw[HP.out];omega,rfl,Ss.grown_refl _ _⟩
 case round =>
  obtain⟨i,j,X,Y,Pl,Sr,bn,bf,bg,bm,rfl,rfl,hX,hY,aj,ak,ar,au⟩:=hrel
  have ax:=Za au
  have aw:=Za ar
  have bc:=Za ak
  have HX:=Za hX
  have HY:=Za hY
  rcases Nat.lt_trichotomy i j with hij|hij|hij
  · have ag:Y=Y.take (j-i)++Y.drop (j-i):=(ZG _ _).symm
    have ba:(Y.take (j-i)).length=j-i:=by rw[Zq];omega
    have aq:(Y.drop (j-i)).length=i:=by rw[ZK];omega
    obtain⟨Y1,a8⟩:∃l,Y.take (j-i)=l:=⟨_,rfl⟩
    obtain⟨Y2,ay⟩:∃l,Y.drop (j-i)=l:=⟨_,rfl⟩
    rw[a8,ay]at ag
    rw[a8]at ba
    rw[ay]at aq
    have ae:Ss.At wr g sz (Pl++(X++(Y1++(Y2++Sr)))):=by rw[ag]at aj;simpa using aj
    have hS:=Za (bb.out (m-i) (m+j-i) i Pl X Y1 Y2 Sr wr ae ak hX aq (by omega) (by omega))
    have hne:((i:Int) != (j:Int))=true:=by simp;omega
    have hgt:¬((i:Int) > (j:Int)):=by omega
    have a1:=Za ag
    have bk:=Za ba
    have bl:=Za aq
    clear aj ae ag a8 ay au ar ak hX hY ba aq
    go_wp2_with fail
    rw[show (m:Int)-i=((m-i:Nat):Int) from by omega,show (m:Int)+j-i=((m+j-i:Nat):Int) from by omega]
    refine hS.out.mono ?_
    rintro e w1 ⟨rfl,aa,ai⟩
    have af:=Za aa
    have ao:=Za (Rw.grown_trans ax.out ai)
    clear aa ai hS
    go_wp2_with fail
    exact⟨⟨i,j-i,Y2,Y1,Pl,X++Sr,bn,by omega,bg,by omega,rfl,Z4 (Value.int .i64) (by omega),bl.out,bk.out,af.out,bc.out,by rw[←aw.out,a1.out];simp,ao.out⟩,by simp[intOf];omega⟩
  · subst hij
    have ae:Ss.At wr g sz (Pl++(X++([]++(Y++Sr)))):=by simpa using aj
    have hS:=Za (bb.out (m-i) m i Pl X [] Y Sr wr ae ak hX hY (by simp;omega) (by omega))
    have hne:((i:Int) != (i:Int))=false:=by simp
    clear aj ae au ar ak hX hY
    go_wp2_with fail
    rw[show (m:Int)-i=((m-i:Nat):Int) from by omega]
    refine hS.out.mono ?_
    rintro e w1 ⟨rfl,aa,ai⟩
    have af:=Za aa
    have ao:=Za (Rw.grown_trans ax.out ai)
    clear aa ai hS
    go_wp2_with fail
    go_end0
    exact⟨rfl,by rw[←aw.out];simpa using af.out,ao.out⟩
  · have ah:X=X.take j++X.drop j:=(ZG _ _).symm
    have ap:(X.take j).length=j:=by rw[Zq];omega
    have a7:(X.drop j).length=i-j:=by rw[ZK];omega
    obtain⟨X1,az⟩:∃l,X.take j=l:=⟨_,rfl⟩
    obtain⟨X2,av⟩:∃l,X.drop j=l:=⟨_,rfl⟩
    rw[az,av]at ah
    rw[az]at ap
    rw[av]at a7
    have ae:Ss.At wr g sz (Pl++(X1++(X2++(Y++Sr)))):=by rw[ah]at aj;simpa using aj
    have hS:=Za (bb.out (m-i) m j Pl X1 X2 Y Sr wr ae ak ap hY (by omega) (by omega))
    have hne:((i:Int) != (j:Int))=true:=by simp;omega
    have hgt:(i:Int) > (j:Int):=by omega
    have a6:=Za ah
    have bi:=Za ap
    have bj:=Za a7
    clear aj ae ah az av au ar ak hX hY ap a7
    go_wp2_with fail
    rw[show (m:Int)-i=((m-i:Nat):Int) from by omega]
    refine hS.out.mono ?_
    rintro e w1 ⟨rfl,aa,ai⟩
    have af:=Za aa
    have ao:=Za (Rw.grown_trans ax.out ai)
    clear aa ai hS
    go_wp2_with fail
    exact⟨⟨i-j,j,X2,X1,Pl++Y,Sr,by omega,bf,by omega,bm,congrArg (Value.int .i64) (by omega),rfl,bj.out,bi.out,by simpa using af.out,by rw[List.length_append,bc.out,HY.out];omega,by rw[←aw.out,a6.out];simp,ao.out⟩,by simp[intOf];omega⟩
structure Ext (w:World) where
 val:World
 below:Below w.heap.size w val
instance (w:World):Nonempty (Ext w):=⟨⟨w,Zd _ _⟩⟩
theorem Ext.cell {w:World} (x:Ext w) {b:Nat} (o:Nat) (hb:b<w.heap.size):x.val.cell? ⟨b,o,none⟩=w.cell? ⟨b,o,none⟩:=(bcell x.below).1 b o hb
theorem Ext.cells {w:World} {b o:Nat} {v:Value} (h:w.cell? ⟨b,o,none⟩=some v) (hb:b<w.heap.size):∀x:Ext w,x.val.cell? ⟨b,o,none⟩=some v:=fun x=>(x.cell o hb).trans h
theorem Ext.call {P:Program} {f:FuncId} {args:Array Value} {w:World} {v:Value} (h:∀W,Below w.heap.size w W→Calls P f args W fun e w'=>e=.returned v∧Below W.heap.size W w') (x:Ext w) :
 Calls P f args x.val fun e w''=>e=.returned v∧∃y:Ext w,w''=y.val :=
 (h x.val x.below).mono fun _ w' ⟨he,hb⟩=>⟨he,⟨w',x.below.trans (hb.mono x.below.size)⟩,rfl⟩
theorem Ext.same {P:Program} {f:FuncId} {args:Array Value} {w:World} {v:Value} (h:∀W,Below w.heap.size w W→Calls P f args W fun e w'=>e=.returned v∧W=w') (x:Ext w) :
 Calls P f args x.val fun e w''=>e=.returned v∧∃y:Ext w,w''=y.val :=
 (h x.val x.below).mono fun _ w' ⟨he,hb⟩=>⟨he,x,hb.symm⟩
theorem wp_region_ext {P:Program} {id:Nat} {Q:Exit→Act→World→Prop} {a:Act} {w:World} {l:List Oper} (hm:P.follows .mixedOrders=true) (hB:Region.lexB .any l.toArray=true)
 (h:wpQuiet P l.toArray (fun w'=>∃x:Ext w,w'=x.val) (fun a'=>∀x:Ext w,Q .normal a' x.val) l a):(Code.region id l.toArray true).wp P Q a w:=by
 refine wp_region_quiet (C:=fun w'=>∃x:Ext w,w'=x.val) hm hB ⟨⟨_,(Zd _ _).drew⟩,rfl⟩ ?_
 have:(fun a'=>∀x:Ext w,Q .normal a' x.val)=(fun a'=>∀w',(∃x:Ext w,w'=x.val)→Q .normal a' w'):=by
  funext a'
  exact propext ⟨fun h w' ⟨x,hx⟩=>by rw[hx];exact h x,fun h x=>h _ ⟨x,rfl⟩⟩
 rw[←this]
 simpa using h
theorem Ss.concat_cases (l:List Int):l=[]∨∃s x,l=s++[x]:=by
 rcases YL l with h|⟨s,x,h⟩
 · exact .inl h
 · exact .inr ⟨s,x,by rw[h,YM]⟩
set_option maxRecDepth 100000 in
set_option maxHeartbeats 4000000 in
theorem Ss.insertion_any (au:FuncId) (cd:Option Addr) (k:Int→Int) (ap:∀(args:Array Value) (w:World),(callFunc au args).run Tryz.prog w=.ok (.enter au args) w)
 (sz g o n0 cap a b:Nat) (P B Q:List Int) (w:World) (hC:Ss.Cmp au cd k g w) (hZ:Ss.At w g sz (P++(B++Q))) (hP:P.length=o+a) (hB:a+B.length=b) (hn:b≤n0) (bu:n0≤1000000) :
 Calls Tryz.prog 132 #[.slice (some ⟨g,o,none⟩) n0 cap,.int .i64 a,.int .i64 b,.func (.func au) #[] #[.pointer cd]] w fun e w'=>e=.returned (.tuple #[])∧(∃B',Ss.so k B'∧Ss.eqv k B B'∧Ss.At w' g sz (P++(B'++Q)))∧w.grownBy w' (some g):=by
 have a7:=Za ap
 have HC:=Za hC
 have HZ:=Za hZ
 have HP:=Za hP
 have HB:=Za hB
 clear ap hC hZ hP hB
 go_enter Tryz.func132,Tryz.ntmps132
 go_wp2_with fail
 go_loopw [8,9] (fun i _ wr=>∃(t:Nat) (S:List Int),1≤t∧t≤B.length+1∧i=.int .i64 ((a+t:Nat):Int)∧Ss.so k S∧Ss.eqv k (B.take t) S∧Ss.At wr g sz (P++(S++(B.drop t++Q)))∧w.grownBy wr (some g)) (fun i _ _=>b+1-(intOf i).toNat)
 case atStart =>
  refine⟨1,B.take 1,Zb _,by omega,Z4 (Value.int .i64) (Ss.wrN (by omega) (by have:=HB.out;omega)),?_,Ss.eqv.refl _ _,by rw[←Zz (B.take 1),ZG];exact HZ.out,Ss.grown_refl _ _⟩
  cases B with
  | nil=>exact Ss.so_nil k
  | cons x l=>exact Ss.so_one k x
 case round =>
  obtain⟨t,S,bt,b2,rfl,av,ak,aa,af⟩:=hrel
  by_cases hlt:t<B.length
  · obtain⟨x,hx⟩:∃x,B[t]?=some x:=⟨_,Zc hlt⟩
    obtain⟨a1,b1⟩:=List.getElem?_eq_some_iff.1 hx
    have hdr:B.drop t=x::B.drop (t+1):=by rw[ZV a1,b1]
    have ar:B.take (t+1)=B.take t++[x]:=by rw[Zw,hx];rfl
    obtain⟨D,hD⟩:∃D,B.drop (t+1)=D:=⟨_,rfl⟩
    rw[hD]at hdr
    rw[hdr]at aa
    have a8:S.length=t:=by rw[ak.length,Zq];omega
    have jI:((a+t:Nat):Int)<b:=by have:=HB.out;omega
    have bb:=Za av
    have bl:=Za ak
    have a6:=Za af
    have bh:=Za ar
    have HD:=Za hD
    have bk:=Za aa
    have bf:=Za a8
    have bj:=Za HB.out
    clear av ak af ar hD hdr hx aa a8
    go_wp2_with fail
    obtain⟨w1,rfl⟩:∃w1:World,w1=wr:=⟨_,rfl⟩
    go_loopw [9] (fun j wq=>∃(S1 G:List Int) (jj:Nat),S1++G=S∧j=.int .i64 jj∧jj=a+S1.length∧(∀y∈G,k x<k y)∧Ss.At wq g sz (P++(S1++(x::(G++(D++Q)))))∧w1.grownBy wq (some g)) (fun j _=>(intOf j).toNat-a)
    case atStart=>exact⟨S,[],a+t,by simp,rfl,by rw[bf.out],fun y hy=>by simp at hy,bk.out,Ss.grown_refl _ _⟩
    case round =>
     obtain⟨S1,G,jj,ai,rfl,aj,hG,aa,af⟩:=hrel
     have ah:(∀y∈S1,k y≤k x)→Ss.so k (S1++x::G)∧Ss.eqv k (B.take (t+1)) (S1++x::G)∧P++(S1++(x::(G++(D++Q))))=P++((S1++x::G)++(B.drop (t+1)++Q)):=fun bo=>by
      have h1:=bb.out
      rw[←ai]at h1
      obtain⟨h2,h3⟩:=Ss.insert h1 bo hG
      refine⟨h2,?_,by rw[HD.out];simp⟩
      rw[bh.out]
      have h4:=bl.out.app (Ss.eqv.refl k [x])
      rw[←ai]at h4
      exact h4.trans h3
     rcases Ss.concat_cases S1 with rfl|⟨S2,s,rfl⟩
     · obtain⟨f1,f2,f3⟩:=ah (fun y hy=>by simp at hy)
       rw[f3]at aa
       have F1:=Za f1
       have F2:=Za f2
       have F3:=Za aa
       have aq:=Za (Rw.grown_trans a6.out af)
       have hj:¬(a<jj):=by simp at aj;omega
       have gl:=aa.lt
       clear ah f1 f2 f3 aa ai hG af aj
       go_wp2_with fail
       refine wp_region_ext (by kernel_rfl) (by kernel_rfl) ?_
       repeat (go_big_quiet_step (fail))
       refine wpQuiet_nil ?_
       intro xw
       have ax:=Za (F3.out.below xw.below)
       have ao:=Za (Rw.grown_trans aq.out (Ss.grown_below xw.below))
       go_wp2_with fail
       exact⟨⟨t+1,[]++x::G,by omega,by omega,by go_num,F1.out,F2.out,ax.out,ao.out⟩,by simp[intOf];omega⟩
     · obtain⟨j1,rfl⟩:∃j1,jj=j1+1:=⟨a+S2.length,by rw[aj,Ze];rfl⟩
       have az:j1=a+S2.length:=by simp at aj;omega
       have e1:P++((S2++[s])++(x::(G++(D++Q))))=(P++S2)++s::([]++x::(G++(D++Q))):=by simp
       have e2:(P++S2)++x::([]++s::(G++(D++Q)))=P++(S2++(x::((s::G)++(D++Q)))):=by simp
       have ae:=aa
       rw[e1]at ae
       have l1:(P++S2).length=o+j1:=by rw[Ze,HP.out];omega
       have l2:(P++S2).length+1+([]:List Int).length=o+(j1+1):=by rw[l1];rfl
       have L1:=Za l1
       have L2:=Za l2
       clear l1 l2
       have c1:=ae.cell (Ss.get_first _ _ _)
       have c2:=ae.cell (Ss.get_second _ _ _ _ _)
       rw[L1.out]at c1
       rw[L2.out]at c2
       have gl:=aa.lt
       have f1:=aa.fro (o+j1)
       have f2:=aa.fro (o+(j1+1))
       have bx:j1+1<n0:=by
        have h1:=Z4 List.length ai
        have h2:=bf.out
        have h3:=bj.out
        simp at h1
        omega
       have j0:(0:Int)≤j1:=by omega
       have bs:(j1:Int)<n0:=by omega
       have bz:(0:Int)≤(j1:Int)+1:=by omega
       have bp:(j1:Int)+1<n0:=by omega
       have bw:(a:Int)<(j1:Int)+1:=by omega
       have tj:((j1:Int)+1).toNat=j1+1:=by omega
       have ay:=Za ae
       have bn:=Za aa
       have aq:=Za (Rw.grown_trans a6.out af)
       have br:=Za af
       have C1:=Za (Ext.call (w:=wr) fun W hW=>HC.out W (Rw.grown_trans (Rw.grown_trans a6.out af) (Ss.grown_below hW)) x s)
       have x1:=Ext.cells c1 gl
       have x2:=Ext.cells c2 gl
       by_cases hk:k x<k s
       · have hv:Ss.cmp (k x) (k s) = -1:=Zp hk
         rw[hv]at C1
         have bg:Hid (∀y∈s::G,k x<k y):=Za fun y hy=>by
          rcases List.mem_cons.1 hy with rfl|hy
          · exact hk
          · exact hG y hy
         have bi:Hid (S2++(s::G)=S):=Za (by rw[←ai];simp)
         have E2:=Za e2
         have bm:=Za az
         clear ah aa ae hG ai af aj e1 e2 hv az
         go_wp2_with fail
         refine wp_region_ext (by kernel_rfl) (by kernel_rfl) ?_
         have ap:=a7.out
         repeat (go_big_quiet_step (with_reducible exact C1.out _))
         clear ap
         refine wpQuiet_nil ?_
         intro xw
         have ag:=ay.out.below xw.below
         have aw:=ag.swapB
         rw[E2.out,L2.out,L1.out]at aw
         have ba:=Za aw
         have ao:=Za (Rw.grown_trans br.out (Ss.grown_below xw.below))
         have k1:=x1 xw
         have k2:=x2 xw
         have g1:=ag.fro (o+j1)
         have g2:=ag.fro (o+(j1+1))
         have bq:=ag.lt
         obtain⟨wx,bc⟩:∃wx,xw.val=wx:=⟨_,rfl⟩
         rw[bc]at ba ao k1 k2 g1 g2 bq ⊢
         clear x1 x2 c1 c2 f1 f2 gl ag aw bc
         go_wp2_with fail
         go_region
         go_wp2
         exact⟨⟨S2,s::G,j1,bi.out,rfl,bm.out,bg.out,ba.out,Ss.grown_drew (Ss.grown_set (Ss.grown_set ao.out _ _) _ _)⟩,by simp[intOf];omega⟩
       · obtain⟨v,hv⟩:∃v,Ss.cmp (k x) (k s)=v:=⟨_,rfl⟩
         have b3:¬v<0:=by rw[←hv,Ss.cmp_lt];exact hk
         rw[hv]at C1
         have hle:∀y∈S2++[s],k y≤k x:=by
          have h1:=bb.out
          rw[←ai]at h1
          have h2:=h1.left
          intro y hy
          rcases List.mem_append.1 hy with hy|hy
          · have:=h2.cross y hy s Zv
            omega
          · rw[ZA]at hy
            rw[hy]
            omega
         obtain⟨q1,q2,q3⟩:=ah hle
         rw[q3]at aa
         have F1:=Za q1
         have F2:=Za q2
         have F3:=Za aa
         clear ah aa ae hG ai af aj e1 e2 hv az q1 q2 q3 hle hk
         go_wp2_with fail
         refine wp_region_ext (by kernel_rfl) (by kernel_rfl) ?_
         have ap:=a7.out
         repeat (go_big_quiet_step (with_reducible exact C1.out _))
         clear ap
         refine wpQuiet_nil ?_
         intro xw
         have ax:=Za (F3.out.below xw.below)
         have ao:=Za (Rw.grown_trans aq.out (Ss.grown_below xw.below))
         go_wp2_with fail
         exact⟨⟨t+1,(S2++[s])++x::G,by omega,by omega,by go_num,F1.out,F2.out,ax.out,ao.out⟩,by simp[intOf];omega⟩
  · have hd:B.drop t=[]:=Yp (by omega)
    have ar:B.take t=B:=Zj (by omega)
    rw[hd,Z2]at aa
    rw[ar]at ak
    have jI:¬((a+t:Nat):Int)<b:=by have:=HB.out;omega
    have F1:=Za av
    have F2:=Za ak
    have F3:=Za aa
    have aq:=Za af
    clear av ak aa af hd ar
    go_wp2_with fail
    go_end0
    exact⟨rfl,⟨S,F1.out,F2.out,F3.out⟩,aq.out⟩
end Go.Proofs.YtikiplbhlohmdaaGreatDoor
