/- Small laws that all walks of this seat use: slices that are read, slices that are handed back, an append of one. -/
import Derived.Test.YtddbccflcekdpaaGreatDoorAl1
import Derived.Test.YtddbccflcekdpaaGreatDoorRows
set_option linter.unusedVariables false
set_option linter.unusedSimpArgs false
namespace Go.Proofs.YtddbccflcekdpaaGreatDoor
open Go.Proofs.Tryz
section
open Go.RowKit
def Hy (p:Prop):Prop:=p
theorem Hy.o {p:Prop} (h:Hy p):p:=h
theorem Hy.out {p:Prop} (h:Hy p):p:=h
theorem hy' {p:Prop} (h:p):Hy p:=h
theorem zBO {k:IntKind} {a b:Int} (h:a=b):Ending.returned (.int k a)=.returned (.int k b):=by rw[h]
theorem zBb {a b:Bool} (h:a=b):Ending.returned (.bool a)=.returned (.bool b):=by rw[h]
theorem zDJ {k:IntKind} {a a':Int} {x x':Bool} (h:(a,x)=(a',x')) :
 Ending.returned (.tuple #[.int k a,.bool x])=.returned (.tuple #[.int k a',.bool x']):=by
 simp only[YE]at h;obtain⟨rfl,rfl⟩:=h;rfl
theorem zGL {k k':IntKind} {a a' b b':Int} {x x':Bool} (h:(a,b,x)=(a',b',x')) :
 Ending.returned (.tuple #[.int k a,.int k' b,.bool x])=.returned (.tuple #[.int k a',.int k' b',.bool x']):=by
 simp only[YE]at h;obtain⟨rfl,rfl,rfl⟩:=h;rfl
theorem zAI {B:Nat} {W w1:World} (hb:Below B W w1):(∀b o,b<B→w1.cell? ⟨b,o,none⟩=W.cell? ⟨b,o,none⟩)∧(∀b o,b<B→w1.frozen? ⟨b,o,none⟩=W.frozen? ⟨b,o,none⟩) :=
 ⟨fun b o h=>hb.cell (p:=⟨b,o,none⟩) h,fun b o h=>hb.frozen (p:=⟨b,o,none⟩) h⟩
def Sl (w:World) (B:Nat) (A:Option Addr) (xs:List Value):Prop :=
 0<xs.length→∃b o,A=some ⟨b,o,none⟩∧b<B∧∀i,i<xs.length→w.cell? ⟨b,o+i,none⟩=xs[i]?
theorem Sl.nil (w:World) (B:Nat) (A:Option Addr):Sl w B A []:=fun h=>absurd h (by simp)
theorem Sl.below {w w':World} {B B':Nat} {A:Option Addr} {xs:List Value} (h:Sl w B A xs) (hb:Below B w w') (hB:B≤B'):Sl w' B' A xs:=by
 intro hx;obtain⟨b,o,hA,aa,hc⟩:=h hx;exact⟨b,o,hA,by omega,fun i hi=>by rw[←hc i hi];exact hb.cell (p:=⟨b,o+i,none⟩) aa⟩
theorem Sl.belowN {w w':World} {B B0 B':Nat} {A:Option Addr} {xs:List Value} (h:Sl w B A xs) (hb:Below B0 w w') (h0:B≤B0) (hB:B≤B'):Sl w' B' A xs :=
 h.below (hb.mono h0) hB
theorem zCj {w:World} {A:Option Addr} {b:Nat} {xs:List Value} (hA:A=some ⟨b,0,none⟩) (t:TypeId) (z:Nat × Nat) (hb:w.heap[b]?=some (.cells xs.toArray t z)):Sl w w.heap.size A xs:=by
 intro _
 have aa:b<w.heap.size:=by
  rcases ZY b w.heap.size with aa|hge
  · exact aa
  rw[YU hge]at hb;cases hb
 refine⟨b,0,hA,aa,fun i hi=>?_⟩;simp[World.cell?,hb]
theorem Sl.of_own {w:World} {base:Nat} {e:TypeId} {size n c:Nat} {A:Option Addr} {xs:List Value} (h:w.ownsRow base e size (.slice A n c) n xs):Sl w w.heap.size A xs:=by
 intro hx;obtain⟨hl,h⟩:=h;rcases h with ⟨hv,hn⟩|⟨g,cap,af,hv,_,hg,_,_,_,aa⟩
 · subst hn;simp at hl;rw[hl]at hx;simp at hx
 simp only[Z3]at hv;obtain⟨hA,_,_⟩:=hv
 have ae:g<w.heap.size:=by
  rcases ZY g w.heap.size with ae|hge
  · exact ae
  rw[YU hge]at hg;cases hg
 refine⟨g,0,hA,ae,fun i hi=>?_⟩;rw[←aa];simp[World.cell?,hg,Ym,←hl,hi]
theorem zCI {w:World} {g:Nat} {o:Obj} (h:w.heap[g]?=some o):g<w.heap.size:=by
 rcases ZY g w.heap.size with aa|hge
 · exact aa
 rw[YU hge]at h;cases h
theorem zA4 {w w':World} {base B:Nat} {e:TypeId} {size n:Nat} {v:Value} {xs:List Value} (h:w.ownsRow base e size v n xs) (hb:Below B w w') (hB:w.heap.size≤B):w'.ownsRow base e size v n xs:=by
 obtain⟨h1,h2⟩:=h;refine⟨h1,?_⟩;rcases h2 with h2|⟨g,cap,aa,hv,hg,hh,r⟩
 · exact .inl h2
 exact .inr ⟨g,cap,aa,hv,hg,(hb.block g (by have:=zCI hh;omega)).trans hh,r⟩
def RetInts (k:IntKind) (l:List Int) (w:World) (e:Ending) (w':World):Prop :=
 ∃A c,e=.returned (.slice A l.length c)∧Sl w' w'.heap.size A (l.map (Value.int k))∧Below w.heap.size w w'
theorem zA2 {w:World} {base:Nat} {e:TypeId} {size n:Nat} {v:Value} {xs:List Value} (h:w.ownsRow base e size v n xs):∃A c,v=.slice A n c:=by
 rcases h.2 with ⟨rfl,rfl⟩|⟨g,cap,aa,hv,_⟩
 · exact⟨none,0,rfl⟩
 exact⟨_,_,hv⟩
theorem RetInts.of_own {k:IntKind} {l:List Int} {w w':World} {base:Nat} {e:TypeId} {v:Value} {xs:List Value} {n:Nat} (h:w'.ownsRow base e 1 v n xs) (hn:n=l.length) (hx:xs=l.map (Value.int k)) (hb:Below w.heap.size w w'):RetInts k l w (.returned v) w':=by
 subst hn hx;obtain⟨A,c,rfl⟩:=zA2 h;exact⟨A,c,rfl,Sl.of_own h,hb⟩
section
variable {P:Program}
theorem zAj {ops:Array Oper} {rest:List Oper} {o:Oper} {a:Act} {Q:Exit→Act→World→Prop} (w:World) (ah:o.guard=none) (s x:Operand) (t:TypeId)
 (ho:o.op=.call { callee:=.builtin .append,args := #[s,x],argTypes := #[t,t] })
 (base:Nat) (e:TypeId) (i:TypeInfo) (z:Value) (bytes:Nat) (ht:P.underlying t=some (.slice e)) (hi:P.info? e=some i) (hz:i.zero=some z)
 (af:i.size=1) (aj:i.bytes=bytes) (ai:z.cells.size=1)
 (v:Value) (n:Nat) (xs:List Value) (hs:a.eval s=v) (ae:w.ownsRow base e 1 v n xs)
 (u:Value) (h1:u.oneCell'=true) (hx:a.eval x=.slice (some ⟨w.heap.size,0,none⟩) 1 1)
 (ak:n+1≤maxLen) (aa:(n+1)*bytes≤140737488355328) (ag:base≤w.heap.size)
 (h:∀v' w',w'.ownsRow base e 1 v' (n+1) (xs++[u])→Below base w w'→wpList P ops Q rest (a.put o.dst v') w') :
 wpList P ops Q (o::rest) a (w.alloc (.cells #[u] e)):=by
 refine wpList_append_own (P:=P) _ ah s x t ho base e i z 1 bytes ht hi hz af aj ai (by omega) v n xs hs (ae.alloc _) ⟨w.heap.size,0,none⟩ 1 1 [u] hx rfl ?_ ?_ ak aa (by simp;omega) ?_
 · exact J0 _ _ _
 · intro q hq;simp only[Zw]at hq;subst hq;exact h1
 intro v' w' h2 h3 _;refine h v' w' h2 ?_;refine (((Zc _ _).alloc ag _).grown h3 (by simp;omega) ?_);intro k hk;exact (ae.lt k hk).1
end
theorem zDE:(prog.info? 3).map (fun i=>(i.zero,i.size,i.bytes))=some (some (.int .i64 0),1,8):=by kernel_rfl
theorem zCw:(prog.info? 21).map (fun i=>(i.zero,i.size,i.bytes))=some (some (.int .i32 0),1,4):=by kernel_rfl
theorem infoByte:(prog.info? 5).map (fun i=>(i.zero,i.size,i.bytes))=some (some (.int .u8 0),1,1):=by kernel_rfl
end
def Ss.so (f:Int→Int) (l:List Int):Prop:=l.Pairwise fun x y=>f x≤f y
def Ss.eqv (f:Int→Int) (l l':List Int):Prop:=∀k,l'.filter (fun x=>decide (f x=k))=l.filter (fun x=>decide (f x=k))
theorem Ss.eqv.refl (f:Int→Int) (l:List Int):Ss.eqv f l l:=fun _=>rfl
theorem Ss.eqv.trans {f:Int→Int} {a b c:List Int} (h1:Ss.eqv f a b) (h2:Ss.eqv f b c):Ss.eqv f a c:=fun k=>(h2 k).trans (h1 k)
theorem Ss.eqv.symm {f:Int→Int} {a b:List Int} (h1:Ss.eqv f a b):Ss.eqv f b a:=fun k=>(h1 k).symm
theorem Ss.eqv.app {f:Int→Int} {a b a' b':List Int} (h1:Ss.eqv f a a') (h2:Ss.eqv f b b'):Ss.eqv f (a++b) (a'++b'):=fun k=>by
 rw[Yj,Yj,h1 k,h2 k]
theorem Ss.eqv.flip {f:Int→Int} {a b:List Int} (h:∀x∈a,∀y∈b,f x≠f y):Ss.eqv f (a++b) (b++a):=fun k=>by
 rw[Yj,Yj]
 by_cases ha:a.filter (fun x=>decide (f x=k))=[]
 · rw[ha,Z4,ZH]
 have hb:b.filter (fun x=>decide (f x=k))=[]:=by
  rw[List.filter_eq_nil_iff];intro y hy hk;obtain⟨x,hx⟩:=List.exists_mem_of_ne_nil _ ha;rw[X4]at hx;simp only[Zp]at hk hx;exact h x hx.1 y hy (hx.2.trans hk.symm)
 rw[hb,Z4,ZH]
theorem Ss.eqv.mem {f:Int→Int} {a b:List Int} (h:Ss.eqv f a b) (x:Int):x∈b↔x∈a:=by
 have:∀l:List Int,x∈l↔x∈l.filter (fun y=>decide (f y=f x)):=fun l=>by rw[X4];simp
 rw[this a,this b,h (f x)]
theorem Ss.eqv.perm {f:Int→Int} {a b:List Int} (h:Ss.eqv f a b):b.Perm a:=by
 rw[List.perm_iff_count];intro x;have hc:∀l:List Int,List.count x l=List.count x (l.filter (fun y=>decide (f y=f x))):=fun l=>(List.count_filter (by simp)).symm
 rw[hc a,hc b,h (f x)]
theorem Ss.eqv.length {f:Int→Int} {a b:List Int} (h:Ss.eqv f a b):b.length=a.length:=h.perm.length_eq
theorem Ss.so.app {f:Int→Int} {a b:List Int} (h1:Ss.so f a) (h2:Ss.so f b) (h:∀x∈a,∀y∈b,f x≤f y):Ss.so f (a++b):=List.pairwise_append.2 ⟨h1,h2,h⟩
theorem Ss.so.left {f:Int→Int} {a b:List Int} (h:Ss.so f (a++b)):Ss.so f a:=(List.pairwise_append.1 h).1
theorem Ss.so.right {f:Int→Int} {a b:List Int} (h:Ss.so f (a++b)):Ss.so f b:=(List.pairwise_append.1 h).2.1
theorem Ss.so.cross {f:Int→Int} {a b:List Int} (h:Ss.so f (a++b)):∀x∈a,∀y∈b,f x≤f y:=(List.pairwise_append.1 h).2.2
theorem Ss.unique {f:Int→Int}:∀{a b:List Int},Ss.so f a→Ss.so f b→Ss.eqv f a b→b=a
 | [],b,_,_,h=>Zz (by rw[h.length];rfl)
 | x::a,[],_,_,h=>by
   have:=h.length;simp at this
 | x::a,y::b,ha,hb,h=>by
   unfold Ss.so at ha hb;rw[XD]at ha hb;have hx:x∈y::b:=(h.mem x).2 Zt;have hy:y∈x::a:=(h.mem y).1 Zt
   have h1:f y≤f x:=by
    rcases List.mem_cons.1 hx with e|e
    · rw[e];exact Yq _
    exact hb.1 x e
   have h2:f x≤f y:=by
    rcases List.mem_cons.1 hy with e|e
    · rw[e];exact Yq _
    exact ha.1 y e
   have hk:f x=f y:=by omega
   have h3:=h (f x);rw[Yu,Yu,Zo (by simp[hk]),Zo (by simp)]at h3;have aa:y=x:=(Q0 h3).1;subst aa;rw[Ss.unique ha.2 hb.2 fun k=>?_];have h4:=h k;rw[Yu,Yu]at h4;split at h4
   · exact (Q0 h4).2
   exact h4
theorem Ss.insert {f:Int→Int} {s g:List Int} {x:Int} (hs:Ss.so f (s++g)) (h1:∀y∈s,f y≤f x) (h2:∀y∈g,f x<f y):Ss.so f (s++x::g)∧Ss.eqv f (s++g++[x]) (s++x::g):=by
 refine⟨?_,?_⟩
 · refine hs.left.app ?_ ?_
   · exact List.pairwise_cons.2 ⟨fun y hy=>J1 (h2 y hy),hs.right⟩
   intro y hy z hz;rcases List.mem_cons.1 hz with rfl|hz
   · exact h1 y hy
   exact hs.cross y hy z hz
 rw[ZC];refine (Ss.eqv.refl f s).app ?_
 exact Ss.eqv.flip (a:=g) (b:=[x]) fun y hy z hz=>by
  rw[Zw]at hz;have:=h2 y hy;rw[hz];omega
theorem zPY {f:Int→Int} {a1 a2 b1 b2 c1 c2:List Int} (ha:Ss.so f (a1++a2)) (hb:Ss.so f (b1++b2)) (h1:∀x∈b1,∀y∈a2,f x<f y) (h2:∀x∈a1,∀y∈b2,f x≤f y)
 (s1:Ss.so f c1) (e1:Ss.eqv f (a1++b1) c1) (s2:Ss.so f c2) (e2:Ss.eqv f (a2++b2) c2):Ss.so f (c1++c2)∧Ss.eqv f ((a1++a2)++(b1++b2)) (c1++c2):=by
 refine⟨s1.app s2 fun x hx y hy=>?_,?_⟩
 · rcases List.mem_append.1 ((e1.mem x).1 hx) with hx|hx <;> rcases List.mem_append.1 ((e2.mem y).1 hy) with hy|hy
   · exact ha.cross x hx y hy
   · exact h2 x hx y hy
   · exact J1 (h1 x hx y hy)
   exact hb.cross x hx y hy
 have g1:Ss.eqv f ((a1++a2)++(b1++b2)) ((a1++b1)++(a2++b2)):=by
  rw[ZC,ZC];refine (Ss.eqv.refl f a1).app ?_;rw[←ZC,←ZC];refine Ss.eqv.app ?_ (Ss.eqv.refl f b2);exact Ss.eqv.flip fun x hx y hy=>by have:=h1 y hy x hx;omega
 exact g1.trans (e1.app e2)
theorem zKH {f:Int→Int} {x:Int} {b1 b2:List Int} (hb:Ss.so f (b1++b2)) (h1:∀y∈b1,f y<f x) (h2:∀y∈b2,f x≤f y):Ss.so f (b1++x::b2)∧Ss.eqv f (x::(b1++b2)) (b1++x::b2):=by
 refine⟨?_,?_⟩
 · refine hb.left.app (List.pairwise_cons.2 ⟨h2,hb.right⟩) ?_;intro y hy z hz;rcases List.mem_cons.1 hz with rfl|hz
   · exact J1 (h1 y hy)
   exact hb.cross y hy z hz
 have:Ss.eqv f ([x]++b1) (b1++[x]):=Ss.eqv.flip fun y hy z hz=>by
  rw[Zw]at hy;have:=h1 z hz;rw[hy];omega
 have h:=this.app (Ss.eqv.refl f b2);simpa using h
theorem Ss.so.get {f:Int→Int} {l:List Int} (h:Ss.so f l) {i j:Nat} {x y:Int} (hi:l[i]?=some x) (hj:l[j]?=some y) (hij:i≤j):f x≤f y:=by
 obtain⟨a1,b1⟩:=List.getElem?_eq_some_iff.1 hi;obtain⟨a2,b2⟩:=List.getElem?_eq_some_iff.1 hj;rcases ZY i j with hl|hl
 · have:=List.pairwise_iff_getElem.1 h i j a1 a2 hl;rw[b1,b2]at this;exact this
 have:i=j:=by omega
 subst this;rw[hi]at hj;cases hj
 exact Yq _
theorem zE6 {l:List Int} {n:Nat} {x:Int} (h:x∈l.take n):∃i,i<n∧l[i]?=some x:=by
 obtain⟨i,hi⟩:=List.mem_iff_getElem?.1 h;rw[Ym]at hi;split at hi
 · rename_i h1;exact⟨i,h1,hi⟩
 cases hi
theorem zE7 {l:List Int} {n:Nat} {x:Int} (h:x∈l.drop n):∃i,n≤i∧l[i]?=some x:=by
 obtain⟨i,hi⟩:=List.mem_iff_getElem?.1 h;rw[Xe]at hi;exact⟨n+i,by omega,hi⟩
theorem Ss.sym {f:Int→Int} {A B:List Int} {s j:Nat} (hs:s≤A.length) (hj:j≤B.length) (hA:Ss.so f A) (hB:Ss.so f B) (P1:∀x y,A[s]?=some x→0<j→B[j-1]?=some y→f y<f x) (P2:∀x y,0<s→A[s-1]?=some x→B[j]?=some y→f x≤f y) :
 (∀x∈B.take j,∀y∈A.drop s,f x<f y)∧(∀x∈A.take s,∀y∈B.drop j,f x≤f y):=by
 refine⟨fun x hx y hy=>?_,fun x hx y hy=>?_⟩
 · obtain⟨i,hi,ae⟩:=zE6 hx;obtain⟨k,hk,aa⟩:=zE7 hy;have ag:=(List.getElem?_eq_some_iff.1 aa).1;have af:=(List.getElem?_eq_some_iff.1 ae).1;obtain⟨u,hu⟩:∃u,A[s]?=some u:=⟨_,Zb (by omega)⟩;obtain⟨v,hv⟩:∃v,B[j-1]?=some v:=⟨_,Zb (by omega)⟩;have h1:=P1 u v hu (by omega) hv;have h2:=hA.get hu aa hk;have h3:=hB.get ae hv (by omega);omega
 obtain⟨i,hi,ae⟩:=zE6 hx;obtain⟨k,hk,aa⟩:=zE7 hy;have ag:=(List.getElem?_eq_some_iff.1 aa).1;have af:=(List.getElem?_eq_some_iff.1 ae).1;obtain⟨v,hv⟩:∃v,B[j]?=some v:=⟨_,Zb (by omega)⟩;obtain⟨u,hu⟩:∃u,A[s-1]?=some u:=⟨_,Zb (by omega)⟩;have h1:=P2 u v (by omega) hu hv;have h2:=hA.get ae hu (by omega);have h3:=hB.get hv aa hk;omega
theorem zKI (P M Q:List Int) (x y:Int):((P++x::(M++y::Q)).set P.length y).set (P.length+1+M.length) x=P++y::(M++x::Q):=by
 rw[Yz _ _ (Za _),Yo,Zj,Yz _ _ (by omega),show P.length+1+M.length-P.length=M.length+1 by omega,Zk,Yz _ _ (Za _),Yo,Zj]
theorem zPZ (P M Q:List Int) (x y:Int):((P++x::(M++y::Q)).set (P.length+1+M.length) x).set P.length y=P++y::(M++x::Q):=by
 rw[List.set_comm _ _ (by omega),zKI]
theorem zC3 (P R:List Int) (x:Int):(P++x::R)[P.length]?=some x:=by simp
theorem zBp (P M Q:List Int) (x y:Int):(P++x::(M++y::Q))[P.length+1+M.length]?=some y:=by
 rw[ZJ (by omega),show P.length+1+M.length-P.length=M.length+1 by omega,Y3,ZJ (Za _),Yo];rfl
def Ss.mid (P X M Y Q:List Int) (t:Nat):List Int:=P++((Y.take t++X.drop t)++(M++((X.take t++Y.drop t)++Q)))
theorem Ss.mid_zero (P X M Y Q:List Int):Ss.mid P X M Y Q 0=P++(X++(M++(Y++Q))):=by unfold Ss.mid;simp
theorem Ss.mid_all {P X M Y Q:List Int} {n:Nat} (hX:X.length=n) (hY:Y.length=n):Ss.mid P X M Y Q n=P++(Y++(M++(X++Q))):=by
 unfold Ss.mid;rw[Zm (by omega),Zm (by omega),Ye (by omega),Ye (by omega)];simp
theorem zN0 {P X M Y Q:List Int} {t:Nat} {x y:Int} (hx:X[t]?=some x) (hy:Y[t]?=some y) :
 Ss.mid P X M Y Q t=(P++Y.take t)++x::((X.drop (t+1)++(M++X.take t))++y::(Y.drop (t+1)++Q))∧Ss.mid P X M Y Q (t+1)=(P++Y.take t)++y::((X.drop (t+1)++(M++X.take t))++x::(Y.drop (t+1)++Q)):=by
 obtain⟨a1,b1⟩:=List.getElem?_eq_some_iff.1 hx;obtain⟨a2,b2⟩:=List.getElem?_eq_some_iff.1 hy;have e1:X.drop t=x::X.drop (t+1):=by rw[ZM a1,b1]
 have e2:Y.drop t=y::Y.drop (t+1):=by rw[ZM a2,b2]
 have e3:X.take (t+1)=X.take t++[x]:=by rw[ZB,hx];rfl
 have e4:Y.take (t+1)=Y.take t++[y]:=by rw[ZB,hy];rfl
 unfold Ss.mid;rw[e1,e2,e3,e4];simp
theorem Ss.mid_len {X M Y:List Int} {P:List Int} {t n:Nat} (hX:X.length=n) (hY:Y.length=n) (ht:t<n):(P++Y.take t).length=P.length+t∧(P++Y.take t).length+1+(X.drop (t+1)++(M++X.take t)).length=P.length+n+M.length+t:=by
 simp;omega
def Ss.chk (f:Int→Int) (bs:Nat) (l:List Int):Prop:=∀i,Ss.so f ((l.drop (i*bs)).take bs)
theorem zJQ (f:Int→Int) (bs:Nat):Ss.chk f bs []:=fun i=>by simp[Ss.so]
theorem zD3 {f:Int→Int} {bs k:Nat} {l c:List Int} (hl:l.length=k*bs) (h:Ss.chk f bs l) (hc:Ss.so f c) (aa:c.length≤bs):Ss.chk f bs (l++c):=by
 intro i;rcases XM i k with hi|hi|hi
 · have h1:(i+1)*bs≤k*bs:=QC _ hi;rw[Nat.add_mul,Nat.one_mul]at h1;rw[Xz (by omega),XB (by rw[ZO];omega)];exact h i
 · subst hi;rw[←hl,Xv,Zm aa];exact hc
 have h1:(k+1)*bs≤i*bs:=QC _ hi;rw[Nat.add_mul,Nat.one_mul]at h1;rw[Ye (by rw[Zd];omega)];simp[Ss.so]
theorem zOM {f:Int→Int} {bs:Nat} {l:List Int} (h:Ss.chk f bs l) (hl:l.length≤bs):Ss.so f l:=by
 have:=h 0;rw[J2,QP,Zm hl]at this;exact this
theorem zGe (f:Int→Int):Ss.so f []:=List.Pairwise.nil
theorem zLC (f:Int→Int) (x:Int):Ss.so f [x]:=by simp[Ss.so]
theorem Ss.eqv.nil {f:Int→Int} {l:List Int} (h:Ss.eqv f [] l):l=[]:=Zz (by rw[h.length];rfl)
inductive Or.R (f:Int→Int):List Int→List Int→Prop
 | run {a b:List Int}:(∀x∈a,0<f x)→Ss.so f b→Ss.eqv f a b→Or.R f a b
 | cons {a b l m:List Int} {c:Int}:(∀x∈a,0<f x)→Ss.so f b→Ss.eqv f a b→¬0<f c→Or.R f l m→Or.R f (a++c::l) (b++c::m)
theorem Or.split {f:Int→Int}:∀{a a':List Int} {l l':List Int} {c c':Int},(∀x∈a,0<f x)→(∀x∈a',0<f x)→¬0<f c→¬0<f c'→a++c::l=a'++c'::l'→a=a'∧c=c'∧l=l'
 | [],[],l,l',c,c',_,_,_,_,h=>by
   simp at h;exact⟨rfl,h.1,h.2⟩
 | [],y::a',l,l',c,c',_,h2,h3,_,h=>by
   simp at h;exact absurd (h.1▸h2 y Zt) h3
 | x::a,[],l,l',c,c',h1,_,_,h4,h=>by
   simp at h;exact absurd (h.1▸h1 x Zt) h4
 | x::a,y::a',l,l',c,c',h1,h2,h3,h4,h=>by
   simp only[Zx,YI]at h;obtain⟨rfl,h5⟩:=h;obtain⟨g1,g2,g3⟩:=Or.split (fun z hz=>h1 z (Zv _ hz)) (fun z hz=>h2 z (Zv _ hz)) h3 h4 h5;exact⟨by rw[g1],g2,g3⟩
theorem Or.R.unique {f:Int→Int} {l m:List Int} (h:Or.R f l m):∀{m':List Int},Or.R f l m'→m'=m:=by
 induction h with
 | @run a b h1 h2 h3 =>
   intro m' h';generalize he:a=a0 at h';cases h' with
   | run g1 g2 g3=>subst he;exact Ss.unique h2 g2 (h3.symm.trans g3)
   | @cons a' b' l' m'' c' g1 g2 g3 g4 g5 =>
     exact absurd (h1 c' (by rw[he];simp)) g4
 | @cons a b l m c h1 h2 h3 h4 h5 ih =>
   intro m' h';generalize he:a++c::l=a0 at h';cases h' with
   | run g1 g2 g3=>exact absurd (g1 c (by rw[←he];simp)) h4
   | @cons a' b' l' m'' c' g1 g2 g3 g4 g5 =>
     obtain⟨rfl,rfl,rfl⟩:=Or.split h1 g1 h4 g4 he;rw[ih g5,Ss.unique h2 g2 (h3.symm.trans g3)]
inductive Or.Pre (f:Int→Int):List Int→List Int→Prop
 | nil:Or.Pre f [] []
 | snoc {p q a b:List Int} {c:Int}:Or.Pre f p q→(∀x∈a,0<f x)→Ss.so f b→Ss.eqv f a b→¬0<f c→Or.Pre f (p++(a++[c])) (q++(b++[c]))
theorem Or.Pre.app {f:Int→Int} {p q:List Int} (h:Or.Pre f p q):∀{l m:List Int},Or.R f l m→Or.R f (p++l) (q++m):=by
 induction h with
 | nil=>intro l m hr;exact hr
 | @snoc p q a b c h1 h2 h3 h4 h5 ih =>
   intro l m hr;have:=ih (Or.R.cons h2 h3 h4 h5 hr);simpa using this
theorem Or.Pre.length {f:Int→Int} {p q:List Int} (h:Or.Pre f p q):q.length=p.length:=by
 induction h with
 | nil=>rfl
 | snoc h1 h2 h3 h4 h5 ih=>simp[ih,h4.length]
theorem Or.R.length {f:Int→Int} {l m:List Int} (h:Or.R f l m):m.length=l.length:=by
 induction h with
 | run h1 h2 h3=>exact h3.length
 | cons h1 h2 h3 h4 h5 ih=>simp[ih,h3.length]
theorem Or.R.mem {f:Int→Int} {l m:List Int} (h:Or.R f l m) (x:Int):x∈m↔x∈l:=by
 induction h with
 | run h1 h2 h3=>exact h3.mem x
 | cons h1 h2 h3 h4 h5 ih=>simp[ih,h3.mem x]
def zBP (f:Int→Int):Int→List Int→List Int
 | x,[]=>[x]
 | x,y::l=>if 0<f y∧f y<f x then y::zBP f x l else x::zBP f y l
def zBW (f:Int→Int):List Int→List Int
 | []=>[]
 | x::l=>zBP f x l
def zBq (f:Int→Int):Nat→List Int→List Int
 | 0,l=>l
 | n+1,l=>zBq f n (zBW f l)
theorem zJR {f:Int→Int} {c:Int} (hc:¬0<f c):∀(l:List Int),zBP f c l=c::zBW f l
 | []=>rfl
 | y::l=>by
   unfold zBP zBW;rw[Zl (by omega)]
theorem zGM {f:Int→Int} {c:Int} (hc:¬0<f c):∀(a:List Int) (x:Int) (l:List Int),zBP f x (a++c::l)=zBP f x a++c::zBW f l
 | [],x,l=>by
   rw[ZH];show (if 0<f c∧f c<f x then _ else x::zBP f c l)=_;rw[Zl (fun h=>hc h.1),zJR hc];rfl
 | y::a,x,l=>by
   rw[Zx];show (if 0<f y∧f y<f x then y::zBP f x (a++c::l) else x::zBP f y (a++c::l))=(if 0<f y∧f y<f x then y::zBP f x a else x::zBP f y a)++c::zBW f l;rw[zGM hc a x l,zGM hc a y l];split <;> rfl
theorem zLD {f:Int→Int} {c:Int} (hc:¬0<f c) (a l:List Int):zBW f (a++c::l)=zBW f a++c::zBW f l:=by
 cases a with
 | nil=>exact zJR hc l
 | cons x a=>exact zGM hc a x l
theorem zHm {f:Int→Int} {c:Int} (hc:¬0<f c):∀(n:Nat) (a l:List Int),zBq f n (a++c::l)=zBq f n a++c::zBq f n l
 | 0,a,l=>rfl
 | n+1,a,l=>by
   unfold zBq;rw[zLD hc,zHm hc n]
theorem Or.go_len (f:Int→Int):∀(l:List Int) (x:Int),(zBP f x l).length=l.length+1
 | [],x=>rfl
 | y::l,x=>by
   unfold zBP;split
   · simp[Or.go_len f l x]
   simp[Or.go_len f l y]
theorem zGf (f:Int→Int):∀(l:List Int) (x:Int),Ss.eqv f (x::l) (zBP f x l)
 | [],x=>Ss.eqv.refl _ _
 | y::l,x=>by
   unfold zBP;split
   · rename_i h
     have h1:Ss.eqv f ([x]++[y]) ([y]++[x]):=Ss.eqv.flip fun a ha b hb=>by
      rw[Zw]at ha hb;rw[ha,hb];omega
     have h2:=h1.app (Ss.eqv.refl f l);have h3:=(Ss.eqv.refl f [y]).app (zGf f l x);exact Ss.eqv.trans (by simpa using h2) (by simpa using h3)
   have h3:=(Ss.eqv.refl f [x]).app (zGf f l y);simpa using h3
theorem zIn (f:Int→Int) (l:List Int):Ss.eqv f l (zBW f l):=by
 cases l with
 | nil=>exact Ss.eqv.refl _ _
 | cons x l=>exact zGf f l x
theorem zBX (f:Int→Int):∀(n:Nat) (l:List Int),Ss.eqv f l (zBq f n l)
 | 0,l=>Ss.eqv.refl _ _
 | n+1,l=>(zIn f l).trans (zBX f n _)
theorem zGN {f:Int→Int}:∀(l:List Int) (x:Int),(∀y∈x::l,0<f y)→∃k m,zBP f x l=k++[m]∧∀y∈x::l,f y≤f m
 | [],x,h=>⟨[],x,rfl,fun y hy=>by rw[Zw]at hy;rw[hy];exact Yq _⟩
 | y::l,x,h=>by
   unfold zBP;split
   · rename_i hc;obtain⟨k,m,h1,h2⟩:=zGN l x (fun z hz=>h z (by rcases List.mem_cons.1 hz with rfl|hz;exact Zt;exact Zv _ (Zv _ hz)));refine⟨y::k,m,by rw[h1];rfl,fun z hz=>?_⟩;rcases List.mem_cons.1 hz with rfl|hz
     · exact h2 z Zt
     rcases List.mem_cons.1 hz with rfl|hz
     · have:=h2 x Zt;omega
     exact h2 z (Zv _ hz)
   rename_i hc;obtain⟨k,m,h1,h2⟩:=zGN l y (fun z hz=>h z (Zv _ hz));refine⟨x::k,m,by rw[h1];rfl,fun z hz=>?_⟩;rcases List.mem_cons.1 hz with rfl|hz
   · have h3:=h2 y Zt;have h4:=h y (Zv _ Zt);omega
   exact h2 z hz
theorem zGO {f:Int→Int} {m:Int}:∀(k:List Int) (x:Int),(∀y∈x::k,f y≤f m)→zBP f x (k++[m])=zBP f x k++[m]
 | [],x,h=>by
   show (if 0<f m∧f m<f x then _ else _)=_;rw[Zl (by have:=h x Zt;omega)];rfl
 | y::k,x,h=>by
   rw[Zx];unfold zBP;rw[zGO k x (fun z hz=>h z (by rcases List.mem_cons.1 hz with rfl|hz;exact Zt;exact Zv _ (Zv _ hz))),zGO k y (fun z hz=>h z (Zv _ hz))];split <;> rfl
theorem zLE {f:Int→Int} {m:Int} (k:List Int) (h:∀y∈k,f y≤f m):zBW f (k++[m])=zBW f k++[m]:=by
 cases k with
 | nil=>rfl
 | cons x k=>exact zGO k x h
theorem zHn {f:Int→Int} {m:Int}:∀(n:Nat) (k:List Int),(∀y∈k,f y≤f m)→zBq f n (k++[m])=zBq f n k++[m]
 | 0,k,h=>rfl
 | n+1,k,h=>by
   unfold zBq;rw[zLE k h,zHn n _ fun y hy=>h y (((zIn f k).mem y).1 hy)]
theorem zFd {f:Int→Int}:∀(n:Nat) (l:List Int),l.length≤n→(∀x∈l,0<f x)→Ss.so f (zBq f n l)
 | 0,l,hl,_=>by
   obtain rfl:l=[]:=Zz (by omega);exact zGe f
 | n+1,[],_,_=>by
   have:∀n,zBq f n []=[]:=by
    intro n
    induction n with
    | zero=>rfl
    | succ n ih=>exact ih
   rw[this];exact zGe f
 | n+1,x::l,hl,h=>by
   show Ss.so f (zBq f n (zBP f x l));obtain⟨k,m,h1,h2⟩:=zGN l x h;have hq:=zGf f l x;rw[h1]at hq ⊢;have hk:∀y∈k,y∈x::l:=fun y hy=>(hq.mem y).1 (by simp[hy])
   have hlen:=hq.length;rw[zHn n k fun y hy=>h2 y (hk y hy)];refine (zFd n k (by simp at hlen hl;omega) fun y hy=>h y (hk y hy)).app (zLC f m) fun a ha b hb=>?_
   rw[Zw]at hb;rw[hb];exact h2 a (hk a (((zBX f n k).mem a).1 ha))
theorem zLF {f:Int→Int} (n:Nat):∀(j:Nat) (l:List Int),l.length≤j→j≤n→Or.R f l (zBq f n l)
 | 0,l,hl,hn=>by
   obtain rfl:l=[]:=Zz (by omega);refine .run (fun x hx=>by simp at hx) (zFd n [] (by simp) (fun x hx=>by simp at hx)) (zBX f n [])
 | j+1,l,hl,hn=>by
   by_cases h:∀x∈l,0<f x
   · exact .run h (zFd n l (by omega) h) (zBX f n l)
   have he:=List.takeWhile_append_dropWhile (p:=fun x=>decide (0<f x)) (l:=l);have ht:∀x∈l.takeWhile (fun x=>decide (0<f x)),0<f x:=fun x hx=>by simpa using List.all_eq_true.1 (List.all_takeWhile (l:=l) (p:=fun x=>decide (0<f x))) x hx
   cases hd:l.dropWhile (fun x=>decide (0<f x)) with
   | nil =>
     rw[hd,Z4]at he;exact absurd (fun x hx=>ht x (by rw[he];exact hx)) h
   | cons c r =>
     have hc:¬0<f c:=by
      have:=List.head?_dropWhile_not (fun x=>decide (0<f x)) l;rw[hd]at this;simpa using this
     rw[hd]at he;have hlen:=Yb List.length he;simp at hlen;rw[←he,zHm hc];exact .cons ht (zFd n _ (by omega) ht) (zBX f n _) hc (zLF n j r (by omega) (by omega))
theorem zRa (f:Int→Int) (l:List Int):Or.R f l (zBq f l.length l):=zLF l.length l.length l (Za _) (Za _)
def Or.of (f:Int→Int) (l:List Int):List Int:=zBq f l.length l
theorem zBQ (f:Int→Int) (l:List Int):Or.R f l (Or.of f l):=zRa f l
theorem zCA (f:Int→Int) (l:List Int):(Or.of f l).length=l.length:=(zBQ f l).length
theorem Or.cut (f:Int→Int):∀l:List Int,(∀x∈l,0<f x)∨∃a c m,l=a++c::m∧(∀x∈a,0<f x)∧¬0<f c
 | []=>.inl fun x h=>absurd h Z6
 | y::l=>by
   by_cases h:0<f y
   · rcases Or.cut f l with h1|⟨a,c,m,rfl,h1,h2⟩
     · exact .inl fun x hx=>by rcases List.mem_cons.1 hx with rfl|hx;exact h;exact h1 x hx
     exact .inr ⟨y::a,c,m,rfl,fun x hx=>by rcases List.mem_cons.1 hx with rfl|hx;exact h;exact h1 x hx,h2⟩
   exact .inr ⟨[],y,l,rfl,fun x hx=>absurd hx Z6,h⟩
inductive Or.Q (f:Int→Int):List Int→List Int→Prop
 | run {a b:List Int}:(∀x∈a,0<f x)→Ss.eqv f a b→Or.Q f a b
 | cons {a b l m:List Int} {c:Int}:(∀x∈a,0<f x)→Ss.eqv f a b→¬0<f c→Or.Q f l m→Or.Q f (a++c::l) (b++c::m)
theorem Ss.eqv.pos {f:Int→Int} {a b:List Int} (h:Ss.eqv f a b) (ha:∀x∈a,0<f x):∀x∈b,0<f x:=fun x hx=>ha x ((h.mem x).1 hx)
theorem Or.R.toQ {f:Int→Int} {l m:List Int} (h:Or.R f l m):Or.Q f l m:=by
 induction h with
 | run h1 h2 h3=>exact .run h1 h3
 | cons h1 h2 h3 h4 h5 ih=>exact .cons h1 h3 h4 ih
theorem Or.Q.symm {f:Int→Int} {l m:List Int} (h:Or.Q f l m):Or.Q f m l:=by
 induction h with
 | run h1 h2=>exact .run (h2.pos h1) h2.symm
 | cons h1 h2 h3 h4 ih=>exact .cons (h2.pos h1) h2.symm h3 ih
theorem Or.Q.R {f:Int→Int} {l m:List Int} (h:Or.Q f l m):∀{r:List Int},Or.R f l r→Or.R f m r:=by
 induction h with
 | @run a b h1 h2 =>
   intro r h';generalize he:a=a0 at h';cases h' with
   | run g1 g2 g3=>subst he;exact .run (h2.pos h1) g2 (h2.symm.trans g3)
   | @cons a' b' l' m'' c' g1 g2 g3 g4 g5=>exact absurd (h1 c' (by rw[he];simp)) g4
 | @cons a b l m c h1 h2 h3 h4 ih =>
   intro r h';generalize he:a++c::l=a0 at h';cases h' with
   | run g1 g2 g3=>exact absurd (g1 c (by rw[←he];simp)) h3
   | @cons a' b' l' m'' c' g1 g2 g3 g4 g5 =>
     obtain⟨rfl,rfl,rfl⟩:=Or.split h1 g1 h3 g4 he;exact .cons (h2.pos h1) g2 (h2.symm.trans g3) h3 (ih g5)
theorem Or.Q.of {f:Int→Int} {l m:List Int} (h:Or.Q f l m):Or.of f l=Or.of f m:=(h.R (zBQ f l)).unique (zBQ f m) |>.symm
theorem zIo (f:Int→Int) (l:List Int):Or.Q f l (Or.of f l):=(zBQ f l).toQ
theorem Or.Q.trans {f:Int→Int} {l m r:List Int} (h:Or.Q f l m) (h':Or.Q f m r):Or.Q f l r:=by
 have h1:=h'.R (h.R (zBQ f l))
 have:∀{x y},Or.R f x y→∀{z},Or.R f z y→Or.Q f x z:=by
  intro x y aa
  induction aa with
  | @run a b g1 g2 g3 =>
    intro z hz;generalize he:b=b0 at hz;cases hz with
    | run k1 k2 k3=>subst he;exact .run g1 (g3.trans k3.symm)
    | @cons a' b' l' m'' c' k1 k2 k3 k4 k5=>exact absurd (g3.pos g1 c' (by rw[he];simp)) k4
  | @cons a b l m c g1 g2 g3 g4 g5 ih =>
    intro z hz;generalize he:b++c::m=b0 at hz;cases hz with
    | run k1 k2 k3=>exact absurd (k3.pos k1 c (by rw[←he];simp)) g4
    | @cons a' b' l' m'' c' k1 k2 k3 k4 k5 =>
      obtain⟨rfl,rfl,rfl⟩:=Or.split (g3.pos g1) (k3.pos k1) g4 k4 he;exact .cons g1 (g3.trans k3.symm) g4 (ih k5)
 exact this (zBQ f l) h1
theorem Or.Q.refl (f:Int→Int) (l:List Int):Or.Q f l l:=(zIo f l).trans (zIo f l).symm
theorem zRb {f:Int→Int} {l m:List Int}:Or.Q f l m↔Or.of f l=Or.of f m :=
 ⟨fun h=>h.of,fun h=>(zIo f l).trans (h▸(zIo f m).symm)⟩
theorem Or.Q.app {f:Int→Int} {l m p q:List Int} (h:Or.Q f l m) (h':Or.Q f p q):Or.Q f (l++p) (m++q):=by
 induction h with
 | @run a b h1 h2 =>
   cases h' with
   | run g1 g2=>exact .run (fun x hx=>by rcases List.mem_append.1 hx with h|h;exact h1 x h;exact g1 x h) (h2.app g2)
   | @cons a' b' l' m' c g1 g2 g3 g4 =>
     rw[←ZC,←ZC];exact .cons (fun x hx=>by rcases List.mem_append.1 hx with h|h;exact h1 x h;exact g1 x h) (h2.app g2) g3 g4
 | @cons a b l m c h1 h2 h3 h4 ih =>
   rw[ZC,ZC,Zx,Zx];exact .cons h1 h2 h3 ih
theorem Or.Q.flip {f:Int→Int} {a b:List Int} (ha:∀x∈a,0<f x) (hb:∀x∈b,0<f x) (h:∀x∈a,∀y∈b,f x≠f y):Or.Q f (a++b) (b++a) :=
 .run (fun x hx=>by rcases List.mem_append.1 hx with h|h;exact ha x h;exact hb x h) (Ss.eqv.flip h)
theorem Or.Q.swap {f:Int→Int} {x y:Int} (hx:0<f x) (hy:0<f y) (h:f x≠f y) (p q:List Int):Or.Q f (p++x::y::q) (p++y::x::q):=by
 have h1:Or.Q f ([x]++[y]) ([y]++[x]):=Or.Q.flip (by simpa using hx) (by simpa using hy) (by simpa using h);exact (Or.Q.refl f p).app (h1.app (Or.Q.refl f q))
theorem zOt (f:Int→Int) (l:List Int):Or.of f (Or.of f l)=Or.of f l:=(zIo f l).of.symm
theorem zLG (f:Int→Int) (l:List Int) (x:Int):x∈Or.of f l↔x∈l:=(zBQ f l).mem x
def Or.inB (f:Int→Int):Int→List Int→Bool
 | _,[]=>true
 | last,c::l=>if 0<f c∧f c<last then false else Or.inB f (f c) l
theorem zDK {f:Int→Int}:∀(a:List Int) (last:Int),(∀x∈a,0<f x)→(Or.inB f last a=true↔(∀x∈a,last≤f x)∧Ss.so f a)
 | [],last,_=>by simp[Or.inB,Ss.so]
 | c::a,last,h=>by
   have hc:=h c Zt;have ih:=zDK a (f c) fun x hx=>h x (Zv _ hx)
   unfold Or.inB Ss.so;rw[XD]
   by_cases h1:f c<last
   · rw[Zo ⟨hc,h1⟩];simp only[ZN,false_iff,not_and];intro h2;have:=h2 c Zt;omega
   rw[Zl (fun h=>h1 h.2),ih];constructor
   · rintro⟨h2,h3⟩;exact⟨fun x hx=>by rcases List.mem_cons.1 hx with rfl|hx;omega;have:=h2 x hx;omega,h2,h3⟩
   rintro⟨h2,h3,h4⟩;exact⟨h3,h4⟩
theorem zCQ {f:Int→Int} {c:Int} (hc:¬0<f c) (m:List Int):∀(a:List Int) (last:Int),Or.inB f last (a++c::m)=(Or.inB f last a&&Or.inB f (f c) m)
 | [],last=>by
   rw[ZH]
   conv=>lhs;unfold Or.inB
   rw[Zl (fun h=>hc h.1)];rfl
 | y::a,last=>by
   have ih:=zCQ hc m a (f y);rw[Zx];show (if 0<f y∧f y<last then false else Or.inB f (f y) (a++c::m))=((if 0<f y∧f y<last then false else Or.inB f (f y) a)&&Or.inB f (f c) m);split
   · rfl
   exact ih
theorem Or.R.inB {f:Int→Int} (h0:∀x,0≤f x) {l m:List Int} (h:Or.R f l m):Or.inB f 0 m=true:=by
 induction h with
 | @run a b h1 h2 h3=>exact (zDK b 0 (h3.pos h1)).2 ⟨fun x _=>h0 x,h2⟩
 | @cons a b l m c h1 h2 h3 h4 h5 ih =>
   have aa:f c=0:=by have:=h0 c;omega
   rw[zCQ h4,aa,ih,(zDK b 0 (h3.pos h1)).2 ⟨fun x _=>h0 x,h2⟩];rfl
theorem zOu {f:Int→Int} (h0:∀x,0≤f x):∀(n:Nat) (l:List Int),l.length≤n→Or.inB f 0 l=true→Or.R f l l
 | n,l,hn,hi=>by
   rcases Or.cut f l with h|⟨a,c,m,rfl,h1,h2⟩
   · exact .run h ((zDK l 0 h).1 hi).2 (Ss.eqv.refl _ _)
   cases n with
   | zero=>simp at hn
   | succ n =>
     have hm:m.length≤n:=by simp at hn;omega
     have aa:f c=0:=by have:=h0 c;omega
     rw[zCQ h2,aa,Zy,zDK a 0 h1]at hi;exact .cons h1 hi.1.2 (Ss.eqv.refl _ _) h2 (zOu h0 n m hm hi.2)
theorem zKJ {f:Int→Int} (h0:∀x,0≤f x) (l:List Int):Or.inB f 0 (Or.of f l)=true:=(zBQ f l).inB h0
theorem zIp {f:Int→Int} (h0:∀x,0≤f x) (l:List Int):Or.inB f 0 l=true↔Or.of f l=l :=
 ⟨fun h=>(zOu h0 _ l (Za _) h).unique (zBQ f l),fun h=>h▸zKJ h0 l⟩
theorem zLH {f:Int→Int} {c:Int} (hc:¬0<f c) (l m:List Int):Or.of f (l++c::m)=Or.of f l++Or.of f (c::m):=by
 have h1:∀{l r:List Int},Or.R f l r→∀{m s:List Int},Or.R f (c::m) (c::s)→Or.R f (l++c::m) (r++c::s):=by
  intro l r h
  induction h with
  | run h1 h2 h3 =>
    intro m s hs;generalize he:c::m=x at hs;generalize he2:c::s=y at hs;cases hs with
    | run g1 g2 g3=>exact absurd (g1 c (by rw[←he];simp)) hc
    | @cons a' b' l' m'' c' g1 g2 g3 g4 g5 =>
      obtain⟨rfl,rfl,rfl⟩:=Or.split (a:=[]) (fun x hx=>absurd hx List.not_mem_nil) g1 hc g4 (by simpa using he);obtain rfl:=g3.nil;simp at he2;obtain rfl:=he2;exact .cons h1 h2 h3 hc g5
  | cons h1 h2 h3 h4 h5 ih =>
    intro m s hs;rw[ZC,ZC,Zx,Zx];exact .cons h1 h2 h3 h4 (ih hs)
 have h2:Or.R f (c::m) (c::Or.of f m):=.cons (a:=[]) (b:=[]) (fun x hx=>absurd hx Z6) List.Pairwise.nil (Ss.eqv.refl _ _) hc (zBQ f m);have e:Or.of f (c::m)=c::Or.of f m:=h2.unique (zBQ f _);rw[e];exact (h1 (zBQ f l) h2).unique (zBQ f _)
theorem zON {f:Int→Int} {c:Int} (hc:¬0<f c) (m:List Int):Or.of f (c::m)=c::Or.of f m :=
 (Or.R.cons (a:=[]) (b:=[]) (fun x hx=>absurd hx Z6) List.Pairwise.nil (Ss.eqv.refl _ _) hc (zBQ f m)).unique (zBQ f _)
theorem zSs (f:Int→Int) (c:Int):Or.of f [c]=[c]:=rfl
def zCb (f:Int→Int) (B:List Int):Int:=B.foldl (fun m x=>max m (f x)) (-1)
theorem zFN (f:Int→Int) (B:List Int) (c:Int):zCb f (B++[c])=max (zCb f B) (f c):=by unfold zCb;rw[List.foldl_append];rfl
theorem zLI (f:Int→Int):∀(B:List Int) (m n:Int),B.foldl (fun m x=>max m (f x)) m<n↔m<n∧∀x∈B,f x<n
 | [],m,n=>by simp
 | y::B,m,n=>by
   rw[Yh,zLI f B];simp only[Y0,forall_eq_or_imp,Int.max_lt,and_assoc]
theorem zLJ (f:Int→Int) (B:List Int) (n:Int):zCb f B<n ↔ -1<n∧∀x∈B,f x<n:=zLI f B (-1) n
structure Nc.St where
 pre:List Int
 b:Option Int
 B:List Int
def Nc.St.out (s:Nc.St):List Int:=s.pre++(s.b.toList++s.B)
def Nc.app (f:Int→Int) (s:Nc.St) (c:Int):Nc.St:=if f c=0 then ⟨s.out,some c,[]⟩ else ⟨s.pre,s.b,s.B++[c]⟩
def Nc.hit (f:Int→Int) (j:Int→Int→Option Int) (s:Nc.St) (c:Int):Option Int:=if zCb f s.B<f c then s.b.bind fun x=>j x c else none
def Nc.put (f:Int→Int) (j:Int→Int→Option Int) (s:Nc.St) (c:Int):Nc.St:=match Nc.hit f j s c with
 | some p=>⟨s.pre,some p,s.B⟩
 | none=>Nc.app f s c
def zCa:Nc.St:=⟨[],none,[]⟩
def Nc.run (f:Int→Int) (j:Int→Int→Option Int) (s:Nc.St) (l:List Int):Nc.St:=l.foldl (Nc.put f j) s
def Nc.join (f:Int→Int) (j:Int→Int→Option Int) (l:List Int):List Int:=(Nc.run f j zCa l).out
section
variable {f:Int→Int} {j:Int→Int→Option Int}
theorem zAE (s:Nc.St) (c:Int):(Nc.app f s c).out=s.out++[c]:=by
 unfold Nc.app;split
 · simp[Nc.St.out]
 simp[Nc.St.out]
theorem zBY {s:Nc.St} {c p:Int} (h:Nc.hit f j s c=some p):∃x,s.b=some x∧j x c=some p∧zCb f s.B<f c:=by
 unfold Nc.hit at h;split at h
 · rename_i hl;obtain⟨x,h1,h2⟩:=Option.bind_eq_some_iff.1 h;exact⟨x,h1,h2,hl⟩
 cases h
theorem Nc.run_app (s:Nc.St) (l m:List Int):Nc.run f j s (l++m)=Nc.run f j (Nc.run f j s l) m:=YL ..
theorem zOO (s:Nc.St) (c:Int):(Nc.put f j s c).out.length=s.out.length∧0<s.out.length∨(Nc.put f j s c).out.length=s.out.length+1:=by
 unfold Nc.put;cases h:Nc.hit f j s c with
 | some p =>
   obtain⟨x,hb,_,_⟩:=zBY h;left
   simp[Nc.St.out,hb];omega
 | none=>right;simp[zAE]
theorem Nc.run_len:∀(l:List Int) (s:Nc.St),s.out.length≤(Nc.run f j s l).out.length∧(Nc.run f j s l).out.length≤s.out.length+l.length∧(l≠[]→0<(Nc.run f j s l).out.length)
 | [],s=>by simp[Nc.run]
 | c::l,s=>by
   have h1:=Nc.run_len l (Nc.put f j s c);have h2:=zOO (f:=f) (j:=j) s c;have e:Nc.run f j s (c::l)=Nc.run f j (Nc.put f j s c) l:=rfl;rw[e];simp only[ZE];refine⟨by omega,by omega,fun _=>by omega⟩
theorem zIq (l:List Int):(Nc.join f j l).length≤l.length∧(l≠[]→0<(Nc.join f j l).length):=by
 have:=Nc.run_len (f:=f) (j:=j) l zCa;unfold Nc.join;exact⟨by have h:=this.2.1;simpa [zCa,Nc.St.out] using h,this.2.2⟩
def Nc.ahead (P:List Int) (s:Nc.St):Nc.St:=⟨P++s.pre,s.b,s.B⟩
theorem zHo (P:List Int) (s:Nc.St):(Nc.ahead P s).out=P++s.out:=by simp[Nc.ahead,Nc.St.out]
theorem zLK (P:List Int) (s:Nc.St) (c:Int):Nc.put f j (Nc.ahead P s) c=Nc.ahead P (Nc.put f j s c):=by
 have e:Nc.hit f j (Nc.ahead P s) c=Nc.hit f j s c:=rfl;unfold Nc.put;rw[e];cases Nc.hit f j s c with
 | some p=>rfl
 | none =>
   show Nc.app f (Nc.ahead P s) c=Nc.ahead P (Nc.app f s c);unfold Nc.app
   by_cases h:f c=0
   · rw[Zo h,Zo h,zHo];rfl
   rw[Zl h,Zl h];simp[Nc.ahead]
theorem zHp (P:List Int):∀(l:List Int) (s:Nc.St),Nc.run f j (Nc.ahead P s) l=Nc.ahead P (Nc.run f j s l)
 | [],s=>rfl
 | c::l,s=>by
   show Nc.run f j (Nc.put f j (Nc.ahead P s) c) l=_;rw[zLK,zHp P l];rfl
theorem zIr {s:Nc.St} {c:Int} (h:∀x,j x c=none):Nc.put f j s c=Nc.app f s c:=by
 unfold Nc.put;cases hh:Nc.hit f j s c with
 | none=>rfl
 | some p =>
   obtain⟨x,_,h2,_⟩:=zBY hh;rw[h x]at h2;cases h2
theorem zN1 {c:Int} (hc:f c=0) (h:∀x,j x c=none) (l m:List Int):Nc.join f j (l++c::m)=Nc.join f j l++Nc.join f j (c::m):=by
 have e0:Nc.run f j zCa (c::m)=Nc.run f j ⟨[],some c,[]⟩ m:=by
  show Nc.run f j (Nc.put f j zCa c) m=_;rw[zIr h];unfold Nc.app;rw[Zo hc];rfl
 unfold Nc.join;rw[Nc.run_app,e0];show (Nc.run f j (Nc.put f j (Nc.run f j zCa l) c) m).out=_;rw[zIr h];unfold Nc.app;rw[Zo hc,←zHo,←zHp];simp[Nc.ahead]
theorem zN2 (c:Int):Nc.join f j [c]=[c]:=by
 unfold Nc.join;show (Nc.put f j zCa c).out=_;have:Nc.hit f j zCa c=none:=by unfold Nc.hit;split <;> rfl
 unfold Nc.put;rw[this];show (Nc.app f zCa c).out=_;rw[zAE];rfl
structure Nc.Fit (f:Int→Int) (j:Int→Int→Option Int) (full:Int→List Int):Prop where
 nn:∀x,0≤f x
 cls:∀x c p,j x c=some p→f p=0
 full:∀x c p,full c=[c]→j x c=some p→full p=full x++[c]
variable {full:Int→List Int}
def Nc.fl (full:Int→List Int) (l:List Int):List Int:=l.flatMap full
theorem Nc.fl_app (l m:List Int):Nc.fl full (l++m)=Nc.fl full l++Nc.fl full m:=Yr
theorem zN3 {l:List Int} (h:∀c∈l,full c=[c]):Nc.fl full l=l:=by
 induction l with
 | nil=>rfl
 | cons c l ih =>
   show full c++Nc.fl full l=_;rw[h c Zt,ih fun x hx=>h x (Zv _ hx)];rfl
structure Nc.Ok (f:Int→Int) (full:Int→List Int) (s:Nc.St):Prop where
 bz:∀x,s.b=some x→f x=0
 pos:∀x∈s.B,0<f x
 plain:∀x∈s.B,full x=[x]
theorem zLL (H:Nc.Fit f j full) {s:Nc.St} (h:Nc.Ok f full s) {c:Int} (hc:full c=[c]):Nc.Ok f full (Nc.put f j s c):=by
 unfold Nc.put;cases hh:Nc.hit f j s c with
 | some p =>
   obtain⟨x,h1,h2,h3⟩:=zBY hh;exact⟨fun y hy=>(by cases hy;exact H.cls _ _ _ h2),h.pos,h.plain⟩
 | none =>
   unfold Nc.app;dsimp only;split
   · rename_i h0;exact⟨fun y hy=>(by cases hy;exact h0),fun x hx=>absurd hx Z6,fun x hx=>absurd hx Z6⟩
   rename_i h0;have:=H.nn c;refine⟨h.bz,fun x hx=>?_,fun x hx=>?_⟩
   · rcases List.mem_append.1 hx with h1|h1
     · exact h.pos x h1
     rw[Zw]at h1;subst h1;omega
   rcases List.mem_append.1 hx with h1|h1
   · exact h.plain x h1
   rw[Zw]at h1;subst h1;exact hc
theorem zRc (H:Nc.Fit f j full) {s:Nc.St} (h:Nc.Ok f full s) {c:Int} (hc:full c=[c]):Or.Q f (Nc.fl full s.out++[c]) (Nc.fl full (Nc.put f j s c).out):=by
 unfold Nc.put;cases hh:Nc.hit f j s c with
 | some p =>
   obtain⟨x,h1,h2,h3⟩:=zBY hh;rw[zLJ]at h3;have e1:s.out=s.pre++([x]++s.B):=by unfold Nc.St.out;rw[h1];rfl
   have e2:Nc.fl full [x]=full x:=by simp[Nc.fl]
   have e3:Nc.fl full [p]=full x++[c]:=by rw[show Nc.fl full [p]=full p by simp[Nc.fl],H.full x c p hc h2]
   have eB:Nc.fl full s.B=s.B:=zN3 h.plain;show Or.Q f _ (Nc.fl full (s.pre++([p]++s.B)));rw[e1,Nc.fl_app,Nc.fl_app,Nc.fl_app,Nc.fl_app,e2,e3,eB]
   have hq:Or.Q f (s.B++[c]) ([c]++s.B):=by
    cases hB:s.B with
    | nil=>exact Or.Q.refl _ _
    | cons y B =>
      rw[←hB];have hy:y∈s.B:=by rw[hB];exact Zt
      have h4:=h3.2 y hy;have h5:=H.nn y;refine Or.Q.flip h.pos (fun z hz=>by rw[Zw]at hz;subst hz;omega) fun a ha b hb=>?_
      rw[Zw]at hb;subst hb;have:=h3.2 a ha;omega
   have:=(Or.Q.refl f (Nc.fl full s.pre++full x)).app hq;simpa using this
 | none =>
   show Or.Q f _ (Nc.fl full (Nc.app f s c).out);rw[zAE,Nc.fl_app,show Nc.fl full [c]=[c] by simp[Nc.fl,hc]];exact Or.Q.refl _ _
theorem zOv (H:Nc.Fit f j full):∀(l:List Int) (s:Nc.St),Nc.Ok f full s→(∀c∈l,full c=[c])→Nc.Ok f full (Nc.run f j s l)∧Or.Q f (Nc.fl full s.out++l) (Nc.fl full (Nc.run f j s l).out)
 | [],s,h,_=>⟨h,by rw[Z4];exact Or.Q.refl _ _⟩
 | c::l,s,h,hl=>by
   have hc:=hl c Zt;obtain⟨h1,h2⟩:=zOv H l (Nc.put f j s c) (zLL H h hc) fun x hx=>hl x (Zv _ hx)
   refine⟨h1,?_⟩;have h3:=(zRc H h hc).app (Or.Q.refl f l);rw[ZC]at h3;exact h3.trans h2
theorem zOw:Nc.Ok f full zCa:=⟨fun x h=>(by cases h),fun x h=>absurd h Z6,fun x h=>absurd h Z6⟩
theorem zQ0 (H:Nc.Fit f j full) {d:List Int} (hd:∀c∈d,full c=[c]):Or.Q f d (Nc.fl full (Nc.join f j d)):=(zOv H d zCa zOw hd).2
end
section
variable {f:Int→Int} {j:Int→Int→Option Int} {full:Int→List Int}
def Nc.g (f:Int→Int) (l:List Int):Int:=(l.getLast?.map f).getD 0
theorem zCc (l:List Int) (c:Int):Nc.g f (l++[c])=f c:=by simp[Nc.g]
theorem zKK (l m:List Int) (h:m≠[]):Nc.g f (l++m)=Nc.g f m:=by
 unfold Nc.g;rw[QD];cases hm:m.getLast? with
 | none=>exact absurd (List.getLast?_eq_none_iff.1 hm) h
 | some x=>rfl
theorem zIs:∀(l:List Int) (last c:Int),Or.inB f last (l++[c])=(Or.inB f last l&&!(decide (0<f c)&&decide (f c<if l=[] then last else Nc.g f l)))
 | [],last,c=>by
   show (if 0<f c∧f c<last then false else true)=(true&&_)
   by_cases h:0<f c∧f c<last
   · simp[h.1,h.2]
   rw[Zl h];simp;omega
 | y::l,last,c=>by
   have ih:=zIs l (f y) c;rw[Zx];show (if 0<f y∧f y<last then false else Or.inB f (f y) (l++[c]))=((if 0<f y∧f y<last then false else Or.inB f (f y) l)&&_);split
   · rfl
   rw[ih];congr 4;rw[Zl (List.cons_ne_nil y l)]
   by_cases hl:l=[]
   · subst hl;rfl
   rw[Zl hl];rw[show Nc.g f (y::l)=Nc.g f l from zKK [y] l hl]
theorem zGP (l:List Int) (c:Int):Or.inB f 0 (l++[c])=true↔Or.inB f 0 l=true∧(0<f c→Nc.g f l≤f c):=by
 rw[zIs]
 have:(if l=[] then (0:Int) else Nc.g f l)=Nc.g f l:=by
  split
  · rename_i h;subst h;rfl
  rfl
 rw[this,Zy];simp;omega
structure Nc.Inv (f:Int→Int) (j:Int→Int→Option Int) (full:Int→List Int) (d:List Int) (s:Nc.St):Prop where
 ok:Nc.Ok f full s
 sorted:Or.inB f 0 s.out=true
 le:Nc.g f s.out≤Nc.g f d
 base:∀x,s.b=some x→Or.inB f 0 (full x)=true∧Nc.g f (full x)≤Nc.g f d∧Nc.run f j zCa (full x)=⟨[],some x,[]⟩
 done:∀x∈s.out,Or.inB f 0 (full x)=true∧Nc.join f j (full x)=[x]∧(x∈d∨(f x=0∧∃a M,full x=a::M∧f a=0))
 head:∀x,s.b=some x→∃a M,full x=a::M∧f a=0
theorem Nc.Inv.nil:Nc.Inv f j full [] zCa where
 ok:=zOw
 sorted:=rfl
 le:=Yq _
 base:=fun x h=>by cases h
 done:=fun x h=>by simp[zCa,Nc.St.out]at h
 head:=fun x h=>by cases h
theorem zOP:zCb f [] = -1:=rfl
theorem zJS (c:Int) (h:0≤f c):Or.inB f 0 [c]=true:=by
 unfold Or.inB;rw[Zl (by omega)];rfl
theorem zJT (s:Nc.St) (x:Int) (hx:f x=0):Or.inB f 0 (s.pre++([x]++s.B))=(Or.inB f 0 s.pre&&Or.inB f 0 s.B):=by
 have:=zCQ (f:=f) (c:=x) (by omega) s.B s.pre 0;rw[hx]at this;exact this
theorem Nc.Inv.step (H:Nc.Fit f j full) {d:List Int} {s:Nc.St} (h:Nc.Inv f j full d s) {c:Int} (hc:full c=[c]) (hd:0<f c→Nc.g f d≤f c):Nc.Inv f j full (d++[c]) (Nc.put f j s c):=by
 have aa:=zLL H h.ok hc;have aj:=H.nn c;have ak:0<f c→Nc.g f s.out≤f c:=fun h0=>by have:=hd h0;have:=h.le;omega
 cases hh:Nc.hit f j s c with
 | some p =>
   have e:Nc.put f j s c=⟨s.pre,some p,s.B⟩:=by unfold Nc.put;rw[hh]
   rw[e]at aa ⊢;obtain⟨x,h1,h2,h3⟩:=zBY hh;have hx:=h.ok.bz x h1;have hp:=H.cls _ _ _ h2;have hf:=H.full x c p hc h2;obtain⟨b1,b2,b3⟩:=h.base x h1;obtain⟨a,M,ag,ae⟩:=h.head x h1;have eo:s.out=s.pre++([x]++s.B):=by unfold Nc.St.out;rw[h1];rfl
   have ai:=h.sorted;rw[eo,zJT s x hx]at ai
   have af:Or.inB f 0 (full p)=true:=by
    rw[hf,zGP];exact⟨b1,fun h0=>by have:=hd h0;omega⟩
   have ah:Nc.run f j zCa (full p)=⟨[],some p,[]⟩:=by
    rw[hf,Nc.run_app,b3];show Nc.put f j ⟨[],some x,[]⟩ c=_;unfold Nc.put Nc.hit;rw[Zo (by rw[zOP];omega)];simp[h2]
   refine⟨aa,?_,?_,?_,?_,?_⟩
   · show Or.inB f 0 (s.pre++([p]++s.B))=true;rw[zJT s p hp];exact ai
   · show Nc.g f (s.pre++([p]++s.B))≤_;rw[zCc]
     by_cases hB:s.B=[]
     · rw[hB,Z4,zCc];omega
     rw[zKK _ _ (by simp),zKK _ _ hB];rw[zLJ]at h3;unfold Nc.g;cases hl:s.B.getLast? with
     | none=>simp;omega
     | some y =>
       have:=h3.2 y (QE hl);simp;omega
   · intro y hy;cases hy
     exact⟨af,by rw[hf,zCc,zCc];exact Yq _,ah⟩
   · intro y hy;have hy':y∈s.pre++([p]++s.B):=hy;simp only[YS,Zw]at hy';rcases hy' with h4|rfl|h4
     · obtain⟨k1,k2,k3⟩:=h.done y (by rw[eo];simp[h4]);exact⟨k1,k2,k3.imp (fun h=>Y4 _ h) id⟩
     · exact⟨af,by unfold Nc.join;rw[ah];rfl,.inr ⟨hp,a,M++[c],by rw[hf,ag];rfl,ae⟩⟩
     obtain⟨k1,k2,k3⟩:=h.done y (by rw[eo];simp[h4]);exact⟨k1,k2,k3.imp (fun h=>Y4 _ h) id⟩
   intro y hy;cases hy
   exact⟨a,M++[c],by rw[hf,ag];rfl,ae⟩
 | none =>
   have e:Nc.put f j s c=Nc.app f s c:=by unfold Nc.put;rw[hh]
   rw[e]at aa ⊢;refine⟨aa,?_,?_,?_,?_,?_⟩
   · rw[zAE,zGP];exact⟨h.sorted,ak⟩
   · rw[zAE,zCc,zCc];exact Yq _
   · intro y hy;unfold Nc.app at hy
     by_cases h0:f c=0
     · rw[Zo h0]at hy;obtain rfl:c=y:=by simpa using hy
       refine⟨by rw[hc];exact zJS _ aj,by rw[hc,zCc,show Nc.g f [c]=f c from zCc [] c];exact Yq _,?_⟩;rw[hc];show Nc.put f j zCa c=_;unfold Nc.put;rw[show Nc.hit f j zCa c=none by unfold Nc.hit;split <;> rfl];unfold Nc.app;dsimp only;rw[Zo h0];rfl
     rw[Zl h0]at hy;obtain⟨k1,k2,k3⟩:=h.base y hy;refine⟨k1,?_,k3⟩;rw[zCc];have:=hd (by omega);omega
   · intro y hy;rw[zAE]at hy;rcases List.mem_append.1 hy with h4|h4
     · obtain⟨k1,k2,k3⟩:=h.done y h4;exact⟨k1,k2,k3.imp (fun h=>Y4 _ h) id⟩
     rw[Zw]at h4;subst h4;exact⟨by rw[hc];exact zJS _ aj,by rw[hc];exact zN2 _,.inl (by simp)⟩
   intro y hy;unfold Nc.app at hy
   by_cases h0:f c=0
   · rw[Zo h0]at hy;obtain rfl:c=y:=by simpa using hy
     exact⟨c,[],hc,h0⟩
   rw[Zl h0]at hy;exact h.head y hy
theorem Nc.Inv.run (H:Nc.Fit f j full):∀(l d:List Int) (s:Nc.St),Nc.Inv f j full d s→(∀c∈l,full c=[c])→Or.inB f 0 (d++l)=true→Nc.Inv f j full (d++l) (Nc.run f j s l)
 | [],d,s,h,_,_=>by rw[Z4];exact h
 | c::l,d,s,h,hl,hi=>by
   have e:d++c::l=(d++[c])++l:=by simp
   rw[e]at hi ⊢;refine Nc.Inv.run H l (d++[c]) (Nc.put f j s c) (h.step H (hl c Zt) fun h0=>?_) (fun x hx=>hl x (Zv _ hx)) hi
   have:Or.inB f 0 (d++[c])=true:=by
    have:∀(m l:List Int) (t:Int),Or.inB f t (l++m)=true→Or.inB f t l=true:=by
     intro m l
     induction l with
     | nil=>intro t _;rfl
     | cons y l ih =>
       intro t ht;rw[Zx]at ht;unfold Or.inB at ht ⊢;split
       · rename_i hh;rw[Zo hh]at ht;exact ht
       rename_i hh;rw[Zl hh]at ht;exact ih _ ht
    exact this l _ 0 hi
   exact ((zGP d c).1 this).2 h0
theorem zIt (H:Nc.Fit f j full) {d:List Int} (hd:∀c∈d,full c=[c]) (hi:Or.inB f 0 d=true):Nc.Inv f j full d (Nc.run f j zCa d):=by
 have:=Nc.Inv.nil.run (f:=f) (j:=j) H d [] zCa hd (by simpa using hi);simpa using this
def zCR (f:Int→Int) (j:Int→Int→Option Int) (full:Int→List Int) (c:Int):Prop:=Nc.join f j (Or.of f (full c))=[c]
theorem zIu (H:Nc.Fit f j full) {d:List Int} (hd:∀c∈d,full c=[c]) (hi:Or.inB f 0 d=true):Or.inB f 0 (Nc.join f j d)=true∧∀x∈Nc.join f j d,zCR f j full x:=by
 have h:=zIt H hd hi;refine⟨h.sorted,fun x hx=>?_⟩;obtain⟨k1,k2,k3⟩:=h.done x hx;unfold zCR;rw[(zIp H.nn _).1 k1];exact k2
theorem zIv (H:Nc.Fit f j full) (hp:∀c,∀x∈full c,full x=[x]) {c:Int} (hs:zCR f j full c):(full c=[c])∨(f c=0∧∃a M,full c=a::M∧f a=0):=by
 have hd:∀x∈Or.of f (full c),full x=[x]:=fun x hx=>hp c x ((zLG f _ x).1 hx)
 have h:=zIt H hd (zKJ H.nn _);unfold zCR Nc.join at hs;obtain⟨_,_,k3⟩:=h.done c (by rw[hs];simp);rcases k3 with k|k
 · exact .inl (hd c k)
 exact .inr k
end
end Go.Proofs.YtddbccflcekdpaaGreatDoor
