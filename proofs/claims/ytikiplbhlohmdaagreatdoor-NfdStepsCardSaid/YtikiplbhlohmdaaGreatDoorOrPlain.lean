/- Small laws that all walks of this seat use: slices that are read, slices that are handed back, an append of one. -/
import Derived.Test.YtikiplbhlohmdaaGreatDoorAl1
import Derived.Test.YtikiplbhlohmdaaGreatDoorRows
set_option linter.unusedVariables false
set_option linter.unusedSimpArgs false
namespace Go.Proofs.YtikiplbhlohmdaaGreatDoor
open Go.RowKit
theorem ret_int {k:IntKind} {a b:Int} (h:a=b):Ending.returned (.int k a)=.returned (.int k b):=by rw[h]
theorem ret_bool {a b:Bool} (h:a=b):Ending.returned (.bool a)=.returned (.bool b):=by rw[h]
theorem ret_tuple3 {k k':IntKind} {a a' b b':Int} {x x':Bool} (h:(a,b,x)=(a',b',x')) :
 Ending.returned (.tuple #[.int k a,.int k' b,.bool x])=.returned (.tuple #[.int k a',.int k' b',.bool x']):=by
 simp only[Yy]at h
 obtain⟨rfl,rfl,rfl⟩:=h
 rfl
theorem bcell {B:Nat} {W w1:World} (hb:Below B W w1):(∀b o,b<B→w1.cell? ⟨b,o,none⟩=W.cell? ⟨b,o,none⟩)∧(∀b o,b<B→w1.frozen? ⟨b,o,none⟩=W.frozen? ⟨b,o,none⟩) :=
 ⟨fun b o h=>hb.cell (p:=⟨b,o,none⟩) h,fun b o h=>hb.frozen (p:=⟨b,o,none⟩) h⟩
def Sl (w:World) (B:Nat) (A:Option Addr) (xs:List Value):Prop :=
 0<xs.length→∃b o,A=some ⟨b,o,none⟩∧b<B∧∀i,i<xs.length→w.cell? ⟨b,o+i,none⟩=xs[i]?
theorem Sl.nil (w:World) (B:Nat) (A:Option Addr):Sl w B A []:=fun h=>absurd h (by simp)
theorem Sl.below {w w':World} {B B':Nat} {A:Option Addr} {xs:List Value} (h:Sl w B A xs) (hb:Below B w w') (hB:B≤B'):Sl w' B' A xs:=by
 intro hx
 obtain⟨b,o,hA,aa,hc⟩:=h hx
 exact⟨b,o,hA,by omega,fun i hi=>by rw[←hc i hi];exact hb.cell (p:=⟨b,o+i,none⟩) aa⟩
theorem Sl.belowN {w w':World} {B B0 B':Nat} {A:Option Addr} {xs:List Value} (h:Sl w B A xs) (hb:Below B0 w w') (h0:B≤B0) (hB:B≤B'):Sl w' B' A xs :=
 h.below (hb.mono h0) hB
theorem Sl.lit {w:World} {A:Option Addr} {b:Nat} {xs:List Value} (hA:A=some ⟨b,0,none⟩) (t:TypeId) (z:Nat × Nat) (hb:w.heap[b]?=some (.cells xs.toArray t z)):Sl w w.heap.size A xs:=by
 intro _
 have aa:b<w.heap.size:=by
  rcases ZX b w.heap.size with aa|hge
  · exact aa
  · rw[YJ hge]at hb;cases hb
 refine⟨b,0,hA,aa,fun i hi=>?_⟩
 simp[World.cell?,hb]
theorem Sl.of_own {w:World} {base:Nat} {e:TypeId} {size n c:Nat} {A:Option Addr} {xs:List Value} (h:w.ownsRow base e size (.slice A n c) n xs):Sl w w.heap.size A xs:=by
 intro hx
 obtain⟨hl,h⟩:=h
 rcases h with ⟨hv,hn⟩|⟨g,cap,af,hv,_,hg,_,_,_,aa⟩
 · subst hn;simp at hl;rw[hl]at hx;simp at hx
 · simp only[Z3]at hv
   obtain⟨hA,_,_⟩:=hv
   have ae:g<w.heap.size:=by
    rcases ZX g w.heap.size with ae|hge
    · exact ae
    · rw[YJ hge]at hg;cases hg
   refine⟨g,0,hA,ae,fun i hi=>?_⟩
   rw[←aa]
   simp[World.cell?,hg,YG,←hl,hi]
theorem heap_lt {w:World} {g:Nat} {o:Obj} (h:w.heap[g]?=some o):g<w.heap.size:=by
 rcases ZX g w.heap.size with aa|hge
 · exact aa
 · rw[YJ hge]at h;cases h
theorem own_below {w w':World} {base B:Nat} {e:TypeId} {size n:Nat} {v:Value} {xs:List Value} (h:w.ownsRow base e size v n xs) (hb:Below B w w') (hB:w.heap.size≤B):w'.ownsRow base e size v n xs:=by
 obtain⟨h1,h2⟩:=h
 refine⟨h1,?_⟩
 rcases h2 with h2|⟨g,cap,aa,hv,hg,hh,r⟩
 · exact .inl h2
 · exact .inr ⟨g,cap,aa,hv,hg,(hb.block g (by have:=heap_lt hh;omega)).trans hh,r⟩
def RetInts (k:IntKind) (l:List Int) (w:World) (e:Ending) (w':World):Prop :=
 ∃A c,e=.returned (.slice A l.length c)∧Sl w' w'.heap.size A (l.map (Value.int k))∧Below w.heap.size w w'
theorem own_form {w:World} {base:Nat} {e:TypeId} {size n:Nat} {v:Value} {xs:List Value} (h:w.ownsRow base e size v n xs):∃A c,v=.slice A n c:=by
 rcases h.2 with ⟨rfl,rfl⟩|⟨g,cap,aa,hv,_⟩
 · exact⟨none,0,rfl⟩
 · exact⟨_,_,hv⟩
section
variable {P:Program}
theorem wpList_push1 {ops:Array Oper} {rest:List Oper} {o:Oper} {a:Act} {Q:Exit→Act→World→Prop} (w:World) (ak:o.guard=none) (s x:Operand) (t:TypeId)
 (ho:o.op=.call { callee:=.builtin .append,args := #[s,x],argTypes := #[t,t] })
 (base:Nat) (e:TypeId) (i:TypeInfo) (z:Value) (bytes:Nat) (ht:P.underlying t=some (.slice e)) (hi:P.info? e=some i) (hz:i.zero=some z)
 (af:i.size=1) (aj:i.bytes=bytes) (ah:z.cells.size=1)
 (v:Value) (n:Nat) (xs:List Value) (hs:a.eval s=v) (ae:w.ownsRow base e 1 v n xs)
 (u:Value) (h1:u.oneCell'=true) (hx:a.eval x=.slice (some ⟨w.heap.size,0,none⟩) 1 1)
 (ai:n+1≤maxLen) (aa:(n+1)*bytes≤140737488355328) (ag:base≤w.heap.size)
 (h:∀v' w',w'.ownsRow base e 1 v' (n+1) (xs++[u])→Below base w w'→wpList P ops Q rest (a.put o.dst v') w') :
 wpList P ops Q (o::rest) a (w.alloc (.cells #[u] e)):=by
 refine wpList_append_own (P:=P) _ ak s x t ho base e i z 1 bytes ht hi hz af aj ah (by omega) v n xs hs (ae.alloc _) ⟨w.heap.size,0,none⟩ 1 1 [u] hx rfl ?_ ?_ ai aa (by simp;omega) ?_
 · exact cell_one_new _ _ _
 · intro q hq
   simp only[ZA]at hq
   subst hq
   exact h1
 · intro v' w' h2 h3 _
   refine h v' w' h2 ?_
   refine (((Zd _ _).alloc ag _).grown h3 (by simp;omega) ?_)
   intro k hk
   exact (ae.lt k hk).1
end
theorem infoInt:(Tryz.prog.info? 3).map (fun i=>(i.zero,i.size,i.bytes))=some (some (.int .i64 0),1,8):=by kernel_rfl
theorem infoRune:(Tryz.prog.info? 21).map (fun i=>(i.zero,i.size,i.bytes))=some (some (.int .i32 0),1,4):=by kernel_rfl
theorem infoByte:(Tryz.prog.info? 5).map (fun i=>(i.zero,i.size,i.bytes))=some (some (.int .u8 0),1,1):=by kernel_rfl
end Go.Proofs.YtikiplbhlohmdaaGreatDoor
namespace Go.Proofs.YtikiplbhlohmdaaGreatDoor
def Ss.so (f:Int→Int) (l:List Int):Prop:=l.Pairwise fun x y=>f x≤f y
def Ss.eqv (f:Int→Int) (l l':List Int):Prop:=∀k,l'.filter (fun x=>decide (f x=k))=l.filter (fun x=>decide (f x=k))
theorem Ss.eqv.refl (f:Int→Int) (l:List Int):Ss.eqv f l l:=fun _=>rfl
theorem Ss.eqv.trans {f:Int→Int} {a b c:List Int} (h1:Ss.eqv f a b) (h2:Ss.eqv f b c):Ss.eqv f a c:=fun k=>(h2 k).trans (h1 k)
theorem Ss.eqv.symm {f:Int→Int} {a b:List Int} (h1:Ss.eqv f a b):Ss.eqv f b a:=fun k=>(h1 k).symm
theorem Ss.eqv.app {f:Int→Int} {a b a' b':List Int} (h1:Ss.eqv f a a') (h2:Ss.eqv f b b'):Ss.eqv f (a++b) (a'++b'):=fun k=>by
 rw[Yj,Yj,h1 k,h2 k]
theorem Ss.eqv.flip {f:Int→Int} {a b:List Int} (h:∀x∈a,∀y∈b,f x≠f y):Ss.eqv f (a++b) (b++a):=fun k=>by
 rw[Yj,Yj]
 by_cases ha:a.filter (fun x=>decide (f x=k))=[]
 · rw[ha,Yc,Z2]
 · have hb:b.filter (fun x=>decide (f x=k))=[]:=by
    rw[List.filter_eq_nil_iff]
    intro y hy hk
    obtain⟨x,hx⟩:=List.exists_mem_of_ne_nil _ ha
    rw[List.mem_filter]at hx
    simp only[Zm]at hk hx
    exact h x hx.1 y hy (hx.2.trans hk.symm)
   rw[hb,Yc,Z2]
theorem Ss.eqv.mem {f:Int→Int} {a b:List Int} (h:Ss.eqv f a b) (x:Int):x∈b↔x∈a:=by
 have:∀l:List Int,x∈l↔x∈l.filter (fun y=>decide (f y=f x)):=fun l=>by rw[List.mem_filter];simp
 rw[this a,this b,h (f x)]
theorem Ss.eqv.perm {f:Int→Int} {a b:List Int} (h:Ss.eqv f a b):b.Perm a:=by
 rw[List.perm_iff_count]
 intro x
 have hc:∀l:List Int,List.count x l=List.count x (l.filter (fun y=>decide (f y=f x))):=fun l=>(List.count_filter (by simp)).symm
 rw[hc a,hc b,h (f x)]
theorem Ss.eqv.length {f:Int→Int} {a b:List Int} (h:Ss.eqv f a b):b.length=a.length:=h.perm.length_eq
theorem Ss.so.app {f:Int→Int} {a b:List Int} (h1:Ss.so f a) (h2:Ss.so f b) (h:∀x∈a,∀y∈b,f x≤f y):Ss.so f (a++b):=List.pairwise_append.2 ⟨h1,h2,h⟩
theorem Ss.so.left {f:Int→Int} {a b:List Int} (h:Ss.so f (a++b)):Ss.so f a:=(List.pairwise_append.1 h).1
theorem Ss.so.right {f:Int→Int} {a b:List Int} (h:Ss.so f (a++b)):Ss.so f b:=(List.pairwise_append.1 h).2.1
theorem Ss.so.cross {f:Int→Int} {a b:List Int} (h:Ss.so f (a++b)):∀x∈a,∀y∈b,f x≤f y:=(List.pairwise_append.1 h).2.2
theorem Ss.unique {f:Int→Int}:∀{a b:List Int},Ss.so f a→Ss.so f b→Ss.eqv f a b→b=a
 | [],b,_,_,h=>Zy (by rw[h.length];rfl)
 | x::a,[],_,_,h=>by
   have:=h.length
   simp at this
 | x::a,y::b,ha,hb,h=>by
   unfold Ss.so at ha hb
   rw[Xx]at ha hb
   have hx:x∈y::b:=(h.mem x).2 Zv
   have hy:y∈x::a:=(h.mem y).1 Zv
   have h1:f y≤f x:=by
    rcases List.mem_cons.1 hx with e|e
    · rw[e];exact YQ _
    · exact hb.1 x e
   have h2:f x≤f y:=by
    rcases List.mem_cons.1 hy with e|e
    · rw[e];exact YQ _
    · exact ha.1 y e
   have hk:f x=f y:=by omega
   have h3:=h (f x)
   rw[Yo,Yo,Zp (by simp[hk]),Zp (by simp)]at h3
   have aa:y=x:=(List.cons.inj h3).1
   subst aa
   rw[Ss.unique ha.2 hb.2 fun k=>?_]
   have h4:=h k
   rw[Yo,Yo]at h4
   split at h4
   · exact (List.cons.inj h4).2
   · exact h4
theorem Ss.insert {f:Int→Int} {s g:List Int} {x:Int} (hs:Ss.so f (s++g)) (h1:∀y∈s,f y≤f x) (h2:∀y∈g,f x<f y):Ss.so f (s++x::g)∧Ss.eqv f (s++g++[x]) (s++x::g):=by
 refine⟨?_,?_⟩
 · refine hs.left.app ?_ ?_
   · exact List.pairwise_cons.2 ⟨fun y hy=>Int.le_of_lt (h2 y hy),hs.right⟩
   · intro y hy z hz
     rcases List.mem_cons.1 hz with rfl|hz
     · exact h1 y hy
     · exact hs.cross y hy z hz
 · rw[Zz]
   refine (Ss.eqv.refl f s).app ?_
   exact Ss.eqv.flip (a:=g) (b:=[x]) fun y hy z hz=>by
    rw[ZA]at hz
    have:=h2 y hy
    rw[hz]
    omega
theorem Ss.halves {f:Int→Int} {a1 a2 b1 b2 c1 c2:List Int} (ha:Ss.so f (a1++a2)) (hb:Ss.so f (b1++b2)) (h1:∀x∈b1,∀y∈a2,f x<f y) (h2:∀x∈a1,∀y∈b2,f x≤f y)
 (s1:Ss.so f c1) (e1:Ss.eqv f (a1++b1) c1) (s2:Ss.so f c2) (e2:Ss.eqv f (a2++b2) c2):Ss.so f (c1++c2)∧Ss.eqv f ((a1++a2)++(b1++b2)) (c1++c2):=by
 refine⟨s1.app s2 fun x hx y hy=>?_,?_⟩
 · rcases List.mem_append.1 ((e1.mem x).1 hx) with hx|hx <;> rcases List.mem_append.1 ((e2.mem y).1 hy) with hy|hy
   · exact ha.cross x hx y hy
   · exact h2 x hx y hy
   · exact Int.le_of_lt (h1 x hx y hy)
   · exact hb.cross x hx y hy
 · have g1:Ss.eqv f ((a1++a2)++(b1++b2)) ((a1++b1)++(a2++b2)):=by
    rw[Zz,Zz]
    refine (Ss.eqv.refl f a1).app ?_
    rw[←Zz,←Zz]
    refine Ss.eqv.app ?_ (Ss.eqv.refl f b2)
    exact Ss.eqv.flip fun x hx y hy=>by have:=h1 y hy x hx;omega
   exact g1.trans (e1.app e2)
theorem Ss.merge_left {f:Int→Int} {x:Int} {b1 b2:List Int} (hb:Ss.so f (b1++b2)) (h1:∀y∈b1,f y<f x) (h2:∀y∈b2,f x≤f y):Ss.so f (b1++x::b2)∧Ss.eqv f (x::(b1++b2)) (b1++x::b2):=by
 refine⟨?_,?_⟩
 · refine hb.left.app (List.pairwise_cons.2 ⟨h2,hb.right⟩) ?_
   intro y hy z hz
   rcases List.mem_cons.1 hz with rfl|hz
   · exact Int.le_of_lt (h1 y hy)
   · exact hb.cross y hy z hz
 · have:Ss.eqv f ([x]++b1) (b1++[x]):=Ss.eqv.flip fun y hy z hz=>by
    rw[ZA]at hy
    have:=h1 z hz
    rw[hy]
    omega
   have h:=this.app (Ss.eqv.refl f b2)
   simpa using h
theorem Ss.so.get {f:Int→Int} {l:List Int} (h:Ss.so f l) {i j:Nat} {x y:Int} (hi:l[i]?=some x) (hj:l[j]?=some y) (hij:i≤j):f x≤f y:=by
 obtain⟨a1,b1⟩:=List.getElem?_eq_some_iff.1 hi
 obtain⟨a2,b2⟩:=List.getElem?_eq_some_iff.1 hj
 rcases ZX i j with hl|hl
 · have:=List.pairwise_iff_getElem.1 h i j a1 a2 hl
   rw[b1,b2]at this
   exact this
 · have:i=j:=by omega
   subst this
   rw[hi]at hj
   cases hj
   exact YQ _
theorem Ss.mem_take {l:List Int} {n:Nat} {x:Int} (h:x∈l.take n):∃i,i<n∧l[i]?=some x:=by
 obtain⟨i,hi⟩:=List.mem_iff_getElem?.1 h
 rw[YG]at hi
 split at hi
 · rename_i h1;exact⟨i,h1,hi⟩
 · cases hi
theorem Ss.mem_drop {l:List Int} {n:Nat} {x:Int} (h:x∈l.drop n):∃i,n≤i∧l[i]?=some x:=by
 obtain⟨i,hi⟩:=List.mem_iff_getElem?.1 h
 rw[Xf]at hi
 exact⟨n+i,by omega,hi⟩
theorem Ss.sym {f:Int→Int} {A B:List Int} {s j:Nat} (hs:s≤A.length) (hj:j≤B.length) (hA:Ss.so f A) (hB:Ss.so f B) (P1:∀x y,A[s]?=some x→0<j→B[j-1]?=some y→f y<f x) (P2:∀x y,0<s→A[s-1]?=some x→B[j]?=some y→f x≤f y) :
 (∀x∈B.take j,∀y∈A.drop s,f x<f y)∧(∀x∈A.take s,∀y∈B.drop j,f x≤f y):=by
 refine⟨fun x hx y hy=>?_,fun x hx y hy=>?_⟩
 · obtain⟨i,hi,ae⟩:=Ss.mem_take hx
   obtain⟨k,hk,aa⟩:=Ss.mem_drop hy
   have af:=(List.getElem?_eq_some_iff.1 aa).1
   have ag:=(List.getElem?_eq_some_iff.1 ae).1
   obtain⟨u,hu⟩:∃u,A[s]?=some u:=⟨_,Zc (by omega)⟩
   obtain⟨v,hv⟩:∃v,B[j-1]?=some v:=⟨_,Zc (by omega)⟩
   have h1:=P1 u v hu (by omega) hv
   have h2:=hA.get hu aa hk
   have h3:=hB.get ae hv (by omega)
   omega
 · obtain⟨i,hi,ae⟩:=Ss.mem_take hx
   obtain⟨k,hk,aa⟩:=Ss.mem_drop hy
   have af:=(List.getElem?_eq_some_iff.1 aa).1
   have ag:=(List.getElem?_eq_some_iff.1 ae).1
   obtain⟨v,hv⟩:∃v,B[j]?=some v:=⟨_,Zc (by omega)⟩
   obtain⟨u,hu⟩:∃u,A[s-1]?=some u:=⟨_,Zc (by omega)⟩
   have h1:=P2 u v (by omega) hu hv
   have h2:=hA.get ae hu (by omega)
   have h3:=hB.get hv aa hk
   omega
theorem Ss.swap2 (P M Q:List Int) (x y:Int):((P++x::(M++y::Q)).set P.length y).set (P.length+1+M.length) x=P++y::(M++x::Q):=by
 rw[YC _ _ (Zb _),Yv,ZD,YC _ _ (by omega),show P.length+1+M.length-P.length=M.length+1 by omega,ZF,YC _ _ (Zb _),Yv,ZD]
theorem Ss.swap2' (P M Q:List Int) (x y:Int):((P++x::(M++y::Q)).set (P.length+1+M.length) x).set P.length y=P++y::(M++x::Q):=by
 rw[List.set_comm _ _ (by omega),Ss.swap2]
theorem Ss.get_first (P R:List Int) (x:Int):(P++x::R)[P.length]?=some x:=by simp
theorem Ss.get_second (P M Q:List Int) (x y:Int):(P++x::(M++y::Q))[P.length+1+M.length]?=some y:=by
 rw[ZL (by omega),show P.length+1+M.length-P.length=M.length+1 by omega,YR,ZL (Zb _),Yv]
 rfl
def Ss.mid (P X M Y Q:List Int) (t:Nat):List Int:=P++((Y.take t++X.drop t)++(M++((X.take t++Y.drop t)++Q)))
theorem Ss.mid_zero (P X M Y Q:List Int):Ss.mid P X M Y Q 0=P++(X++(M++(Y++Q))):=by unfold Ss.mid;simp
theorem Ss.mid_all {P X M Y Q:List Int} {n:Nat} (hX:X.length=n) (hY:Y.length=n):Ss.mid P X M Y Q n=P++(Y++(M++(X++Q))):=by
 unfold Ss.mid
 rw[Zj (by omega),Zj (by omega),Yp (by omega),Yp (by omega)]
 simp
theorem Ss.mid_step {P X M Y Q:List Int} {t:Nat} {x y:Int} (hx:X[t]?=some x) (hy:Y[t]?=some y) :
 Ss.mid P X M Y Q t=(P++Y.take t)++x::((X.drop (t+1)++(M++X.take t))++y::(Y.drop (t+1)++Q))∧Ss.mid P X M Y Q (t+1)=(P++Y.take t)++y::((X.drop (t+1)++(M++X.take t))++x::(Y.drop (t+1)++Q)):=by
 obtain⟨a1,b1⟩:=List.getElem?_eq_some_iff.1 hx
 obtain⟨a2,b2⟩:=List.getElem?_eq_some_iff.1 hy
 have e1:X.drop t=x::X.drop (t+1):=by rw[ZV a1,b1]
 have e2:Y.drop t=y::Y.drop (t+1):=by rw[ZV a2,b2]
 have e3:X.take (t+1)=X.take t++[x]:=by rw[Zw,hx];rfl
 have e4:Y.take (t+1)=Y.take t++[y]:=by rw[Zw,hy];rfl
 unfold Ss.mid
 rw[e1,e2,e3,e4]
 simp
theorem Ss.mid_len {X M Y:List Int} {P:List Int} {t n:Nat} (hX:X.length=n) (hY:Y.length=n) (ht:t<n):(P++Y.take t).length=P.length+t∧(P++Y.take t).length+1+(X.drop (t+1)++(M++X.take t)).length=P.length+n+M.length+t:=by
 simp
 omega
def Ss.chk (f:Int→Int) (bs:Nat) (l:List Int):Prop:=∀i,Ss.so f ((l.drop (i*bs)).take bs)
theorem Ss.chk_nil (f:Int→Int) (bs:Nat):Ss.chk f bs []:=fun i=>by simp[Ss.so]
theorem Ss.chk_snoc {f:Int→Int} {bs k:Nat} {l c:List Int} (hl:l.length=k*bs) (h:Ss.chk f bs l) (hc:Ss.so f c) (aa:c.length≤bs):Ss.chk f bs (l++c):=by
 intro i
 rcases Nat.lt_trichotomy i k with hi|hi|hi
 · have h1:(i+1)*bs≤k*bs:=Nat.mul_le_mul_right _ hi
   rw[Nat.add_mul,Nat.one_mul]at h1
   rw[List.drop_append_of_le_length (by omega),List.take_append_of_le_length (by rw[ZK];omega)]
   exact h i
 · subst hi
   rw[←hl,List.drop_left,Zj aa]
   exact hc
 · have h1:(k+1)*bs≤i*bs:=Nat.mul_le_mul_right _ hi
   rw[Nat.add_mul,Nat.one_mul]at h1
   rw[Yp (by rw[Ze];omega)]
   simp[Ss.so]
theorem Ss.chk_all {f:Int→Int} {bs:Nat} {l:List Int} (h:Ss.chk f bs l) (hl:l.length≤bs):Ss.so f l:=by
 have:=h 0
 rw[Nat.zero_mul,XW,Zj hl]at this
 exact this
theorem Ss.so_nil (f:Int→Int):Ss.so f []:=List.Pairwise.nil
theorem Ss.so_one (f:Int→Int) (x:Int):Ss.so f [x]:=by simp[Ss.so]
inductive Or.R (f:Int→Int):List Int→List Int→Prop
 | run {a b:List Int}:(∀x∈a,0<f x)→Ss.so f b→Ss.eqv f a b→Or.R f a b
 | cons {a b l m:List Int} {c:Int}:(∀x∈a,0<f x)→Ss.so f b→Ss.eqv f a b→¬0<f c→Or.R f l m→Or.R f (a++c::l) (b++c::m)
theorem Or.split {f:Int→Int}:∀{a a':List Int} {l l':List Int} {c c':Int},(∀x∈a,0<f x)→(∀x∈a',0<f x)→¬0<f c→¬0<f c'→a++c::l=a'++c'::l'→a=a'∧c=c'∧l=l'
 | [],[],l,l',c,c',_,_,_,_,h=>by
   simp at h
   exact⟨rfl,h.1,h.2⟩
 | [],y::a',l,l',c,c',_,h2,h3,_,h=>by
   simp at h
   exact absurd (h.1▸h2 y Zv) h3
 | x::a,[],l,l',c,c',h1,_,_,h4,h=>by
   simp at h
   exact absurd (h.1▸h1 x Zv) h4
 | x::a,y::a',l,l',c,c',h1,h2,h3,h4,h=>by
   simp only[ZQ,Yd]at h
   obtain⟨rfl,h5⟩:=h
   obtain⟨g1,g2,g3⟩:=Or.split (fun z hz=>h1 z (Zx _ hz)) (fun z hz=>h2 z (Zx _ hz)) h3 h4 h5
   exact⟨by rw[g1],g2,g3⟩
theorem Or.R.unique {f:Int→Int} {l m:List Int} (h:Or.R f l m):∀{m':List Int},Or.R f l m'→m'=m:=by
 induction h with
 | @run a b h1 h2 h3 =>
   intro m' h'
   generalize he:a=a0 at h'
   cases h' with
   | run g1 g2 g3=>subst he;exact Ss.unique h2 g2 (h3.symm.trans g3)
   | @cons a' b' l' m'' c' g1 g2 g3 g4 g5 =>
     exact absurd (h1 c' (by rw[he];simp)) g4
 | @cons a b l m c h1 h2 h3 h4 h5 ih =>
   intro m' h'
   generalize he:a++c::l=a0 at h'
   cases h' with
   | run g1 g2 g3=>exact absurd (g1 c (by rw[←he];simp)) h4
   | @cons a' b' l' m'' c' g1 g2 g3 g4 g5 =>
     obtain⟨rfl,rfl,rfl⟩:=Or.split h1 g1 h4 g4 he
     rw[ih g5,Ss.unique h2 g2 (h3.symm.trans g3)]
inductive Or.Pre (f:Int→Int):List Int→List Int→Prop
 | nil:Or.Pre f [] []
 | snoc {p q a b:List Int} {c:Int}:Or.Pre f p q→(∀x∈a,0<f x)→Ss.so f b→Ss.eqv f a b→¬0<f c→Or.Pre f (p++(a++[c])) (q++(b++[c]))
theorem Or.Pre.app {f:Int→Int} {p q:List Int} (h:Or.Pre f p q):∀{l m:List Int},Or.R f l m→Or.R f (p++l) (q++m):=by
 induction h with
 | nil=>intro l m hr;exact hr
 | @snoc p q a b c h1 h2 h3 h4 h5 ih =>
   intro l m hr
   have:=ih (Or.R.cons h2 h3 h4 h5 hr)
   simpa using this
theorem Or.Pre.length {f:Int→Int} {p q:List Int} (h:Or.Pre f p q):q.length=p.length:=by
 induction h with
 | nil=>rfl
 | snoc h1 h2 h3 h4 h5 ih=>simp[ih,h4.length]
theorem Or.R.length {f:Int→Int} {l m:List Int} (h:Or.R f l m):m.length=l.length:=by
 induction h with
 | run h1 h2 h3=>exact h3.length
 | cons h1 h2 h3 h4 h5 ih=>simp[ih,h3.length]
theorem Or.R.mem {f:Int→Int} {l m:List Int} (h:Or.R f l m) (x:Int):x∈m↔x∈l:=by
 induction h with
 | run h1 h2 h3=>exact h3.mem x
 | cons h1 h2 h3 h4 h5 ih=>simp[ih,h3.mem x]
def Or.go (f:Int→Int):Int→List Int→List Int
 | x,[]=>[x]
 | x,y::l=>if 0<f y∧f y<f x then y::Or.go f x l else x::Or.go f y l
def Or.pass (f:Int→Int):List Int→List Int
 | []=>[]
 | x::l=>Or.go f x l
def Or.iter (f:Int→Int):Nat→List Int→List Int
 | 0,l=>l
 | n+1,l=>Or.iter f n (Or.pass f l)
theorem Or.go_zero {f:Int→Int} {c:Int} (hc:¬0<f c):∀(l:List Int),Or.go f c l=c::Or.pass f l
 | []=>rfl
 | y::l=>by
   unfold Or.go Or.pass
   rw[Zl (by omega)]
theorem Or.go_stop {f:Int→Int} {c:Int} (hc:¬0<f c):∀(a:List Int) (x:Int) (l:List Int),Or.go f x (a++c::l)=Or.go f x a++c::Or.pass f l
 | [],x,l=>by
   rw[Z2]
   show (if 0<f c∧f c<f x then _ else x::Or.go f c l)=_
   rw[Zl (fun h=>hc h.1),Or.go_zero hc]
   rfl
 | y::a,x,l=>by
   rw[ZQ]
   show (if 0<f y∧f y<f x then y::Or.go f x (a++c::l) else x::Or.go f y (a++c::l))=(if 0<f y∧f y<f x then y::Or.go f x a else x::Or.go f y a)++c::Or.pass f l
   rw[Or.go_stop hc a x l,Or.go_stop hc a y l]
   split <;> rfl
theorem Or.pass_stop {f:Int→Int} {c:Int} (hc:¬0<f c) (a l:List Int):Or.pass f (a++c::l)=Or.pass f a++c::Or.pass f l:=by
 cases a with
 | nil=>exact Or.go_zero hc l
 | cons x a=>exact Or.go_stop hc a x l
theorem Or.iter_stop {f:Int→Int} {c:Int} (hc:¬0<f c):∀(n:Nat) (a l:List Int),Or.iter f n (a++c::l)=Or.iter f n a++c::Or.iter f n l
 | 0,a,l=>rfl
 | n+1,a,l=>by
   unfold Or.iter
   rw[Or.pass_stop hc,Or.iter_stop hc n]
theorem Or.go_len (f:Int→Int):∀(l:List Int) (x:Int),(Or.go f x l).length=l.length+1
 | [],x=>rfl
 | y::l,x=>by
   unfold Or.go
   split
   · simp[Or.go_len f l x]
   · simp[Or.go_len f l y]
theorem Or.go_eqv (f:Int→Int):∀(l:List Int) (x:Int),Ss.eqv f (x::l) (Or.go f x l)
 | [],x=>Ss.eqv.refl _ _
 | y::l,x=>by
   unfold Or.go
   split
   · rename_i h
     have h1:Ss.eqv f ([x]++[y]) ([y]++[x]):=Ss.eqv.flip fun a ha b hb=>by
      rw[ZA]at ha hb
      rw[ha,hb]
      omega
     have h2:=h1.app (Ss.eqv.refl f l)
     have h3:=(Ss.eqv.refl f [y]).app (Or.go_eqv f l x)
     exact Ss.eqv.trans (by simpa using h2) (by simpa using h3)
   · have h3:=(Ss.eqv.refl f [x]).app (Or.go_eqv f l y)
     simpa using h3
theorem Or.pass_eqv (f:Int→Int) (l:List Int):Ss.eqv f l (Or.pass f l):=by
 cases l with
 | nil=>exact Ss.eqv.refl _ _
 | cons x l=>exact Or.go_eqv f l x
theorem Or.iter_eqv (f:Int→Int):∀(n:Nat) (l:List Int),Ss.eqv f l (Or.iter f n l)
 | 0,l=>Ss.eqv.refl _ _
 | n+1,l=>(Or.pass_eqv f l).trans (Or.iter_eqv f n _)
theorem Or.go_last {f:Int→Int}:∀(l:List Int) (x:Int),(∀y∈x::l,0<f y)→∃k m,Or.go f x l=k++[m]∧∀y∈x::l,f y≤f m
 | [],x,h=>⟨[],x,rfl,fun y hy=>by rw[ZA]at hy;rw[hy];exact YQ _⟩
 | y::l,x,h=>by
   unfold Or.go
   split
   · rename_i hc
     obtain⟨k,m,h1,h2⟩:=Or.go_last l x (fun z hz=>h z (by rcases List.mem_cons.1 hz with rfl|hz;exact Zv;exact Zx _ (Zx _ hz)))
     refine⟨y::k,m,by rw[h1];rfl,fun z hz=>?_⟩
     rcases List.mem_cons.1 hz with rfl|hz
     · exact h2 z Zv
     · rcases List.mem_cons.1 hz with rfl|hz
       · have:=h2 x Zv
         omega
       · exact h2 z (Zx _ hz)
   · rename_i hc
     obtain⟨k,m,h1,h2⟩:=Or.go_last l y (fun z hz=>h z (Zx _ hz))
     refine⟨x::k,m,by rw[h1];rfl,fun z hz=>?_⟩
     rcases List.mem_cons.1 hz with rfl|hz
     · have h3:=h2 y Zv
       have h4:=h y (Zx _ Zv)
       omega
     · exact h2 z hz
theorem Or.go_snoc {f:Int→Int} {m:Int}:∀(k:List Int) (x:Int),(∀y∈x::k,f y≤f m)→Or.go f x (k++[m])=Or.go f x k++[m]
 | [],x,h=>by
   show (if 0<f m∧f m<f x then _ else _)=_
   rw[Zl (by have:=h x Zv;omega)]
   rfl
 | y::k,x,h=>by
   rw[ZQ]
   unfold Or.go
   rw[Or.go_snoc k x (fun z hz=>h z (by rcases List.mem_cons.1 hz with rfl|hz;exact Zv;exact Zx _ (Zx _ hz))),Or.go_snoc k y (fun z hz=>h z (Zx _ hz))]
   split <;> rfl
theorem Or.pass_snoc {f:Int→Int} {m:Int} (k:List Int) (h:∀y∈k,f y≤f m):Or.pass f (k++[m])=Or.pass f k++[m]:=by
 cases k with
 | nil=>rfl
 | cons x k=>exact Or.go_snoc k x h
theorem Or.iter_snoc {f:Int→Int} {m:Int}:∀(n:Nat) (k:List Int),(∀y∈k,f y≤f m)→Or.iter f n (k++[m])=Or.iter f n k++[m]
 | 0,k,h=>rfl
 | n+1,k,h=>by
   unfold Or.iter
   rw[Or.pass_snoc k h,Or.iter_snoc n _ fun y hy=>h y (((Or.pass_eqv f k).mem y).1 hy)]
theorem Or.iter_so {f:Int→Int}:∀(n:Nat) (l:List Int),l.length≤n→(∀x∈l,0<f x)→Ss.so f (Or.iter f n l)
 | 0,l,hl,_=>by
   obtain rfl:l=[]:=Zy (by omega)
   exact Ss.so_nil f
 | n+1,[],_,_=>by
   have:∀n,Or.iter f n []=[]:=by
    intro n
    induction n with
    | zero=>rfl
    | succ n ih=>exact ih
   rw[this]
   exact Ss.so_nil f
 | n+1,x::l,hl,h=>by
   show Ss.so f (Or.iter f n (Or.go f x l))
   obtain⟨k,m,h1,h2⟩:=Or.go_last l x h
   have hq:=Or.go_eqv f l x
   rw[h1]at hq ⊢
   have hk:∀y∈k,y∈x::l:=fun y hy=>(hq.mem y).1 (by simp[hy])
   have hlen:=hq.length
   rw[Or.iter_snoc n k fun y hy=>h2 y (hk y hy)]
   refine (Or.iter_so n k (by simp at hlen hl;omega) fun y hy=>h y (hk y hy)).app (Ss.so_one f m) fun a ha b hb=>?_
   rw[ZA]at hb
   rw[hb]
   exact h2 a (hk a (((Or.iter_eqv f n k).mem a).1 ha))
theorem Or.iter_R {f:Int→Int} (n:Nat):∀(j:Nat) (l:List Int),l.length≤j→j≤n→Or.R f l (Or.iter f n l)
 | 0,l,hl,hn=>by
   obtain rfl:l=[]:=Zy (by omega)
   refine .run (fun x hx=>by simp at hx) (Or.iter_so n [] (by simp) (fun x hx=>by simp at hx)) (Or.iter_eqv f n [])
 | j+1,l,hl,hn=>by
   by_cases h:∀x∈l,0<f x
   · exact .run h (Or.iter_so n l (by omega) h) (Or.iter_eqv f n l)
   · have he:=List.takeWhile_append_dropWhile (p:=fun x=>decide (0<f x)) (l:=l)
     have ht:∀x∈l.takeWhile (fun x=>decide (0<f x)),0<f x:=fun x hx=>by simpa using List.all_eq_true.1 (List.all_takeWhile (l:=l) (p:=fun x=>decide (0<f x))) x hx
     cases hd:l.dropWhile (fun x=>decide (0<f x)) with
     | nil =>
       rw[hd,Yc]at he
       exact absurd (fun x hx=>ht x (by rw[he];exact hx)) h
     | cons c r =>
       have hc:¬0<f c:=by
        have:=List.head?_dropWhile_not (fun x=>decide (0<f x)) l
        rw[hd]at this
        simpa using this
       rw[hd]at he
       have hlen:=Z4 List.length he
       simp at hlen
       rw[←he,Or.iter_stop hc]
       exact .cons ht (Or.iter_so n _ (by omega) ht) (Or.iter_eqv f n _) hc (Or.iter_R n j r (by omega) (by omega))
theorem Or.ref_R (f:Int→Int) (l:List Int):Or.R f l (Or.iter f l.length l):=Or.iter_R l.length l.length l (Zb _) (Zb _)
def Or.of (f:Int→Int) (l:List Int):List Int:=Or.iter f l.length l
theorem Or.of_R (f:Int→Int) (l:List Int):Or.R f l (Or.of f l):=Or.ref_R f l
theorem Or.of_len (f:Int→Int) (l:List Int):(Or.of f l).length=l.length:=(Or.of_R f l).length
end Go.Proofs.YtikiplbhlohmdaaGreatDoor
