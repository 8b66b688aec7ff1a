/- Stable sorting, in plain words: what is sorted by a key, equals in their order, is one list. -/
import Derived.Test.YthngjlllojiacaaGreatDoorUtfC
set_option linter.unusedVariables false
set_option linter.unusedSimpArgs false
namespace Go.Proofs.YthngjlllojiacaaGreatDoor
def Ss.so (f:Int→Int) (l:List Int):Prop:=l.Pairwise fun x y=>f x≤f y
def Ss.eqv (f:Int→Int) (l l':List Int):Prop:=∀k,l'.filter (fun x=>decide (f x=k))=l.filter (fun x=>decide (f x=k))
theorem Ss.eqv.refl (f:Int→Int) (l:List Int):Ss.eqv f l l:=fun _=>rfl
theorem Ss.eqv.trans {f:Int→Int} {a b c:List Int} (h1:Ss.eqv f a b) (h2:Ss.eqv f b c):Ss.eqv f a c:=fun k=>(h2 k).trans (h1 k)
theorem Ss.eqv.symm {f:Int→Int} {a b:List Int} (h1:Ss.eqv f a b):Ss.eqv f b a:=fun k=>(h1 k).symm
theorem Ss.eqv.app {f:Int→Int} {a b a' b':List Int} (h1:Ss.eqv f a a') (h2:Ss.eqv f b b'):Ss.eqv f (a++b) (a'++b'):=fun k=>by
 rw[Yh,Yh,h1 k,h2 k]
theorem Ss.eqv.flip {f:Int→Int} {a b:List Int} (h:∀x∈a,∀y∈b,f x≠f y):Ss.eqv f (a++b) (b++a):=fun k=>by
 rw[Yh,Yh]
 by_cases ha:a.filter (fun x=>decide (f x=k))=[]
 · rw[ha,Z3,ZH]
 have hb:b.filter (fun x=>decide (f x=k))=[]:=by
  rw[List.filter_eq_nil_iff];intro y hy hk;obtain⟨x,hx⟩:=List.exists_mem_of_ne_nil _ ha;rw[X0]at hx;simp only[Zm]at hk hx;exact h x hx.1 y hy (hx.2.trans hk.symm)
 rw[hb,Z3,ZH]
theorem Ss.eqv.mem {f:Int→Int} {a b:List Int} (h:Ss.eqv f a b) (x:Int):x∈b↔x∈a:=by
 have:∀l:List Int,x∈l↔x∈l.filter (fun y=>decide (f y=f x)):=fun l=>by rw[X0];simp
 rw[this a,this b,h (f x)]
theorem Ss.eqv.perm {f:Int→Int} {a b:List Int} (h:Ss.eqv f a b):b.Perm a:=by
 rw[List.perm_iff_count];intro x;have hc:∀l:List Int,List.count x l=List.count x (l.filter (fun y=>decide (f y=f x))):=fun l=>(List.count_filter (by simp)).symm
 rw[hc a,hc b,h (f x)]
theorem Ss.eqv.length {f:Int→Int} {a b:List Int} (h:Ss.eqv f a b):b.length=a.length:=h.perm.length_eq
theorem Ss.so.app {f:Int→Int} {a b:List Int} (h1:Ss.so f a) (h2:Ss.so f b) (h:∀x∈a,∀y∈b,f x≤f y):Ss.so f (a++b):=List.pairwise_append.2 ⟨h1,h2,h⟩
theorem Ss.so.left {f:Int→Int} {a b:List Int} (h:Ss.so f (a++b)):Ss.so f a:=(List.pairwise_append.1 h).1
theorem Ss.so.right {f:Int→Int} {a b:List Int} (h:Ss.so f (a++b)):Ss.so f b:=(List.pairwise_append.1 h).2.1
theorem Ss.so.cross {f:Int→Int} {a b:List Int} (h:Ss.so f (a++b)):∀x∈a,∀y∈b,f x≤f y:=(List.pairwise_append.1 h).2.2
theorem Ss.unique {f:Int→Int}:∀{a b:List Int},Ss.so f a→Ss.so f b→Ss.eqv f a b→b=a
 | [],b,_,_,h=>ZD (by rw[h.length];rfl)
 | x::a,[],_,_,h=>by
   have:=h.length;simp at this
 | x::a,y::b,ha,hb,h=>by
   unfold Ss.so at ha hb;rw[Xy]at ha hb;have hx:x∈y::b:=(h.mem x).2 Zq;have hy:y∈x::a:=(h.mem y).1 Zq
   have h1:f y≤f x:=by
    rcases List.mem_cons.1 hx with e|e
    · rw[e];exact YC _
    exact hb.1 x e
   have h2:f x≤f y:=by
    rcases List.mem_cons.1 hy with e|e
    · rw[e];exact YC _
    exact ha.1 y e
   have hk:f x=f y:=by omega
   have h3:=h (f x);rw[Yp,Yp,Zl (by simp[hk]),Zl (by simp)]at h3;have aa:y=x:=(QM h3).1;subst aa;rw[Ss.unique ha.2 hb.2 fun k=>?_];have h4:=h k;rw[Yp,Yp]at h4;split at h4
   · exact (QM h4).2
   exact h4
theorem Ss.insert {f:Int→Int} {s g:List Int} {x:Int} (hs:Ss.so f (s++g)) (h1:∀y∈s,f y≤f x) (h2:∀y∈g,f x<f y):Ss.so f (s++x::g)∧Ss.eqv f (s++g++[x]) (s++x::g):=by
 refine⟨?_,?_⟩
 · refine hs.left.app ?_ ?_
   · exact List.pairwise_cons.2 ⟨fun y hy=>JO (h2 y hy),hs.right⟩
   intro y hy z hz;rcases List.mem_cons.1 hz with rfl|hz
   · exact h1 y hy
   exact hs.cross y hy z hz
 rw[Zz];refine (Ss.eqv.refl f s).app ?_
 exact Ss.eqv.flip (a:=g) (b:=[x]) fun y hy z hz=>by
  rw[Zp]at hz;have:=h2 y hy;rw[hz];omega
theorem zPB {f:Int→Int} {a1 a2 b1 b2 c1 c2:List Int} (ha:Ss.so f (a1++a2)) (hb:Ss.so f (b1++b2)) (h1:∀x∈b1,∀y∈a2,f x<f y) (h2:∀x∈a1,∀y∈b2,f x≤f y)
 (s1:Ss.so f c1) (e1:Ss.eqv f (a1++b1) c1) (s2:Ss.so f c2) (e2:Ss.eqv f (a2++b2) c2):Ss.so f (c1++c2)∧Ss.eqv f ((a1++a2)++(b1++b2)) (c1++c2):=by
 refine⟨s1.app s2 fun x hx y hy=>?_,?_⟩
 · rcases List.mem_append.1 ((e1.mem x).1 hx) with hx|hx <;> rcases List.mem_append.1 ((e2.mem y).1 hy) with hy|hy
   · exact ha.cross x hx y hy
   · exact h2 x hx y hy
   · exact JO (h1 x hx y hy)
   exact hb.cross x hx y hy
 have g1:Ss.eqv f ((a1++a2)++(b1++b2)) ((a1++b1)++(a2++b2)):=by
  rw[Zz,Zz];refine (Ss.eqv.refl f a1).app ?_;rw[←Zz,←Zz];refine Ss.eqv.app ?_ (Ss.eqv.refl f b2);exact Ss.eqv.flip fun x hx y hy=>by have:=h1 y hy x hx;omega
 exact g1.trans (e1.app e2)
theorem zKb {f:Int→Int} {x:Int} {b1 b2:List Int} (hb:Ss.so f (b1++b2)) (h1:∀y∈b1,f y<f x) (h2:∀y∈b2,f x≤f y):Ss.so f (b1++x::b2)∧Ss.eqv f (x::(b1++b2)) (b1++x::b2):=by
 refine⟨?_,?_⟩
 · refine hb.left.app (List.pairwise_cons.2 ⟨h2,hb.right⟩) ?_;intro y hy z hz;rcases List.mem_cons.1 hz with rfl|hz
   · exact JO (h1 y hy)
   exact hb.cross y hy z hz
 have:Ss.eqv f ([x]++b1) (b1++[x]):=Ss.eqv.flip fun y hy z hz=>by
  rw[Zp]at hy;have:=h1 z hz;rw[hy];omega
 have h:=this.app (Ss.eqv.refl f b2);simpa using h
theorem Ss.so.get {f:Int→Int} {l:List Int} (h:Ss.so f l) {i j:Nat} {x y:Int} (hi:l[i]?=some x) (hj:l[j]?=some y) (hij:i≤j):f x≤f y:=by
 obtain⟨a1,b1⟩:=List.getElem?_eq_some_iff.1 hi;obtain⟨a2,b2⟩:=List.getElem?_eq_some_iff.1 hj;rcases ZZ i j with hl|hl
 · have:=List.pairwise_iff_getElem.1 h i j a1 a2 hl;rw[b1,b2]at this;exact this
 have:i=j:=by omega
 subst this;rw[hi]at hj;cases hj
 exact YC _
theorem zDU {l:List Int} {n:Nat} {x:Int} (h:x∈l.take n):∃i,i<n∧l[i]?=some x:=by
 obtain⟨i,hi⟩:=List.mem_iff_getElem?.1 h;rw[Yk]at hi;split at hi
 · rename_i h1;exact⟨i,h1,hi⟩
 cases hi
theorem zDV {l:List Int} {n:Nat} {x:Int} (h:x∈l.drop n):∃i,n≤i∧l[i]?=some x:=by
 obtain⟨i,hi⟩:=List.mem_iff_getElem?.1 h;rw[Xj]at hi;exact⟨n+i,by omega,hi⟩
theorem Ss.sym {f:Int→Int} {A B:List Int} {s j:Nat} (hs:s≤A.length) (hj:j≤B.length) (hA:Ss.so f A) (hB:Ss.so f B) (P1:∀x y,A[s]?=some x→0<j→B[j-1]?=some y→f y<f x) (P2:∀x y,0<s→A[s-1]?=some x→B[j]?=some y→f x≤f y) :
 (∀x∈B.take j,∀y∈A.drop s,f x<f y)∧(∀x∈A.take s,∀y∈B.drop j,f x≤f y):=by
 refine⟨fun x hx y hy=>?_,fun x hx y hy=>?_⟩
 · obtain⟨i,hi,aa⟩:=zDU hx;obtain⟨k,hk,ae⟩:=zDV hy;have ag:=(List.getElem?_eq_some_iff.1 ae).1;have af:=(List.getElem?_eq_some_iff.1 aa).1;obtain⟨u,hu⟩:∃u,A[s]?=some u:=⟨_,Zb (by omega)⟩;obtain⟨v,hv⟩:∃v,B[j-1]?=some v:=⟨_,Zb (by omega)⟩;have h1:=P1 u v hu (by omega) hv;have h2:=hA.get hu ae hk;have h3:=hB.get aa hv (by omega);omega
 obtain⟨i,hi,aa⟩:=zDU hx;obtain⟨k,hk,ae⟩:=zDV hy;have ag:=(List.getElem?_eq_some_iff.1 ae).1;have af:=(List.getElem?_eq_some_iff.1 aa).1;obtain⟨v,hv⟩:∃v,B[j]?=some v:=⟨_,Zb (by omega)⟩;obtain⟨u,hu⟩:∃u,A[s-1]?=some u:=⟨_,Zb (by omega)⟩;have h1:=P2 u v (by omega) hu hv;have h2:=hA.get aa hu (by omega);have h3:=hB.get hv ae hk;omega
theorem zKc (P M Q:List Int) (x y:Int):((P++x::(M++y::Q)).set P.length y).set (P.length+1+M.length) x=P++y::(M++x::Q):=by
 rw[Yw _ _ (Za _),Ye,ZB,Yw _ _ (by omega),show P.length+1+M.length-P.length=M.length+1 by omega,ZC,Yw _ _ (Za _),Ye,ZB]
theorem zPC (P M Q:List Int) (x y:Int):((P++x::(M++y::Q)).set (P.length+1+M.length) x).set P.length y=P++y::(M++x::Q):=by
 rw[List.set_comm _ _ (by omega),zKc]
theorem zBY (P R:List Int) (x:Int):(P++x::R)[P.length]?=some x:=by simp
theorem zBm (P M Q:List Int) (x y:Int):(P++x::(M++y::Q))[P.length+1+M.length]?=some y:=by
 rw[ZJ (by omega),show P.length+1+M.length-P.length=M.length+1 by omega,YM,ZJ (Za _),Ye];rfl
def Ss.mid (P X M Y Q:List Int) (t:Nat):List Int:=P++((Y.take t++X.drop t)++(M++((X.take t++Y.drop t)++Q)))
theorem zMw (P X M Y Q:List Int):Ss.mid P X M Y Q 0=P++(X++(M++(Y++Q))):=by unfold Ss.mid;simp
theorem Ss.mid_all {P X M Y Q:List Int} {n:Nat} (hX:X.length=n) (hY:Y.length=n):Ss.mid P X M Y Q n=P++(Y++(M++(X++Q))):=by
 unfold Ss.mid;rw[Zi (by omega),Zi (by omega),YD (by omega),YD (by omega)];simp
theorem zMx {P X M Y Q:List Int} {t:Nat} {x y:Int} (hx:X[t]?=some x) (hy:Y[t]?=some y) :
 Ss.mid P X M Y Q t=(P++Y.take t)++x::((X.drop (t+1)++(M++X.take t))++y::(Y.drop (t+1)++Q))∧Ss.mid P X M Y Q (t+1)=(P++Y.take t)++y::((X.drop (t+1)++(M++X.take t))++x::(Y.drop (t+1)++Q)):=by
 obtain⟨a1,b1⟩:=List.getElem?_eq_some_iff.1 hx;obtain⟨a2,b2⟩:=List.getElem?_eq_some_iff.1 hy;have e1:X.drop t=x::X.drop (t+1):=by rw[ZR a1,b1]
 have e2:Y.drop t=y::Y.drop (t+1):=by rw[ZR a2,b2]
 have e3:X.take (t+1)=X.take t++[x]:=by rw[ZA,hx];rfl
 have e4:Y.take (t+1)=Y.take t++[y]:=by rw[ZA,hy];rfl
 unfold Ss.mid;rw[e1,e2,e3,e4];simp
theorem Ss.mid_len {X M Y:List Int} {P:List Int} {t n:Nat} (hX:X.length=n) (hY:Y.length=n) (ht:t<n):(P++Y.take t).length=P.length+t∧(P++Y.take t).length+1+(X.drop (t+1)++(M++X.take t)).length=P.length+n+M.length+t:=by
 simp;omega
def Ss.chk (f:Int→Int) (bs:Nat) (l:List Int):Prop:=∀i,Ss.so f ((l.drop (i*bs)).take bs)
theorem zJj (f:Int→Int) (bs:Nat):Ss.chk f bs []:=fun i=>by simp[Ss.so]
theorem zCT {f:Int→Int} {bs k:Nat} {l c:List Int} (hl:l.length=k*bs) (h:Ss.chk f bs l) (hc:Ss.so f c) (aa:c.length≤bs):Ss.chk f bs (l++c):=by
 intro i;rcases XJ i k with hi|hi|hi
 · have h1:(i+1)*bs≤k*bs:=Qo _ hi;rw[Nat.add_mul,Nat.one_mul]at h1;rw[Xw (by omega),YX (by rw[ZM];omega)];exact h i
 · subst hi;rw[←hl,Ji,Zi aa];exact hc
 have h1:(k+1)*bs≤i*bs:=Qo _ hi;rw[Nat.add_mul,Nat.one_mul]at h1;rw[YD (by rw[Zd];omega)];simp[Ss.so]
theorem zOm {f:Int→Int} {bs:Nat} {l:List Int} (h:Ss.chk f bs l) (hl:l.length≤bs):Ss.so f l:=by
 have:=h 0;rw[JP,Jg,Zi hl]at this;exact this
theorem zG3 (f:Int→Int):Ss.so f []:=List.Pairwise.nil
theorem zLc (f:Int→Int) (x:Int):Ss.so f [x]:=by simp[Ss.so]
theorem Ss.eqv.nil {f:Int→Int} {l:List Int} (h:Ss.eqv f [] l):l=[]:=ZD (by rw[h.length];rfl)
inductive Or.R (f:Int→Int):List Int→List Int→Prop
 | run {a b:List Int}:(∀x∈a,0<f x)→Ss.so f b→Ss.eqv f a b→Or.R f a b
 | cons {a b l m:List Int} {c:Int}:(∀x∈a,0<f x)→Ss.so f b→Ss.eqv f a b→¬0<f c→Or.R f l m→Or.R f (a++c::l) (b++c::m)
theorem Or.split {f:Int→Int}:∀{a a':List Int} {l l':List Int} {c c':Int},(∀x∈a,0<f x)→(∀x∈a',0<f x)→¬0<f c→¬0<f c'→a++c::l=a'++c'::l'→a=a'∧c=c'∧l=l'
 | [],[],l,l',c,c',_,_,_,_,h=>by
   simp at h;exact⟨rfl,h.1,h.2⟩
 | [],y::a',l,l',c,c',_,h2,h3,_,h=>by
   simp at h;exact absurd (h.1▸h2 y Zq) h3
 | x::a,[],l,l',c,c',h1,_,_,h4,h=>by
   simp at h;exact absurd (h.1▸h1 x Zq) h4
 | x::a,y::a',l,l',c,c',h1,h2,h3,h4,h=>by
   simp only[Zo,Yb]at h;obtain⟨rfl,h5⟩:=h;obtain⟨g1,g2,g3⟩:=Or.split (fun z hz=>h1 z (Zv _ hz)) (fun z hz=>h2 z (Zv _ hz)) h3 h4 h5;exact⟨by rw[g1],g2,g3⟩
theorem Or.R.unique {f:Int→Int} {l m:List Int} (h:Or.R f l m):∀{m':List Int},Or.R f l m'→m'=m:=by
 induction h with
 | @run a b h1 h2 h3 =>
   intro m' h';generalize he:a=a0 at h';cases h' with
   | run g1 g2 g3=>subst he;exact Ss.unique h2 g2 (h3.symm.trans g3)
   | @cons a' b' l' m'' c' g1 g2 g3 g4 g5 =>
     exact absurd (h1 c' (by rw[he];simp)) g4
 | @cons a b l m c h1 h2 h3 h4 h5 ih =>
   intro m' h';generalize he:a++c::l=a0 at h';cases h' with
   | run g1 g2 g3=>exact absurd (g1 c (by rw[←he];simp)) h4
   | @cons a' b' l' m'' c' g1 g2 g3 g4 g5 =>
     obtain⟨rfl,rfl,rfl⟩:=Or.split h1 g1 h4 g4 he;rw[ih g5,Ss.unique h2 g2 (h3.symm.trans g3)]
inductive Or.Pre (f:Int→Int):List Int→List Int→Prop
 | nil:Or.Pre f [] []
 | snoc {p q a b:List Int} {c:Int}:Or.Pre f p q→(∀x∈a,0<f x)→Ss.so f b→Ss.eqv f a b→¬0<f c→Or.Pre f (p++(a++[c])) (q++(b++[c]))
theorem Or.Pre.app {f:Int→Int} {p q:List Int} (h:Or.Pre f p q):∀{l m:List Int},Or.R f l m→Or.R f (p++l) (q++m):=by
 induction h with
 | nil=>intro l m hr;exact hr
 | @snoc p q a b c h1 h2 h3 h4 h5 ih =>
   intro l m hr;have:=ih (Or.R.cons h2 h3 h4 h5 hr);simpa using this
theorem Or.Pre.length {f:Int→Int} {p q:List Int} (h:Or.Pre f p q):q.length=p.length:=by
 induction h with
 | nil=>rfl
 | snoc h1 h2 h3 h4 h5 ih=>simp[ih,h4.length]
theorem Or.R.length {f:Int→Int} {l m:List Int} (h:Or.R f l m):m.length=l.length:=by
 induction h with
 | run h1 h2 h3=>exact h3.length
 | cons h1 h2 h3 h4 h5 ih=>simp[ih,h3.length]
theorem Or.R.mem {f:Int→Int} {l m:List Int} (h:Or.R f l m) (x:Int):x∈m↔x∈l:=by
 induction h with
 | run h1 h2 h3=>exact h3.mem x
 | cons h1 h2 h3 h4 h5 ih=>simp[ih,h3.mem x]
def zBM (f:Int→Int):Int→List Int→List Int
 | x,[]=>[x]
 | x,y::l=>if 0<f y∧f y<f x then y::zBM f x l else x::zBM f y l
def zBR (f:Int→Int):List Int→List Int
 | []=>[]
 | x::l=>zBM f x l
def zBn (f:Int→Int):Nat→List Int→List Int
 | 0,l=>l
 | n+1,l=>zBn f n (zBR f l)
theorem zJk {f:Int→Int} {c:Int} (hc:¬0<f c):∀(l:List Int),zBM f c l=c::zBR f l
 | []=>rfl
 | y::l=>by
   unfold zBM zBR;rw[Zj (by omega)]
theorem zGu {f:Int→Int} {c:Int} (hc:¬0<f c):∀(a:List Int) (x:Int) (l:List Int),zBM f x (a++c::l)=zBM f x a++c::zBR f l
 | [],x,l=>by
   rw[ZH];show (if 0<f c∧f c<f x then _ else x::zBM f c l)=_;rw[Zj (fun h=>hc h.1),zJk hc];rfl
 | y::a,x,l=>by
   rw[Zo];show (if 0<f y∧f y<f x then y::zBM f x (a++c::l) else x::zBM f y (a++c::l))=(if 0<f y∧f y<f x then y::zBM f x a else x::zBM f y a)++c::zBR f l;rw[zGu hc a x l,zGu hc a y l];split <;> rfl
theorem zLd {f:Int→Int} {c:Int} (hc:¬0<f c) (a l:List Int):zBR f (a++c::l)=zBR f a++c::zBR f l:=by
 cases a with
 | nil=>exact zJk hc l
 | cons x a=>exact zGu hc a x l
theorem zH0 {f:Int→Int} {c:Int} (hc:¬0<f c):∀(n:Nat) (a l:List Int),zBn f n (a++c::l)=zBn f n a++c::zBn f n l
 | 0,a,l=>rfl
 | n+1,a,l=>by
   unfold zBn;rw[zLd hc,zH0 hc n]
theorem Or.go_len (f:Int→Int):∀(l:List Int) (x:Int),(zBM f x l).length=l.length+1
 | [],x=>rfl
 | y::l,x=>by
   unfold zBM;split
   · simp[Or.go_len f l x]
   simp[Or.go_len f l y]
theorem zG4 (f:Int→Int):∀(l:List Int) (x:Int),Ss.eqv f (x::l) (zBM f x l)
 | [],x=>Ss.eqv.refl _ _
 | y::l,x=>by
   unfold zBM;split
   · rename_i h
     have h1:Ss.eqv f ([x]++[y]) ([y]++[x]):=Ss.eqv.flip fun a ha b hb=>by
      rw[Zp]at ha hb;rw[ha,hb];omega
     have h2:=h1.app (Ss.eqv.refl f l);have h3:=(Ss.eqv.refl f [y]).app (zG4 f l x);exact Ss.eqv.trans (by simpa using h2) (by simpa using h3)
   have h3:=(Ss.eqv.refl f [x]).app (zG4 f l y);simpa using h3
theorem zHY (f:Int→Int) (l:List Int):Ss.eqv f l (zBR f l):=by
 cases l with
 | nil=>exact Ss.eqv.refl _ _
 | cons x l=>exact zG4 f l x
theorem zBS (f:Int→Int):∀(n:Nat) (l:List Int),Ss.eqv f l (zBn f n l)
 | 0,l=>Ss.eqv.refl _ _
 | n+1,l=>(zHY f l).trans (zBS f n _)
theorem zGv {f:Int→Int}:∀(l:List Int) (x:Int),(∀y∈x::l,0<f y)→∃k m,zBM f x l=k++[m]∧∀y∈x::l,f y≤f m
 | [],x,h=>⟨[],x,rfl,fun y hy=>by rw[Zp]at hy;rw[hy];exact YC _⟩
 | y::l,x,h=>by
   unfold zBM;split
   · rename_i hc;obtain⟨k,m,h1,h2⟩:=zGv l x (fun z hz=>h z (by rcases List.mem_cons.1 hz with rfl|hz;exact Zq;exact Zv _ (Zv _ hz)));refine⟨y::k,m,by rw[h1];rfl,fun z hz=>?_⟩;rcases List.mem_cons.1 hz with rfl|hz
     · exact h2 z Zq
     rcases List.mem_cons.1 hz with rfl|hz
     · have:=h2 x Zq;omega
     exact h2 z (Zv _ hz)
   rename_i hc;obtain⟨k,m,h1,h2⟩:=zGv l y (fun z hz=>h z (Zv _ hz));refine⟨x::k,m,by rw[h1];rfl,fun z hz=>?_⟩;rcases List.mem_cons.1 hz with rfl|hz
   · have h3:=h2 y Zq;have h4:=h y (Zv _ Zq);omega
   exact h2 z hz
theorem zGw {f:Int→Int} {m:Int}:∀(k:List Int) (x:Int),(∀y∈x::k,f y≤f m)→zBM f x (k++[m])=zBM f x k++[m]
 | [],x,h=>by
   show (if 0<f m∧f m<f x then _ else _)=_;rw[Zj (by have:=h x Zq;omega)];rfl
 | y::k,x,h=>by
   rw[Zo];unfold zBM;rw[zGw k x (fun z hz=>h z (by rcases List.mem_cons.1 hz with rfl|hz;exact Zq;exact Zv _ (Zv _ hz))),zGw k y (fun z hz=>h z (Zv _ hz))];split <;> rfl
theorem zLe {f:Int→Int} {m:Int} (k:List Int) (h:∀y∈k,f y≤f m):zBR f (k++[m])=zBR f k++[m]:=by
 cases k with
 | nil=>rfl
 | cons x k=>exact zGw k x h
theorem zH1 {f:Int→Int} {m:Int}:∀(n:Nat) (k:List Int),(∀y∈k,f y≤f m)→zBn f n (k++[m])=zBn f n k++[m]
 | 0,k,h=>rfl
 | n+1,k,h=>by
   unfold zBn;rw[zLe k h,zH1 n _ fun y hy=>h y (((zHY f k).mem y).1 hy)]
theorem zEY {f:Int→Int}:∀(n:Nat) (l:List Int),l.length≤n→(∀x∈l,0<f x)→Ss.so f (zBn f n l)
 | 0,l,hl,_=>by
   obtain rfl:l=[]:=ZD (by omega);exact zG3 f
 | n+1,[],_,_=>by
   have:∀n,zBn f n []=[]:=by
    intro n
    induction n with
    | zero=>rfl
    | succ n ih=>exact ih
   rw[this];exact zG3 f
 | n+1,x::l,hl,h=>by
   show Ss.so f (zBn f n (zBM f x l));obtain⟨k,m,h1,h2⟩:=zGv l x h;have hq:=zG4 f l x;rw[h1]at hq ⊢;have hk:∀y∈k,y∈x::l:=fun y hy=>(hq.mem y).1 (by simp[hy])
   have hlen:=hq.length;rw[zH1 n k fun y hy=>h2 y (hk y hy)];refine (zEY n k (by simp at hlen hl;omega) fun y hy=>h y (hk y hy)).app (zLc f m) fun a ha b hb=>?_
   rw[Zp]at hb;rw[hb];exact h2 a (hk a (((zBS f n k).mem a).1 ha))
theorem zLf {f:Int→Int} (n:Nat):∀(j:Nat) (l:List Int),l.length≤j→j≤n→Or.R f l (zBn f n l)
 | 0,l,hl,hn=>by
   obtain rfl:l=[]:=ZD (by omega);refine .run (fun x hx=>by simp at hx) (zEY n [] (by simp) (fun x hx=>by simp at hx)) (zBS f n [])
 | j+1,l,hl,hn=>by
   by_cases h:∀x∈l,0<f x
   · exact .run h (zEY n l (by omega) h) (zBS f n l)
   have he:=List.takeWhile_append_dropWhile (p:=fun x=>decide (0<f x)) (l:=l);have ht:∀x∈l.takeWhile (fun x=>decide (0<f x)),0<f x:=fun x hx=>by simpa using List.all_eq_true.1 (List.all_takeWhile (l:=l) (p:=fun x=>decide (0<f x))) x hx
   cases hd:l.dropWhile (fun x=>decide (0<f x)) with
   | nil =>
     rw[hd,Z3]at he;exact absurd (fun x hx=>ht x (by rw[he];exact hx)) h
   | cons c r =>
     have hc:¬0<f c:=by
      have:=List.head?_dropWhile_not (fun x=>decide (0<f x)) l;rw[hd]at this;simpa using this
     rw[hd]at he;have hlen:=ZT List.length he;simp at hlen;rw[←he,zH0 hc];exact .cons ht (zEY n _ (by omega) ht) (zBS f n _) hc (zLf n j r (by omega) (by omega))
theorem zQH (f:Int→Int) (l:List Int):Or.R f l (zBn f l.length l):=zLf l.length l.length l (Za _) (Za _)
def Or.of (f:Int→Int) (l:List Int):List Int:=zBn f l.length l
theorem zBN (f:Int→Int) (l:List Int):Or.R f l (Or.of f l):=zQH f l
theorem zEs (f:Int→Int) (l:List Int):(Or.of f l).length=l.length:=(zBN f l).length
theorem Or.cut (f:Int→Int):∀l:List Int,(∀x∈l,0<f x)∨∃a c m,l=a++c::m∧(∀x∈a,0<f x)∧¬0<f c
 | []=>.inl fun x h=>absurd h Z6
 | y::l=>by
   by_cases h:0<f y
   · rcases Or.cut f l with h1|⟨a,c,m,rfl,h1,h2⟩
     · exact .inl fun x hx=>by rcases List.mem_cons.1 hx with rfl|hx;exact h;exact h1 x hx
     exact .inr ⟨y::a,c,m,rfl,fun x hx=>by rcases List.mem_cons.1 hx with rfl|hx;exact h;exact h1 x hx,h2⟩
   exact .inr ⟨[],y,l,rfl,fun x hx=>absurd hx Z6,h⟩
inductive Or.Q (f:Int→Int):List Int→List Int→Prop
 | run {a b:List Int}:(∀x∈a,0<f x)→Ss.eqv f a b→Or.Q f a b
 | cons {a b l m:List Int} {c:Int}:(∀x∈a,0<f x)→Ss.eqv f a b→¬0<f c→Or.Q f l m→Or.Q f (a++c::l) (b++c::m)
theorem Ss.eqv.pos {f:Int→Int} {a b:List Int} (h:Ss.eqv f a b) (ha:∀x∈a,0<f x):∀x∈b,0<f x:=fun x hx=>ha x ((h.mem x).1 hx)
theorem Or.R.toQ {f:Int→Int} {l m:List Int} (h:Or.R f l m):Or.Q f l m:=by
 induction h with
 | run h1 h2 h3=>exact .run h1 h3
 | cons h1 h2 h3 h4 h5 ih=>exact .cons h1 h3 h4 ih
theorem Or.Q.symm {f:Int→Int} {l m:List Int} (h:Or.Q f l m):Or.Q f m l:=by
 induction h with
 | run h1 h2=>exact .run (h2.pos h1) h2.symm
 | cons h1 h2 h3 h4 ih=>exact .cons (h2.pos h1) h2.symm h3 ih
theorem Or.Q.R {f:Int→Int} {l m:List Int} (h:Or.Q f l m):∀{r:List Int},Or.R f l r→Or.R f m r:=by
 induction h with
 | @run a b h1 h2 =>
   intro r h';generalize he:a=a0 at h';cases h' with
   | run g1 g2 g3=>subst he;exact .run (h2.pos h1) g2 (h2.symm.trans g3)
   | @cons a' b' l' m'' c' g1 g2 g3 g4 g5=>exact absurd (h1 c' (by rw[he];simp)) g4
 | @cons a b l m c h1 h2 h3 h4 ih =>
   intro r h';generalize he:a++c::l=a0 at h';cases h' with
   | run g1 g2 g3=>exact absurd (g1 c (by rw[←he];simp)) h3
   | @cons a' b' l' m'' c' g1 g2 g3 g4 g5 =>
     obtain⟨rfl,rfl,rfl⟩:=Or.split h1 g1 h3 g4 he;exact .cons (h2.pos h1) g2 (h2.symm.trans g3) h3 (ih g5)
theorem Or.Q.of {f:Int→Int} {l m:List Int} (h:Or.Q f l m):Or.of f l=Or.of f m:=(h.R (zBN f l)).unique (zBN f m) |>.symm
theorem zHZ (f:Int→Int) (l:List Int):Or.Q f l (Or.of f l):=(zBN f l).toQ
theorem Or.Q.trans {f:Int→Int} {l m r:List Int} (h:Or.Q f l m) (h':Or.Q f m r):Or.Q f l r:=by
 have h1:=h'.R (h.R (zBN f l))
 have:∀{x y},Or.R f x y→∀{z},Or.R f z y→Or.Q f x z:=by
  intro x y aa
  induction aa with
  | @run a b g1 g2 g3 =>
    intro z hz;generalize he:b=b0 at hz;cases hz with
    | run k1 k2 k3=>subst he;exact .run g1 (g3.trans k3.symm)
    | @cons a' b' l' m'' c' k1 k2 k3 k4 k5=>exact absurd (g3.pos g1 c' (by rw[he];simp)) k4
  | @cons a b l m c g1 g2 g3 g4 g5 ih =>
    intro z hz;generalize he:b++c::m=b0 at hz;cases hz with
    | run k1 k2 k3=>exact absurd (k3.pos k1 c (by rw[←he];simp)) g4
    | @cons a' b' l' m'' c' k1 k2 k3 k4 k5 =>
      obtain⟨rfl,rfl,rfl⟩:=Or.split (g3.pos g1) (k3.pos k1) g4 k4 he;exact .cons g1 (g3.trans k3.symm) g4 (ih k5)
 exact this (zBN f l) h1
theorem Or.Q.refl (f:Int→Int) (l:List Int):Or.Q f l l:=(zHZ f l).trans (zHZ f l).symm
theorem zQI {f:Int→Int} {l m:List Int}:Or.Q f l m↔Or.of f l=Or.of f m :=
 ⟨fun h=>h.of,fun h=>(zHZ f l).trans (h▸(zHZ f m).symm)⟩
theorem Or.Q.app {f:Int→Int} {l m p q:List Int} (h:Or.Q f l m) (h':Or.Q f p q):Or.Q f (l++p) (m++q):=by
 induction h with
 | @run a b h1 h2 =>
   cases h' with
   | run g1 g2=>exact .run (fun x hx=>by rcases List.mem_append.1 hx with h|h;exact h1 x h;exact g1 x h) (h2.app g2)
   | @cons a' b' l' m' c g1 g2 g3 g4 =>
     rw[←Zz,←Zz];exact .cons (fun x hx=>by rcases List.mem_append.1 hx with h|h;exact h1 x h;exact g1 x h) (h2.app g2) g3 g4
 | @cons a b l m c h1 h2 h3 h4 ih =>
   rw[Zz,Zz,Zo,Zo];exact .cons h1 h2 h3 ih
theorem Or.Q.flip {f:Int→Int} {a b:List Int} (ha:∀x∈a,0<f x) (hb:∀x∈b,0<f x) (h:∀x∈a,∀y∈b,f x≠f y):Or.Q f (a++b) (b++a) :=
 .run (fun x hx=>by rcases List.mem_append.1 hx with h|h;exact ha x h;exact hb x h) (Ss.eqv.flip h)
theorem Or.Q.swap {f:Int→Int} {x y:Int} (hx:0<f x) (hy:0<f y) (h:f x≠f y) (p q:List Int):Or.Q f (p++x::y::q) (p++y::x::q):=by
 have h1:Or.Q f ([x]++[y]) ([y]++[x]):=Or.Q.flip (by simpa using hx) (by simpa using hy) (by simpa using h);exact (Or.Q.refl f p).app (h1.app (Or.Q.refl f q))
theorem zNW (f:Int→Int) (l:List Int):Or.of f (Or.of f l)=Or.of f l:=(zHZ f l).of.symm
theorem zPD (f:Int→Int) (l:List Int) (x:Int):x∈Or.of f l↔x∈l:=(zBN f l).mem x
def Or.inB (f:Int→Int):Int→List Int→Bool
 | _,[]=>true
 | last,c::l=>if 0<f c∧f c<last then false else Or.inB f (f c) l
theorem zDy {f:Int→Int}:∀(a:List Int) (last:Int),(∀x∈a,0<f x)→(Or.inB f last a=true↔(∀x∈a,last≤f x)∧Ss.so f a)
 | [],last,_=>by simp[Or.inB,Ss.so]
 | c::a,last,h=>by
   have hc:=h c Zq;have ih:=zDy a (f c) fun x hx=>h x (Zv _ hx)
   unfold Or.inB Ss.so;rw[Xy]
   by_cases h1:f c<last
   · rw[Zl ⟨hc,h1⟩];simp only[ZL,false_iff,not_and];intro h2;have:=h2 c Zq;omega
   rw[Zj (fun h=>h1 h.2),ih];constructor
   · rintro⟨h2,h3⟩;exact⟨fun x hx=>by rcases List.mem_cons.1 hx with rfl|hx;omega;have:=h2 x hx;omega,h2,h3⟩
   rintro⟨h2,h3,h4⟩;exact⟨h3,h4⟩
theorem zDz {f:Int→Int} {c:Int} (hc:¬0<f c) (m:List Int):∀(a:List Int) (last:Int),Or.inB f last (a++c::m)=(Or.inB f last a&&Or.inB f (f c) m)
 | [],last=>by
   rw[ZH]
   conv=>lhs;unfold Or.inB
   rw[Zj (fun h=>hc h.1)];rfl
 | y::a,last=>by
   have ih:=zDz hc m a (f y);rw[Zo];show (if 0<f y∧f y<last then false else Or.inB f (f y) (a++c::m))=((if 0<f y∧f y<last then false else Or.inB f (f y) a)&&Or.inB f (f c) m);split
   · rfl
   exact ih
theorem Or.R.inB {f:Int→Int} (h0:∀x,0≤f x) {l m:List Int} (h:Or.R f l m):Or.inB f 0 m=true:=by
 induction h with
 | @run a b h1 h2 h3=>exact (zDy b 0 (h3.pos h1)).2 ⟨fun x _=>h0 x,h2⟩
 | @cons a b l m c h1 h2 h3 h4 h5 ih =>
   have aa:f c=0:=by have:=h0 c;omega
   rw[zDz h4,aa,ih,(zDy b 0 (h3.pos h1)).2 ⟨fun x _=>h0 x,h2⟩];rfl
theorem zNX {f:Int→Int} (h0:∀x,0≤f x):∀(n:Nat) (l:List Int),l.length≤n→Or.inB f 0 l=true→Or.R f l l
 | n,l,hn,hi=>by
   rcases Or.cut f l with h|⟨a,c,m,rfl,h1,h2⟩
   · exact .run h ((zDy l 0 h).1 hi).2 (Ss.eqv.refl _ _)
   cases n with
   | zero=>simp at hn
   | succ n =>
     have hm:m.length≤n:=by simp at hn;omega
     have aa:f c=0:=by have:=h0 c;omega
     rw[zDz h2,aa,Zs,zDy a 0 h1]at hi;exact .cons h1 hi.1.2 (Ss.eqv.refl _ _) h2 (zNX h0 n m hm hi.2)
theorem zNY {f:Int→Int} (h0:∀x,0≤f x) (l:List Int):Or.inB f 0 (Or.of f l)=true:=(zBN f l).inB h0
theorem zPE {f:Int→Int} (h0:∀x,0≤f x) (l:List Int):Or.inB f 0 l=true↔Or.of f l=l :=
 ⟨fun h=>(zNX h0 _ l (Za _) h).unique (zBN f l),fun h=>h▸zNY h0 l⟩
theorem zLg {f:Int→Int} {c:Int} (hc:¬0<f c) (l m:List Int):Or.of f (l++c::m)=Or.of f l++Or.of f (c::m):=by
 have h1:∀{l r:List Int},Or.R f l r→∀{m s:List Int},Or.R f (c::m) (c::s)→Or.R f (l++c::m) (r++c::s):=by
  intro l r h
  induction h with
  | run h1 h2 h3 =>
    intro m s hs;generalize he:c::m=x at hs;generalize he2:c::s=y at hs;cases hs with
    | run g1 g2 g3=>exact absurd (g1 c (by rw[←he];simp)) hc
    | @cons a' b' l' m'' c' g1 g2 g3 g4 g5 =>
      obtain⟨rfl,rfl,rfl⟩:=Or.split (a:=[]) (fun x hx=>absurd hx List.not_mem_nil) g1 hc g4 (by simpa using he);obtain rfl:=g3.nil;simp at he2;obtain rfl:=he2;exact .cons h1 h2 h3 hc g5
  | cons h1 h2 h3 h4 h5 ih =>
    intro m s hs;rw[Zz,Zz,Zo,Zo];exact .cons h1 h2 h3 h4 (ih hs)
 have h2:Or.R f (c::m) (c::Or.of f m):=.cons (a:=[]) (b:=[]) (fun x hx=>absurd hx Z6) List.Pairwise.nil (Ss.eqv.refl _ _) hc (zBN f m);have e:Or.of f (c::m)=c::Or.of f m:=h2.unique (zBN f _);rw[e];exact (h1 (zBN f l) h2).unique (zBN f _)
theorem zOn {f:Int→Int} {c:Int} (hc:¬0<f c) (m:List Int):Or.of f (c::m)=c::Or.of f m :=
 (Or.R.cons (a:=[]) (b:=[]) (fun x hx=>absurd hx Z6) List.Pairwise.nil (Ss.eqv.refl _ _) hc (zBN f m)).unique (zBN f _)
theorem zS8 (f:Int→Int) (c:Int):Or.of f [c]=[c]:=rfl
end Go.Proofs.YthngjlllojiacaaGreatDoor
