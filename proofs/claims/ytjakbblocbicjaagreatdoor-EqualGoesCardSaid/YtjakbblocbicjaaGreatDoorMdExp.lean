/- Many rows of the call's own at once, each in a block of its own: what an append, a call, a store leaves of them. -/
import Derived.Test.YtjakbblocbicjaaGreatDoorCpFind
set_option maxRecDepth 100000
set_option maxHeartbeats 4000000
set_option linter.unusedVariables false
set_option linter.unusedSimpArgs false
namespace Go.Proofs.YtjakbblocbicjaaGreatDoor
open Go.Proofs.Tryz
open Go.RowKit
structure Fam.Row where
 e:TypeId
 size:Nat
 v:Value
 n:Nat
 xs:List Value
structure Fam {ι:Type} (w:World) (base:Nat) (f:ι→Option Fam.Row):Prop where
 own:∀i r,f i=some r→w.ownsRow base r.e r.size r.v r.n r.xs
 apart:∀i j r q g,i≠j→f i=some r→f j=some q→r.v.ownBlock=some g→q.v.ownBlock≠some g
def Fam.set {ι:Type} [DecidableEq ι] (f:ι→Option Fam.Row) (i:ι) (r:Fam.Row):ι→Option Fam.Row:=fun j=>if j=i then some r else f j
theorem zA5 {ι:Type} [DecidableEq ι] (f:ι→Option Fam.Row) (i:ι) (r:Fam.Row):Fam.set f i r i=some r:=by simp[Fam.set]
theorem zA1 {ι:Type} [DecidableEq ι] (f:ι→Option Fam.Row) {i j:ι} (r:Fam.Row) (h:j≠i):Fam.set f i r j=f j:=by simp[Fam.set,h]
section
variable {ι:Type} {w:World} {base:Nat} {f:ι→Option Fam.Row}
theorem zB6 {e:TypeId} {size n:Nat} {v:Value} {xs:List Value} (h:w.ownsRow base e size v n xs) {g:Nat} (hg:v.ownBlock=some g):base≤g∧g<w.heap.size:=by
 rcases h.2 with ⟨rfl,_⟩|⟨k,cap,aa,rfl,hb,hk,_⟩
 · simp[Value.ownBlock]at hg
 simp only[Value.ownBlock,Zg]at hg;subst hg;exact⟨hb,zDt hk⟩
theorem Fam.mk' (w:World) (base:Nat):Fam w base (fun _:ι=>none):=⟨fun i r h=>(by cases h),fun i j r q g _ h=>(by cases h)⟩
theorem Fam.below (h:Fam w base f) {w':World} (hb:Below w.heap.size w w'):Fam w' base f :=
 ⟨fun i r hi=>zA4 (h.own i r hi) hb (Za _),h.apart⟩
theorem Fam.other (h:Fam w base f) {w':World} {b:Nat} (hg:w.grownBy w' (some b)) (hb:b<base):Fam w' base f :=
 ⟨fun i r hi=>(h.own i r hi).kept hg (by
  cases hv:r.v.ownBlock with
  | none=>exact .inl rfl
  | some g=>exact .inr fun e=>by cases e;have:=(zB6 (h.own i r hi) hv).1;omega),h.apart⟩
theorem Fam.grow [DecidableEq ι] (h:Fam w base f) {w':World} {i:ι} {r:Fam.Row} (hi:f i=some r) (hg:w.grownBy w' r.v.ownBlock) {q:Fam.Row} (hq:w'.ownsRow base q.e q.size q.v q.n q.xs)
 (hl:q.v.ownBlock=r.v.ownBlock∨q.v.ownBlock=some w.heap.size):Fam w' base (Fam.set f i q):=by
 have ae:∀j s g,f j=some s→s.v.ownBlock=some g→g<w.heap.size:=fun j s g hj hs=>(zB6 (h.own j s hj) hs).2
 refine⟨fun j s hj=>?_,fun j k s t g aa hj hk hs ht=>?_⟩
 · by_cases e:j=i
   · subst e;rw[zA5]at hj;cases hj
     exact hq
   rw[zA1 _ _ e]at hj;refine (h.own j s hj).kept hg ?_;cases hv:s.v.ownBlock with
   | none=>exact .inl rfl
   | some g=>exact .inr fun e'=>h.apart j i s r g e hj hi hv e'.symm
 by_cases e1:j=i
 · subst e1;rw[zA5]at hj;cases hj
   rw[zA1 _ _ (Ya aa)]at hk;rcases hl with hl|hl
   · rw[hl]at hs;exact h.apart j k r t g aa hi hk hs ht
   rw[hl]at hs;cases hs
   have:=ae k t _ hk ht;omega
 rw[zA1 _ _ e1]at hj
 by_cases e2:k=i
 · subst e2;rw[zA5]at hk;cases hk
   rcases hl with hl|hl
   · rw[hl]at ht;exact h.apart j k s r g aa hj hi hs ht
   rw[hl]at ht;cases ht
   have:=ae j s _ hj hs;omega
 rw[zA1 _ _ e2]at hk;exact h.apart j k s t g aa hj hk hs ht
theorem Fam.new [DecidableEq ι] (h:Fam w base f) {w':World} (hb:Below w.heap.size w w') (i:ι) {q:Fam.Row} (hq:w'.ownsRow base q.e q.size q.v q.n q.xs) (hl:∀g,q.v.ownBlock=some g→w.heap.size≤g):Fam w' base (Fam.set f i q):=by
 have ae:∀j s g,f j=some s→s.v.ownBlock=some g→g<w.heap.size:=fun j s g hj hs=>(zB6 (h.own j s hj) hs).2
 refine⟨fun j s hj=>?_,fun j k s t g aa hj hk hs ht=>?_⟩
 · by_cases e:j=i
   · subst e;rw[zA5]at hj;cases hj
     exact hq
   rw[zA1 _ _ e]at hj;exact zA4 (h.own j s hj) hb (Za _)
 by_cases e1:j=i
 · subst e1;rw[zA5]at hj;cases hj
   rw[zA1 _ _ (Ya aa)]at hk;have h1:=hl g hs;have h2:=ae k t g hk ht;omega
 rw[zA1 _ _ e1]at hj
 by_cases e2:k=i
 · subst e2;rw[zA5]at hk;cases hk
   have h1:=hl g ht;have h2:=ae j s g hj hs;omega
 rw[zA1 _ _ e2]at hk;exact h.apart j k s t g aa hj hk hs ht
end
theorem zLP {P:Program} (w:World) (t ty:TypeId)
 (base:Nat) (e:TypeId) (i:TypeInfo) (z:Value) (size bytes:Nat) (ht:P.underlying t=some (.slice e)) (hi:P.info? e=some i) (hz:i.zero=some z)
 (ag:i.size=size) (ai:i.bytes=bytes) (aj:z.cells.size=size) (ah:0<size)
 (v:Value) (n:Nat) (xs:List Value) (aa:w.ownsRow base e size v n xs)
 (B:Nat) (A:Option Addr) (m c:Nat) (news:List Value) (hl:news.length=m*size) (hA:Sl w B A news) (h1:∀u∈news,u.oneCell'=true)
 (ak:n+m≤maxLen) (af:(n+m)*bytes≤140737488355328) (ae:base≤w.heap.size) :
 ∃v' w',(Builtin.append_ #[t,t] ty #[v,.slice A m c]).run P w=.ok v' w'∧w'.ownsRow base e size v' (n+m) (xs++news)∧Below base w w'∧w.grownBy w' v.ownBlock∧(v'.ownBlock=v.ownBlock∨v'.ownBlock=some w.heap.size):=by
 rcases A with _|ad
 rotate_left
 · obtain⟨v',w',hr,h2,h3,_,h5⟩:=run_append_own_at (P:=P) w base t ty e i z size bytes ht hi hz ag ai aj ah v n xs aa ad m c news hl (by
    intro j q hq;have hj:j<news.length:=(List.getElem?_eq_some_iff.1 hq).1;obtain⟨b,o,hA,_,hc⟩:=hA (by omega);simp only[Zg]at hA;subst hA;rw[Addr.add_lit,hc j hj,hq]) h1 ak af ae
   refine⟨v',w',hr,h2,?_,h3,h5⟩;refine (Zc _ _).grown h3 ae ?_;intro k hk;exact (aa.lt k hk).1
 have hn:news=[]:=by
  rcases news with _|⟨u,r⟩
  · rfl
  obtain⟨b,o,hA,_⟩:=hA (by simp);cases hA
 subst hn
 have hm:m=0:=by
  rcases YF m with h|h
  · exact h
  have:=Nat.mul_pos h ah;simp at hl;omega
 subst hm;exact⟨v,w,zEt (P:=P) w base t ty e i size ht hi v n xs aa c,by simpa using aa,Below.refl _ _,World.grownBy.refl w _,.inl rfl⟩
theorem zAY {P:Program} {ι:Type} [DecidableEq ι] {o:Oper} {a:Act} {K:Act→World→Prop} {Q:Exit→Act→World→Prop} (w:World) (s x:Operand) (t:TypeId)
 (ho:o.op=.call { callee:=.builtin .append,args := #[s,x],argTypes := #[t,t] })
 {base:Nat} {f:ι→Option Fam.Row} (hF:Fam w base f) (j:ι) (r:Fam.Row) (hj:f j=some r)
 (i:TypeInfo) (z:Value) (bytes:Nat) (ht:P.underlying t=some (.slice r.e)) (hi:P.info? r.e=some i) (hz:i.zero=some z)
 (ae:i.size=r.size) (ag:i.bytes=bytes) (ah:z.cells.size=r.size) (ai:0<r.size) (hs:a.eval s=r.v)
 (B:Nat) (A:Option Addr) (m c:Nat) (news:List Value) (hx:a.eval x=.slice A m c) (hl:news.length=m*r.size) (hA:Sl w B A news) (h1:∀u∈news,u.oneCell'=true)
 (aj:r.n+m≤maxLen) (aa:(r.n+m)*bytes≤140737488355328) (af:base≤w.heap.size)
 (h:∀v' w',Fam w' base (Fam.set f j ⟨r.e,r.size,v',r.n+m,r.xs++news⟩)→Below base w w'→w.grownBy w' r.v.ownBlock→K (a.put o.dst v') w') :
 o.wp P a w K Q:=by
 obtain⟨v',w',hr,h2,h3,h4,h5⟩:=zLP (P:=P) w t o.type base r.e i z r.size bytes ht hi hz ae ag ah ai r.v r.n r.xs (hF.own j r hj) B A m c news hl hA h1 aj aa af;unfold Oper.wp execOp;simp only[ho,resolve,invoke,builtin,YG,Yv,Yw,Xd,ZV,Yr,hs,hx,hr];exact h v' w' (hF.grow hj h4 (q:=⟨r.e,r.size,v',r.n+m,r.xs++news⟩) h2 h5) h3 h4
theorem zDH {P:Program} {ι:Type} [DecidableEq ι] {ops:Array Oper} {rest:List Oper} {o:Oper} {a:Act} {Q:Exit→Act→World→Prop} (w:World) (ak:o.guard=none) (s x:Operand) (t:TypeId)
 (ho:o.op=.call { callee:=.builtin .append,args := #[s,x],argTypes := #[t,t] })
 {base:Nat} {f:ι→Option Fam.Row} (hF:Fam w base f) (j:ι) (r:Fam.Row) (hj:f j=some r)
 (i:TypeInfo) (z:Value) (bytes:Nat) (ht:P.underlying t=some (.slice r.e)) (hi:P.info? r.e=some i) (hz:i.zero=some z)
 (ae:i.size=r.size) (ag:i.bytes=bytes) (ah:z.cells.size=r.size) (ai:0<r.size) (hs:a.eval s=r.v)
 (B:Nat) (A:Option Addr) (m c:Nat) (news:List Value) (hx:a.eval x=.slice A m c) (hl:news.length=m*r.size) (hA:Sl w B A news) (h1:∀u∈news,u.oneCell'=true)
 (aj:r.n+m≤maxLen) (aa:(r.n+m)*bytes≤140737488355328) (af:base≤w.heap.size)
 (h:∀v' w',Fam w' base (Fam.set f j ⟨r.e,r.size,v',r.n+m,r.xs++news⟩)→Below base w w'→w.grownBy w' r.v.ownBlock→wpList P ops Q rest (a.put o.dst v') w') :
 wpList P ops Q (o::rest) a w :=
 Q4 ak fun _ hK=>zAY w s x t ho hF j r hj i z bytes ht hi hz ae ag ah ai hs B A m c news hx hl hA h1 aj aa af fun v' w' h2 h3 h4=>hK _ _ (h v' w' h2 h3 h4)
theorem zBa {w:World} {base:Nat} {e:TypeId} {size n c g:Nat} {xs:List Value} (h:w.ownsRow base e size (.slice (some ⟨g,0,none⟩) n c) n xs) {i:Nat} {u:Value} (hi:xs[i]?=some u):w.cell? ⟨g,i,none⟩=some u:=by
 have aa:=(List.getElem?_eq_some_iff.1 hi).1;obtain⟨b,o,hA,_,hc⟩:=Sl.of_own h (by omega);simp only[Zg,YZ,YQ]at hA;obtain⟨rfl,rfl⟩:=hA;have:=hc i aa;rw[Z1]at this;rw[this,hi]
theorem zAR {w:World} {base aa:Nat} {e:TypeId} {size n:Nat} {v:Value} {xs:List Value} (h:w.ownsRow base e size v n xs) (hb:aa≤base):w.ownsRow aa e size v n xs:=by
 refine⟨h.1,?_⟩;rcases h.2 with hn|⟨g,cap,ae,h1,h2,h3⟩
 · exact .inl hn
 exact .inr ⟨g,cap,ae,h1,by omega,h3⟩
section
variable {ι:Type} {w:World} {base:Nat} {f:ι→Option Fam.Row}
theorem Fam.ne (h:Fam w base f) {i j:ι} (hij:i≠j) {r q:Fam.Row} (hi:f i=some r) (hj:f j=some q) {b:Nat} (hb:q.v.ownBlock=some b):r.v.ownBlock≠some b:=fun e=>h.apart i j r q b hij hi hj e hb
theorem Fam.low (h:Fam w base f) {i:ι} {r:Fam.Row} (hi:f i=some r) {b:Nat} (hb:b<base):r.v.ownBlock≠some b:=fun e=>by have:=(zB6 (h.own i r hi) e).1;omega
theorem Fam.box [DecidableEq ι] (h:Fam w base f) (hb:base≤w.heap.size) (i:ι) (cs:List Value) (e:TypeId) (n size:Nat) (hs:cs.length=n*size) (hn:n≤maxLen):Fam (w.alloc (.cells cs.toArray e)) base (Fam.set f i ⟨e,size,.slice (some ⟨w.heap.size,0,none⟩) n n,n,cs⟩) :=
 h.new ((Below.refl _ _).alloc (Nat.le_refl _) _) i (World.ownsRow_lit w cs.toArray n hb hn (by simpa using hs)) (fun g hg=>by simp only[Value.ownBlock,Option.some.injEq]at hg;omega)
end
theorem zQj {w:World} {base b:Nat} {t:TypeId} {cs:List Value} (h:Rw.At w b t cs) (hb:base≤b) (n size:Nat) (hs:cs.length=n*size) (hn:n≤maxLen):w.ownsRow base t size (.slice (some ⟨b,0,none⟩) n n) n cs :=
 ⟨hs,.inr ⟨b,n,cs.toArray,rfl,hb,h,Nat.le_refl _,hn,by simpa using hs,by rw[List.take_of_length_le (by simp;omega)]⟩⟩
theorem Fam.store {ι:Type} [DecidableEq ι] {w w':World} {base:Nat} {f:ι→Option Fam.Row} (h:Fam w base f) {i:ι} {e:TypeId} {size n b:Nat} {cs cs':List Value} (hi:f i=some ⟨e,size,.slice (some ⟨b,0,none⟩) n n,n,cs⟩) (hg:w.grownBy w' (some b)) (aa:Rw.At w' b e cs') (hs:cs'.length=n*size) (hn:n≤maxLen) :
 Fam w' base (Fam.set f i ⟨e,size,.slice (some ⟨b,0,none⟩) n n,n,cs'⟩) :=
 h.grow hi hg (zQj aa (zB6 (h.own _ _ hi) (g:=b) rfl).1 n size hs hn) (.inl rfl)
theorem zBo {w w':World} {B b:Nat} (hg:w.grownBy w' (some b)) (hB:B≤w.heap.size) (hb:B≤b):Below B w w' :=
 Qw (Zc _ _) hg hB (by intro k hk;simp only[Zg]at hk;omega)
theorem zED {q b:Nat} (h:q<b):some q≠some b:=by simp only[QB,Zg];omega
theorem zRe {w:World} {base:Nat} {e:TypeId} {n c b:Nat} {xs:List Value} (h:w.ownsRow base e 1 (.slice (some ⟨b,0,none⟩) n c) n xs):Sl w w.heap.size (some ⟨b,1,none⟩) (xs.drop 1):=by
 intro hx;rw[ZN]at hx;refine⟨b,1,rfl,(zB6 h (g:=b) rfl).2,fun q hq=>?_⟩;rw[ZN]at hq;rw[Xk];exact (zBa h (Zb (by omega))).trans (Zb (by omega)).symm
theorem own_cap {w:World} {base:Nat} {e:TypeId} {size n c b:Nat} {xs:List Value} (h:w.ownsRow base e size (.slice (some ⟨b,0,none⟩) n c) n xs):n≤c:=by
 rcases h.2 with ⟨hv,_⟩|⟨g,cap,ae,hv,_,_,aa,_⟩
 · cases hv
 simp only[ZZ]at hv;omega
theorem Mp.Is.same {P:Program} {k:TypeId} {w w':World} {b:Nat} {F:Value→Option Value} (h:Mp.Is P k w b F) (hs:w'.heap[b]?=w.heap[b]?):Mp.Is P k w' b F:=by
 obtain⟨es,c,hb,r⟩:=h;exact⟨es,c,hs.trans hb,r⟩
theorem Mp.Is.notcells {P:Program} {k:TypeId} {w:World} {b:Nat} {F:Value→Option Value} (h:Mp.Is P k w b F) {cs:Array Value} {t:TypeId} {z:Nat × Nat}:w.heap[b]?≠some (.cells cs t z):=fun e=>by
 obtain⟨es,c,hb,r⟩:=h;rw[hb]at e;cases e
abbrev zE2:=Nat × Int
def Ud.rowOf (A:Option Addr) (c:Nat) (l:List Int):Fam.Row:=⟨21,1,.slice A l.length c,l.length,Ud.ints l⟩
def zAK (v:Value) (l:List Int):Fam.Row:=⟨21,1,v,l.length,Ud.ints l⟩
def zDi (K:List Rw.Row):List (Int × Int):=K.map fun r=>(r.1,r.2.1)
def zB7 (T M:List Rw.Row):List Int:=M.flatMap fun r=>(Ud.full T r.1).drop 1
def zB8 (M:List Rw.Row):List Int:=M.map (·.1)
def zE3 (T:List Rw.Row) (X:Int→Bool) (M:List Rw.Row):List Rw.Row:=M.filter fun r=>zAo T X r.1
def zAG (T:List Rw.Row) (X:Int→Bool) (M:List Rw.Row):List Int:=(zE3 T X M).map fun r=>r.2.2.getD 1 0
def zBs (T M:List Rw.Row) (c:Int):List Int:=(M.filter fun r=>decide ((Ud.full T r.1).headD 0=c)).map (·.1)
def zKH (T:List Rw.Row) (X:Int→Bool) (M:List Rw.Row) (a b:Int):Option Int:=(zE3 T X M).foldl (fun o r=>if r.2.2.getD 0 0=a∧r.2.2.getD 1 0=b then some r.1 else o) none
structure Ud.Rows (T:List Rw.Row) (X:Int→Bool) (K M:List Rw.Row) (f:zE2→Option Fam.Row) (vT vc vp ve vi vs vm:Value) (ads:List (Option Addr × Nat)) (es:List Ud.At):Prop where
 la:ads.length=K.length
 le:es.length=M.length
 t:f (0,0)=some ⟨155,3,vT,K.length,Rw.fl K ads⟩
 c:f (0,1)=some ⟨206,2,vc,K.length,Pg.fl (zDi K)⟩
 p:f (0,2)=some ⟨206,2,vp,M.length,Pg.fl (zBk 0 M)⟩
 e:f (0,3)=some ⟨126,3,ve,M.length,zBy T X M es⟩
 i:f (0,4)=some (zAK vi (zB7 T M))
 s:f (0,5)=some (zAK vs (zAG T X M))
 m:f (0,6)=some (zAK vm (zB8 M))
 rm:∀(j:Nat) r a,K[j]?=some r→ads[j]?=some a→f (2,(j:Int))=some (Ud.rowOf a.1 a.2 r.2.2)
 em:∀(j:Nat) r a,M[j]?=some r→es[j]?=some a→f (3,(j:Int))=some (Ud.rowOf a.m a.mc r.2.2)∧f (4,(j:Int))=some (Ud.rowOf a.f a.fc (Ud.full T r.1))
def Ud.BegI (T M:List Rw.Row) (f:zE2→Option Fam.Row) (G:Value→Option Value):Prop :=
 ∀c:Int,(zBs T M c=[]∧G (.int .i32 c)=none)∨∃v,G (.int .i32 c)=some v∧f (1,c)=some (zAK v (zBs T M c))
def Ud.JoiI (T:List Rw.Row) (X:Int→Bool) (M:List Rw.Row) (J:Value→Option Value):Prop:=∀a c:Int,J (.agg #[.int .i32 a,.int .i32 c])=(zKH T X M a c).map (Value.int .i32)
def Ud.cells (vT:Value) (XA:Option Addr) (xn xc:Nat) (ve:Value) (mb jb:Nat):List Value:=[vT,.slice XA xn xc,.pointer none,.pointer none,ve,.map (some mb),.map (some jb),.slice none 0 0,.slice none 0 0,.slice none 0 0]
def Ud.Inv (T:List Rw.Row) (X:Int→Bool) (K M:List Rw.Row) (w:World) (base D mb jb:Nat) (XA:Option Addr) (xn xc:Nat) (vc vp vi vs vm:Value):Prop :=
 ∃f vT ve ads es G J,Fam w base f∧Rw.At w D 93 (Ud.cells vT XA xn xc ve mb jb)∧Mp.Is prog 21 w mb G∧Mp.Is prog 188 w jb J∧base≤w.heap.size ∧
  Ud.Rows T X K M f vT vc vp ve vi vs vm ads es∧Ud.BegI T M f G∧Ud.JoiI T X M J
section
variable {T:List Rw.Row} {X:Int→Bool} {K M:List Rw.Row} {f f':zE2→Option Fam.Row} {vT vc vp ve vi vs vm:Value} {ads:List (Option Addr × Nat)} {es:List Ud.At}
theorem zCH {α:Type} {l:List α} {a:α} {j:Nat} {x:α} (h:(l++[a])[j]?=some x):(l[j]?=some x∧j<l.length)∨(j=l.length∧a=x):=by
 rcases Z0 j l.length with hl|hl
 · rw[ZS hl]at h;exact .inl ⟨h,hl⟩
 rw[ZH hl]at h
 have:j-l.length=0:=by
  rcases YF (j-l.length) with h0|h0
  · exact h0
  rw[Ys (by simp;omega)]at h;cases h
 rw[this]at h;exact .inr ⟨by omega,by simpa using h⟩
theorem Ud.Rows.addK (h:Ud.Rows T X K M f vT vc vp ve vi vs vm ads es) {r:Rw.Row} {a:Option Addr × Nat} {ae aa:Value}
 (h0:f' (0,0)=some ⟨155,3,ae,K.length+1,Rw.fl K ads++[.int .i32 r.1,.int .i64 r.2.1,.slice a.1 r.2.2.length a.2]⟩) (h1:f' (0,1)=some ⟨206,2,aa,K.length+1,Pg.fl (zDi K)++[.int .i32 r.1,.int .u16 r.2.1]⟩)
 (h2:f' (2,(K.length:Int))=some (Ud.rowOf a.1 a.2 r.2.2)) (ho:∀ix:zE2,ix.1≤5→ix≠(0,0)→ix≠(0,1)→ix≠(2,(K.length:Int))→f' ix=f ix) :
 Ud.Rows T X (K++[r]) M f' ae aa vp ve vi vs vm (ads++[a]) es:=by
 have same:∀i:Int,2≤i→f' (0,i)=f (0,i):=fun i hi=>ho _ (ZF _) (by intro e;cases e;omega) (by intro e;cases e;omega) (by intro e;cases e)
 refine⟨by simp[h.la],h.le,?_,?_,(same 2 (by decide)).trans h.p,(same 3 (by decide)).trans h.e,(same 4 (by decide)).trans h.i,(same 5 (by decide)).trans h.s,(same 6 (by decide)).trans h.m,fun j q b hj hb=>?_,fun j q b hj hb=>?_⟩
 · rw[h0,Rw.fl_app _ _ r a h.la,Zd];rfl
 · rw[h1];unfold zDi;rw[ZL,Pg.fl_app,Zd];rfl
 · rcases zCH hj with ⟨ag,hl⟩|⟨rfl,rfl⟩
   · rcases zCH hb with ⟨af,_⟩|⟨e,_⟩
     · rw[ho _ (by show (2:Nat)≤5;decide) (by intro e;cases e) (by intro e;cases e) (by intro e;simp only[Yx,Qx]at e;omega)];exact h.rm j q b ag af
     have:=h.la;omega
   rcases zCH hb with ⟨_,hl⟩|⟨_,rfl⟩
   · have:=h.la;omega
   exact h2
 rw[ho _ (by show (3:Nat)≤5;decide) (by intro e;cases e) (by intro e;cases e) (by intro e;cases e),ho _ (by show (4:Nat)≤5;decide) (by intro e;cases e) (by intro e;cases e) (by intro e;cases e)];exact h.em j q b hj hb
theorem Ud.Rows.addM (h:Ud.Rows T X K M f vT vc vp ve vi vs vm ads es) {r:Rw.Row} {a:Ud.At} {aa ah ae af ag:Value}
 (h0:f' (0,2)=some ⟨206,2,aa,M.length+1,Pg.fl (zBk 0 M)++[.int .i32 r.1,.int .u16 ((M.length:Int)+1)]⟩)
 (h1:f' (0,3)=some ⟨126,3,ah,M.length+1,zBy T X M es++[.slice a.m r.2.2.length a.mc,.slice a.f (Ud.full T r.1).length a.fc,.bool (zAo T X r.1)]⟩)
 (h2:f' (0,4)=some (zAK ae (zB7 T M++(Ud.full T r.1).drop 1))) (h3:f' (0,6)=some (zAK ag (zB8 M++[r.1])))
 (h4:f' (0,5)=some (zAK af (zAG T X (M++[r])))) (h5:f' (3,(M.length:Int))=some (Ud.rowOf a.m a.mc r.2.2)) (h6:f' (4,(M.length:Int))=some (Ud.rowOf a.f a.fc (Ud.full T r.1)))
 (ht:f' (0,0)=f (0,0)) (hc:f' (0,1)=f (0,1)) (hr:∀j:Int,f' (2,j)=f (2,j)) (ai:∀j:Int,j≠M.length→f' (3,j)=f (3,j)) (ao:∀j:Int,j≠M.length→f' (4,j)=f (4,j)) :
 Ud.Rows T X K (M++[r]) f' vT vc aa ah ae af ag ads (es++[a]):=by
 refine⟨h.la,by simp[h.le],ht.trans h.t,hc.trans h.c,?_,?_,?_,h4,?_,fun j q b hj hb=>(hr _).trans (h.rm j q b hj hb),fun j q b hj hb=>?_⟩
 · rw[h0,zOY,Pg.fl_app,Zd,Z1];rfl
 · rw[h1,zJV T X M es r a h.le,Zd];rfl
 · rw[h2];unfold zB7;rw[YK];simp
 · rw[h3];unfold zB8;rw[ZL];rfl
 rcases zCH hj with ⟨ak,hl⟩|⟨rfl,rfl⟩
 · rcases zCH hb with ⟨aj,_⟩|⟨e,_⟩
   · rw[ai _ (by omega),ao _ (by omega)];exact h.em j q b ak aj
   have:=h.le;omega
 rcases zCH hb with ⟨_,hl⟩|⟨_,rfl⟩
 · have:=h.le;omega
 exact⟨h5,h6⟩
theorem Ud.BegI.keep {G:Value→Option Value} (h:Ud.BegI T M f G) (ho:∀c:Int,f' (1,c)=f (1,c)):Ud.BegI T M f' G:=by
 intro c;rw[ho c];exact h c
theorem zNi (r:Rw.Row) (c:Int):zBs T (M++[r]) c=if (Ud.full T r.1).headD 0=c then zBs T M c++[r.1] else zBs T M c:=by
 unfold zBs;rw[Yk,ZL]
 by_cases hc:(Ud.full T r.1).headD 0=c
 · rw[Zm hc,Yt,Zm (Zp hc)];rfl
 rw[if_neg hc,List.filter_cons,if_neg (by simpa using hc)];simp
theorem Ud.BegI.add {G G':Value→Option Value} (h:Ud.BegI T M f G) {r:Rw.Row} {v:Value} (hG:G' (.int .i32 ((Ud.full T r.1).headD 0))=some v) (aa:∀y,y≠.int .i32 ((Ud.full T r.1).headD 0)→G' y=G y)
 (hv:f' (1,(Ud.full T r.1).headD 0)=some (zAK v (zBs T M ((Ud.full T r.1).headD 0)++[r.1]))) (ho:∀c:Int,c≠(Ud.full T r.1).headD 0→f' (1,c)=f (1,c)):Ud.BegI T (M++[r]) f' G':=by
 intro c;rw[zNi]
 by_cases hc:(Ud.full T r.1).headD 0=c
 · subst hc;rw[Zm rfl];exact .inr ⟨v,hG,hv⟩
 rw[Zk hc,aa _ (by intro e;cases e;exact hc rfl),ho c (Ya hc)];exact h c
theorem zFP (r:Rw.Row):zE3 T X (M++[r])=if zAo T X r.1=true then zE3 T X M++[r] else zE3 T X M:=by
 unfold zE3;rw[Yk,Yt];cases zAo T X r.1 <;> simp
theorem zIx (r:Rw.Row):zAG T X (M++[r])=if zAo T X r.1=true then zAG T X M++[r.2.2.getD 1 0] else zAG T X M:=by
 unfold zAG;rw[zFP];cases zAo T X r.1 <;> simp
theorem Ud.JoiI.no {J:Value→Option Value} (h:Ud.JoiI T X M J) {r:Rw.Row} (hp:zAo T X r.1=false):Ud.JoiI T X (M++[r]) J:=by
 intro a c;unfold zKH;rw[zFP,Zk (by rw[hp];simp)];exact h a c
theorem Ud.JoiI.add {J J':Value→Option Value} (h:Ud.JoiI T X M J) {r:Rw.Row} (hp:zAo T X r.1=true) (hJ:J' (.agg #[.int .i32 (r.2.2.getD 0 0),.int .i32 (r.2.2.getD 1 0)])=some (.int .i32 r.1))
 (aa:∀y,y≠.agg #[.int .i32 (r.2.2.getD 0 0),.int .i32 (r.2.2.getD 1 0)]→J' y=J y):Ud.JoiI T X (M++[r]) J':=by
 intro a c;unfold zKH;rw[zFP,Zm hp,Y6,YD,Jp]
 by_cases hc:r.2.2.getD 0 0=a∧r.2.2.getD 1 0=c
 · rw[Zm hc];obtain⟨rfl,rfl⟩:=hc;exact hJ
 rw[Zk hc,aa _ (by intro e;simp only[XF,Qc,Yd,Value.int.injEq,Qx,YQ]at e;exact hc ⟨e.1.symm,e.2.symm⟩)];exact h a c
end
theorem zFf {T:List Rw.Row} (h:∀c,(Ud.full T c).length≤32):∀M:List Rw.Row,(zB7 T M).length≤31*M.length
 | []=>by simp[zB7]
 | r::M=>by
   have h1:=zFf h M;have h2:=h r.1;unfold zB7 at h1 ⊢;rw[Y7,Zd,ZN,ZB];omega
theorem zJX {T:List Rw.Row} (c:Int):(Ud.full T c).length≤32:=by
 unfold Ud.full;cases h:Md.full T c with
 | none=>simp
 | some l=>exact (zCq h).2.2.1
theorem zFQ (f:List Int→Int→Option (List Int)):∀(a b out:List Int),zBF f out (a++b)=(zBF f out a).bind fun o=>zBF f o b
 | [],b,out=>rfl
 | d::r,b,out=>by
   rw[Zx,zBF,zBF];cases f out d with
   | none=>rfl
   | some o=>exact zFQ f r b o
theorem zHl {f:List Int→Int→Option (List Int)} {L out o:List Int} {k:Nat} {x:Int} (hx:L[k]?=some x) (h:zBF f out (L.take k)=some o):zBF f out (L.take (k+1))=f o x:=by
 rw[ZA,hx,zFQ,h,ZC];show (f o x).bind (fun o=>zBF f o [])=f o x;cases f o x <;> rfl
theorem zLQ {f:List Int→Int→Option (List Int)} {L out o:List Int} {k:Nat} {x:Int} (hx:L[k]?=some x) (h:zBF f out (L.take k)=some o) (hn:f o x=none):zBF f out L=none:=by
 have h1:=zHl hx h;rw[hn]at h1;rw[←ZI (k+1) L,zFQ,h1];rfl
theorem zLR {mp:Int→List Int} {k:Nat} {out l:List Int} {c:Int} (ho:out.length≤32) (h:zBR mp k out c=some l):l.length≤32:=by
 rw[zBx mp k out c ho]at h;cases hl:Md.lv mp k c with
 | none=>rw[hl]at h;cases h
 | some a =>
   rw[hl,ZC]at h;unfold Md.fit at h;split at h
   · cases h;simpa using ‹_›
   cases h
theorem zNj {mp:Int→List Int} (k:Nat) {out:List Int} {c:Int} (h:mp c=[]):zBR mp k out c=zEy out c:=by
 cases k with
 | zero=>rw[zBR,Zm h]
 | succ k=>rw[zBR,Zm h]
theorem zP9 {w w':World} {base:Nat} {e:TypeId} {size n:Nat} {v:Value} {xs:List Value} {row:Option Nat} (h:w.ownsRow base e size v n xs) (hg:w.grownBy w' row) (hr:∀k,row=some k→k<base):w'.ownsRow base e size v n xs:=by
 refine h.kept hg ?_;cases hv:v.ownBlock with
 | none=>exact .inl rfl
 | some g =>
   refine .inr fun e'=>?_
   have h1:=hr g e'.symm;have h2:=(h.lt g hv).1;omega
def zQk (W0:World) (w:World) (vo:Value) (o:Option (List Int)) (e:Ending) (w':World):Prop :=
 ∃A n c,e=.returned (.tuple #[.slice A n c,.bool o.isSome])∧(∀l,o=some l→w'.ownsRow W0.heap.size 21 1 (.slice A n c) l.length (l.map (Value.int .i32))∧∀g,(Value.slice A n c).ownBlock=some g→vo.ownBlock=some g∨w.heap.size≤g)∧w.grownBy w' vo.ownBlock
def zKI (T:List Rw.Row) (W0:World) (v:Value) (k:Nat):Prop :=
 ∀(l:List Int) (vo:Value) (c:Int) (deep:Nat) (w:World),deep+k=T.length+3 → -2147483648≤c→c≤2147483647→l.length≤32→Below W0.heap.size W0 w→w.ownsRow W0.heap.size 21 1 vo l.length (l.map (Value.int .i32)) →
  Calls prog 158 #[v,vo,.int .i32 c,.int .i64 deep] w (zQk W0 w vo (zBR (Md.mp T) k l c))
theorem zIy (T:List Rw.Row) (S:List Int) (W0:World) (v:Value) (ok:Md.Ok T) (h0:Md.Is W0 v T S) (k:Nat) (IH:∀k',k=k'+1→zKI T W0 v k'):zKI T W0 v k:=by
 intro l vo c deep w hd h3 h4 hl bx ar;obtain⟨j0,hj0,di,dk,dm⟩:=Z2 zBL;have hv:=h0;obtain⟨A,cc,XA,xc,rfl,h2,hX⟩:=hv;obtain⟨xn,hxn⟩:∃k,S.length=k:=⟨_,rfl⟩;obtain⟨n,hn⟩:∃k,T.length=k:=⟨_,rfl⟩;have hnb:n≤1000000:=by rw[←hn];exact ok.1
 rw[hn]at hd;have df:=hy' hn;rw[hn,hxn]at h0 IH ⊢;obtain⟨AO,co,rfl⟩:=zA3 ar;have cf:Below w.heap.size w (w.alloc (.cells #[.slice A n cc,.slice XA xn xc] 87)):=(Zc _ _).alloc (Za _) _;have bz:Rw.At (w.alloc (.cells #[.slice A n cc,.slice XA xn xc] 87)) w.heap.size 87 [.slice A n cc,.slice XA xn xc]:=Rw.At.new w 87 [.slice A n cc,.slice XA xn xc];have cx:=bx.trans (cf.mono bx.size);have hM:=zP3 _ T S c _ ok (h0.below cx) h3 h4;have hmb:=zI2 ok.2.2.1 c
 have cy:(Md.mp T c).length≤1000000:=by
  unfold Md.mp zAV;split
  · simp
  cases hf:Md.find T c with
  | none=>simp
  | some r=>exact ok.2.2.2 r (zAq hf).1
 have z0:=bz.cell 0 rfl;have z1:=bz.cell 1 rfl;have bo:=bz;obtain⟨m,hm⟩:∃m,Md.mp T c=m:=⟨_,rfl⟩;rw[hm]at hmb hM cy;obtain⟨f,hf⟩:∃f,zBR (Md.mp T) k l c=f:=⟨_,rfl⟩;rw[hf];have HM:=hy' hm;have HF:=hy' hf;have dp:=hy' hmb;have b6:=hy' IH;have cn:=hy' ar;have cu:=hy' cf;have b4:=hy' bx;have cz:∀g,(Value.slice AO l.length co).ownBlock=some g→W0.heap.size≤g∧g<w.heap.size:=fun g hg=>ar.lt g hg
 have b1:=hy' cz;have b9:=hy' bo;unfold Md.RetOwn at hM;clear h0 h2 hX hn hxn cf bz bo ok hm hf hmb IH ar cx bx cz;unfold zAX at *;go_enter func158,ntmps158;go_wp2_with fail;refine hM.mono ?_;rintro e w1 ⟨A1,c1,rfl,ay,b5⟩;have bw:=cu.o.trans (b5.mono cu.o.size);have dt:w.heap.size<w1.heap.size:=Zf (by simp) b5.size;have bh:=b9.o.below b5;have ax:=zA4 cn.o bw (Za _);have ct:=(Rw.grown_below bw).but (Value.slice AO l.length co).ownBlock;have cp:=b4.o.trans (bw.mono b4.o.size);have ch:=cp.size;have ba:=hy' bh;have av:=hy' ax;have bq:=hy' ct;have dy:=hy' cp;have c7:=hy' ay;have dx:(l.map (Value.int .i32)).length=l.length:=Ze _;clear bw bh ax ct cp ay b5 hM z0 z1;rcases m with _|⟨m0,mr⟩
 · have ak:f=zEy l c:=by rw[←HF.o];exact zNj k HM.o
   have aw:f.isSome=decide ((l.length:Int)<32):=by
    rw[ak];unfold zEy
    by_cases h:l.length<32
    · rw[Zm h,Zp (by omega)];rfl
    rw[Zk h,Zq (by omega)];rfl
   have bt:=hy' ak;have bl:=hy' aw;have du:(w1.alloc (.cells #[.int .i32 c] 21)).heap.size=w1.heap.size+1:=by simp
   clear ak aw b6;go_wp2_with (at_builtin;refine wpList_append_lies _ rfl _ _ 35 rfl W0.heap.size 21 j0 _ 1 4 underlying35 hj0 di dk dm rfl (by omega) _ l.length (l.map (Value.int .i32)) rfl (av.o.alloc _) ⟨w1.heap.size,0,none⟩ 1 1 [.int .i32 c] rfl rfl (cell_one_new _ _ _) (by intro u hu;simp only[List.mem_singleton]at hu;subst hu;rfl) (by omega) (by unfold maxLen;omega) (by omega) (by omega) _ rfl ?_;intro g cap w2 az bg aa cm);have bn:=hy' az;have ae:=hy' aa;have dr:=hy' (bq.o.andThen ((Yl w1 (.cells #[.int .i32 c] 21) (Value.slice AO l.length co).ownBlock).trans bg) fun j hj=>.inr hj);clear az bg aa;go_wp2_with fail;go_ret2;refine⟨some ⟨g,0,none⟩,l.length+1,cap,?_,fun l' af=>?_,dr.o⟩
   · rw[bl.o];rfl
   have br:l.length<32∧l'=l++[c]:=by
    rw[bt.o]at af;unfold zEy at af;split at af
    · cases af;exact⟨‹_›,rfl⟩
    cases af
   obtain⟨_,rfl⟩:=br;refine⟨?_,fun g' cq=>?_⟩
   · have:=bn.o;rw[Zd,ZL];exact this
   simp only[Value.ownBlock,Zg]at cq;subst cq;rcases ae.o with h|h
   · exact .inl h
   exact .inr (by omega)
 have hne:Md.mp T c≠[]:=by rw[HM.o];exact fun e=>by cases e
 have q1:((mr.length:Int)+1 == 0)=false:=by simp;omega
 have bi:(m0::mr).length=mr.length+1:=rfl;rcases k with _|k
 · have au:f=none:=by rw[←HF.o,zBR,Zk hne]
   have bj:=hy' au;have bp:(n:Int)+2<deep:=by omega
   have bk:=ba.o;have z2:=bk.cell 0 rfl;clear au b6 bk hne;go_wp2_with fail;go_ret2;refine⟨AO,l.length,co,?_,fun l' af=>?_,bq.o⟩
   · rw[bj.o];rfl
   rw[bj.o]at af;cases af
 have au:f=zBF (zBR (Md.mp T) k) l (m0::mr):=by rw[←HF.o,zBR,Zk hne,HM.o]
 have bj:=hy' au;have bp:¬(n:Int)+2<deep:=by omega
 have cw:zKI T W0 (.agg #[.slice A n cc,.slice XA xn xc]) k:=b6.o k rfl;have HI:=hy' cw;have bk:=ba.o;have z2:=bk.cell 0 rfl;obtain⟨q,hq⟩:∃q,(m0::mr).length=q:=⟨_,rfl⟩;have ai:=c7.o;rw[hq]at ai ⊢;have q2:((q:Int) == 0)=false:=by rw[←hq];simp;omega
 rw[hq]at cy;have HQ:=hy' hq;have ck:=hy' ai;have bs:(Value.slice AO l.length co).ownBlock≠some w.heap.size:=fun e=>by have:=(b1.o _ e).2;omega
 have bb:=hy' bs;obtain⟨vb,cb⟩:∃vb,(Value.slice AO l.length co).ownBlock=vb:=⟨_,rfl⟩;rw[cb]at bq bb b1;have b3:=hy' cb;clear au b6 bk hne cw hq ai c7 q1 bi bs cb;go_wp2_with fail;go_loopw [1,11,13,36] (fun v1 v11 _ i wr=>∃(t:Nat) (A2:Option Addr) (c2:Nat) (ls:List Int),t≤q∧i=.int .i64 t∧v1=.slice A2 ls.length c2∧v11=.bool true∧zBF (zBR (Md.mp T) k) l ((m0::mr).take t)=some ls∧ls.length≤32∧wr.ownsRow W0.heap.size 21 1 (.slice A2 ls.length c2) ls.length (ls.map (Value.int .i32))∧(∀g,(Value.slice A2 ls.length c2).ownBlock=some g→vb=some g∨w1.heap.size≤g)∧w1.grownBy wr vb) (fun _ _ _ i _=>q-(intOf i).toNat)
 case atStart=>exact⟨0,AO,co,l,ZF _,rfl,rfl,rfl,rfl,hl,av.o,fun g hg=>.inl (by rw[←b3.o];exact hg),(Rw.grown_below (Zc _ _)).but _⟩
 obtain⟨t,A2,c2,ls,ht,rfl,rfl,rfl,a6,cr,ag,aa,a1⟩:=hrel;have aq:=ba.o.grown a1 bb.o;have cj:=zP9 ck.o a1 (fun g hg=>by have:=(b1.o g hg).2;simp;omega);have cd:=Sl.of_own cj;have b2:=bq.o.andThen a1 fun j hj=>.inr hj
 have b8:Below W0.heap.size W0 wr:=b4.o.trans (zAf b2 b4.o.size fun g hg=>(b1.o g hg).1);have y0:=aq.cell 0 rfl;have y1:=aq.cell 1 rfl;have dn:=a1.size;have a8:=hy' a6;have bf:=hy' ag;have ae:=hy' aa;have dh:=hy' a1;have dc:=hy' b2
 by_cases cm:t<q
 · obtain⟨x,hx⟩:∃x,(m0::mr)[t]?=some x:=⟨_,Zb (by rw[HQ.o];exact cm)⟩;have hxb:=dp.o x (Zj hx);obtain⟨ab,ao,rfl,dw,c8⟩:=cd (by rw[Ze,HQ.o];omega);have hc:=c8 t (by rw[Ze,HQ.o];exact cm);rw[Zo,hx,Zz]at hc;have ah:=HI.o ls _ x (deep+1) wr (by rw[df.o];omega) hxb.1 hxb.2 cr b8 ag;rw[show ((deep+1:Nat):Int)=(deep:Int)+1 by omega]at ah;obtain⟨o,ho⟩:∃o,zBR (Md.mp T) k ls x=o:=⟨_,rfl⟩;rw[ho]at ah;have HX:=hy' hx;have HO:=hy' ho;have tI:(t:Int)<q:=by omega
   clear a6 ag aa a1 b2 b8 aq cj cd c8 hx ho;go_wp2_with fail;refine ah.mono ?_;rintro e w2 ⟨A3,n3,c3,rfl,bc,cv⟩
   have c6:=dh.o.andThen cv fun j hj=>by
    rcases ae.o j hj with h|h
    · exact .inr h
    exact .inl h
   have cg:=hy' c6;have b7:=hy' bc;clear cv c6 bc ah;rcases o with _|l3
   · have au:f=none:=by rw[bj.o];exact zLQ HX.o a8.o HO.o
     have bm:=hy' au;clear au;go_wp2_with fail;go_ret2;refine⟨A3,n3,c3,?_,fun l' af=>?_,?_⟩
     · rw[bm.o];rfl
     · rw[bm.o]at af;cases af
     rw[b3.o];exact bq.o.andThen cg.o fun j hj=>.inr hj
   obtain⟨ap,aj⟩:=b7.o l3 rfl;obtain⟨A4,c4,h4⟩:=zA3 ap
   injection h4 with h4a h4b h4c
   subst h4a h4b h4c;have bu:=hy' ap;have a7:=hy' aj;have dl:=zLR cr HO.o;have dv:=cg.o.size;clear ap aj;go_wp2_with fail;refine⟨⟨t+1,A3,c3,l3,by omega,by go_num,rfl,rfl,?_,dl,bu.o,fun g hg=>?_,cg.o⟩,by simp[intOf];omega⟩
   · rw[zHl HX.o a8.o,HO.o]
   rcases a7.o g hg with h|h
   · exact ae.o g h
   exact .inr (Zh dn h)
 obtain rfl:t=q:=by omega
 have tI:¬(t:Int)<t:=by omega
 clear a6 ag aa a1 b2 b8 aq cj cd;go_wp2_with fail;go_ret2
 have hf:f=some ls:=by
  have:=a8.o;rw[Zi (by rw[HQ.o];exact Za _)]at this;rw[bj.o,this]
 refine⟨A2,ls.length,c2,?_,fun l' af=>?_,?_⟩
 · rw[hf];rfl
 · rw[hf]at af;cases af
   refine⟨bf.o,fun g hg=>?_⟩;rw[b3.o];rcases ae.o g hg with h|h
   · exact .inl h
   exact .inr (by omega)
 rw[b3.o];exact dc.o
theorem zGU (T:List Rw.Row) (S:List Int) (W0:World) (v:Value) (ok:Md.Ok T) (h0:Md.Is W0 v T S):∀k,zKI T W0 v k
 | 0=>zIy T S W0 v ok h0 0 fun k' h=>absurd h (by omega)
 | k+1=>zIy T S W0 v ok h0 (k+1) fun k' h=>by
   obtain rfl:k=k':=by omega
   exact zGU T S W0 v ok h0 k
theorem Md.full_any (v:Value) (T:List Rw.Row) (S:List Int) (d:Int) (w:World) (ok:Md.Ok T) (h:Md.Is w v T S) (h3 : -2147483648≤d) (h4:d≤2147483647) :
 Calls prog 129 #[v,.int .i32 d] w (Md.RetOwn ((Md.full T d).getD []) w):=by
 have hv:=h;obtain⟨A,c,XA,xc,rfl,h2,hX⟩:=hv;obtain⟨xn,hxn⟩:∃k,S.length=k:=⟨_,rfl⟩;obtain⟨n,hn⟩:∃k,T.length=k:=⟨_,rfl⟩;rw[hn,hxn]at h ⊢;have ah:Below w.heap.size w (w.alloc (.cells #[.slice A n c,.slice XA xn xc] 87)):=(Zc _ _).alloc (Za _) _;have af:Rw.At (w.alloc (.cells #[.slice A n c,.slice XA xn xc] 87)) w.heap.size 87 [.slice A n c,.slice XA xn xc]:=Rw.At.new w 87 [.slice A n c,.slice XA xn xc];have hE:=zGU T S _ _ ok (h.below ah) (T.length+3) [] (.slice none 0 0) d 0 _ (by omega) h3 h4 (by simp) (Zc _ _) (ZE _ _ _ _);have ag:zBR (Md.mp T) (T.length+3) [] d=Md.full T d:=rfl;rw[ag]at hE;obtain⟨o,ho⟩:∃o,Md.full T d=o:=⟨_,rfl⟩;rw[ho]at hE ⊢;have hole:∀l,o=some l→l.length≤32:=fun l hl=>zLR (by simp) (ag.trans (ho.trans hl))
 have z0:=af.cell 0 rfl;have z1:=af.cell 1 rfl;have HB:=hy' ah;have ao:=hy' hole;clear h h2 hX hn hxn ah af ok ag ho hole;unfold zAX at hE ⊢;go_enter func129,ntmps129;go_wp2_with fail;refine hE.mono ?_;rintro e w1 ⟨A1,n1,c1,rfl,ae,hg⟩;have aj:=hy' (HB.o.trans (zAf hg HB.o.size fun k hk=>by cases hk));have ai:=hy' ae;clear ae hg hE z0 z1;rcases o with _|l
 · go_wp2_with fail;go_ret;exact⟨none,0,rfl,ZE _ _ _ _,aj.o⟩
 obtain⟨aa,_⟩:=ai.o l rfl;obtain⟨A4,c4,ak⟩:=zA3 aa
 injection ak with h4a h4b h4c
 subst h4a h4b h4c;have HO:=hy' (own_base aa (by simp:w.heap.size≤(w.alloc (.cells #[.slice A n c,.slice XA xn xc] 87)).heap.size));clear aa;go_wp2_with fail;go_ret;exact⟨A1,c1,rfl,HO.o,aj.o⟩
end Go.Proofs.YtjakbblocbicjaaGreatDoor
