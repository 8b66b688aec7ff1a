/- Many rows of the call's own at once, each in a block of its own: what an append, a call, a store leaves of them. -/
import Derived.Test.YtdbpjmfflofadaaGreatDoorCpFind
set_option maxRecDepth 100000
set_option maxHeartbeats 4000000
set_option linter.unusedVariables false
set_option linter.unusedSimpArgs false
namespace Go.Proofs.YtdbpjmfflofadaaGreatDoor
open Go.Proofs.Tryz
section
open Go.RowKit
structure Fam.Row where
 e:TypeId
 size:Nat
 v:Value
 n:Nat
 xs:List Value
structure Fam {ι:Type} (w:World) (base:Nat) (f:ι→Option Fam.Row):Prop where
 own:∀i r,f i=some r→w.ownsRow base r.e r.size r.v r.n r.xs
 apart:∀i j r q g,i≠j→f i=some r→f j=some q→r.v.ownBlock=some g→q.v.ownBlock≠some g
def Fam.set {ι:Type} [DecidableEq ι] (f:ι→Option Fam.Row) (i:ι) (r:Fam.Row):ι→Option Fam.Row:=fun j=>if j=i then some r else f j
theorem zA8 {ι:Type} [DecidableEq ι] (f:ι→Option Fam.Row) (i:ι) (r:Fam.Row):Fam.set f i r i=some r:=by simp[Fam.set]
theorem zA1 {ι:Type} [DecidableEq ι] (f:ι→Option Fam.Row) {i j:ι} (r:Fam.Row) (h:j≠i):Fam.set f i r j=f j:=by simp[Fam.set,h]
section
variable {ι:Type} {w:World} {base:Nat} {f:ι→Option Fam.Row}
theorem own_at {e:TypeId} {size n:Nat} {v:Value} {xs:List Value} (h:w.ownsRow base e size v n xs) {g:Nat} (hg:v.ownBlock=some g):base≤g∧g<w.heap.size:=by
 rcases h.2 with ⟨rfl,_⟩|⟨k,cap,aa,rfl,hb,hk,_⟩
 · simp[Value.ownBlock]at hg
 simp only[Value.ownBlock,Zg]at hg;subst hg;exact⟨hb,zCF hk⟩
theorem Fam.mk' (w:World) (base:Nat):Fam w base (fun _:ι=>none):=⟨fun i r h=>(by cases h),fun i j r q g _ h=>(by cases h)⟩
theorem Fam.below (h:Fam w base f) {w':World} (hb:Below w.heap.size w w'):Fam w' base f :=
 ⟨fun i r hi=>zA6 (h.own i r hi) hb (Za _),h.apart⟩
theorem Fam.other (h:Fam w base f) {w':World} {b:Nat} (hg:w.grownBy w' (some b)) (hb:b<base):Fam w' base f :=
 ⟨fun i r hi=>(h.own i r hi).kept hg (by
  cases hv:r.v.ownBlock with
  | none=>exact .inl rfl
  | some g=>exact .inr fun e=>by cases e;have:=(own_at (h.own i r hi) hv).1;omega),h.apart⟩
theorem Fam.grow [DecidableEq ι] (h:Fam w base f) {w':World} {i:ι} {r:Fam.Row} (hi:f i=some r) (hg:w.grownBy w' r.v.ownBlock) {q:Fam.Row} (hq:w'.ownsRow base q.e q.size q.v q.n q.xs)
 (hl:q.v.ownBlock=r.v.ownBlock∨q.v.ownBlock=some w.heap.size):Fam w' base (Fam.set f i q):=by
 have ae:∀j s g,f j=some s→s.v.ownBlock=some g→g<w.heap.size:=fun j s g hj hs=>(own_at (h.own j s hj) hs).2
 refine⟨fun j s hj=>?_,fun j k s t g aa hj hk hs ht=>?_⟩
 · by_cases e:j=i
   · subst e;rw[zA8]at hj;cases hj
     exact hq
   rw[zA1 _ _ e]at hj;refine (h.own j s hj).kept hg ?_;cases hv:s.v.ownBlock with
   | none=>exact .inl rfl
   | some g=>exact .inr fun e'=>h.apart j i s r g e hj hi hv e'.symm
 by_cases e1:j=i
 · subst e1;rw[zA8]at hj;cases hj
   rw[zA1 _ _ (Yc aa)]at hk;rcases hl with hl|hl
   · rw[hl]at hs;exact h.apart j k r t g aa hi hk hs ht
   rw[hl]at hs;cases hs
   have:=ae k t _ hk ht;omega
 rw[zA1 _ _ e1]at hj
 by_cases e2:k=i
 · subst e2;rw[zA8]at hk;cases hk
   rcases hl with hl|hl
   · rw[hl]at ht;exact h.apart j k s r g aa hj hi hs ht
   rw[hl]at ht;cases ht
   have:=ae j s _ hj hs;omega
 rw[zA1 _ _ e2]at hk;exact h.apart j k s t g aa hj hk hs ht
theorem Fam.new [DecidableEq ι] (h:Fam w base f) {w':World} (hb:Below w.heap.size w w') (i:ι) {q:Fam.Row} (hq:w'.ownsRow base q.e q.size q.v q.n q.xs) (hl:∀g,q.v.ownBlock=some g→w.heap.size≤g):Fam w' base (Fam.set f i q):=by
 have ae:∀j s g,f j=some s→s.v.ownBlock=some g→g<w.heap.size:=fun j s g hj hs=>(own_at (h.own j s hj) hs).2
 refine⟨fun j s hj=>?_,fun j k s t g aa hj hk hs ht=>?_⟩
 · by_cases e:j=i
   · subst e;rw[zA8]at hj;cases hj
     exact hq
   rw[zA1 _ _ e]at hj;exact zA6 (h.own j s hj) hb (Za _)
 by_cases e1:j=i
 · subst e1;rw[zA8]at hj;cases hj
   rw[zA1 _ _ (Yc aa)]at hk;have h1:=hl g hs;have h2:=ae k t g hk ht;omega
 rw[zA1 _ _ e1]at hj
 by_cases e2:k=i
 · subst e2;rw[zA8]at hk;cases hk
   have h1:=hl g ht;have h2:=ae j s g hj hs;omega
 rw[zA1 _ _ e2]at hk;exact h.apart j k s t g aa hj hk hs ht
end
theorem zMl {P:Program} (w:World) (t ty:TypeId)
 (base:Nat) (e:TypeId) (i:TypeInfo) (z:Value) (size bytes:Nat) (ht:P.underlying t=some (.slice e)) (hi:P.info? e=some i) (hz:i.zero=some z)
 (ag:i.size=size) (ak:i.bytes=bytes) (ai:z.cells.size=size) (ah:0<size)
 (v:Value) (n:Nat) (xs:List Value) (aa:w.ownsRow base e size v n xs)
 (B:Nat) (A:Option Addr) (m c:Nat) (news:List Value) (hl:news.length=m*size) (hA:Sl w B A news) (h1:∀u∈news,u.oneCell'=true)
 (aj:n+m≤maxLen) (af:(n+m)*bytes≤140737488355328) (ae:base≤w.heap.size) :
 ∃v' w',(Builtin.append_ #[t,t] ty #[v,.slice A m c]).run P w=.ok v' w'∧w'.ownsRow base e size v' (n+m) (xs++news)∧Below base w w'∧w.grownBy w' v.ownBlock∧(v'.ownBlock=v.ownBlock∨v'.ownBlock=some w.heap.size):=by
 rcases A with _|ad
 rotate_left
 · obtain⟨v',w',hr,h2,h3,_,h5⟩:=run_append_own_at (P:=P) w base t ty e i z size bytes ht hi hz ag ak ai ah v n xs aa ad m c news hl (by
    intro j q hq;have hj:j<news.length:=(List.getElem?_eq_some_iff.1 hq).1;obtain⟨b,o,hA,_,hc⟩:=hA (by omega);simp only[Zg]at hA;subst hA;rw[Addr.add_lit,hc j hj,hq]) h1 aj af ae
   refine⟨v',w',hr,h2,?_,h3,h5⟩;refine (Zd _ _).grown h3 ae ?_;intro k hk;exact (aa.lt k hk).1
 have hn:news=[]:=by
  rcases news with _|⟨u,r⟩
  · rfl
  obtain⟨b,o,hA,_⟩:=hA (by simp);cases hA
 subst hn
 have hm:m=0:=by
  rcases YM m with h|h
  · exact h
  have:=Nat.mul_pos h ah;simp at hl;omega
 subst hm;exact⟨v,w,zEL (P:=P) w base t ty e i size ht hi v n xs aa c,by simpa using aa,Below.refl _ _,World.grownBy.refl w _,.inl rfl⟩
theorem zAZ {P:Program} {ι:Type} [DecidableEq ι] {o:Oper} {a:Act} {K:Act→World→Prop} {Q:Exit→Act→World→Prop} (w:World) (s x:Operand) (t:TypeId)
 (ho:o.op=.call { callee:=.builtin .append,args := #[s,x],argTypes := #[t,t] })
 {base:Nat} {f:ι→Option Fam.Row} (hF:Fam w base f) (j:ι) (r:Fam.Row) (hj:f j=some r)
 (i:TypeInfo) (z:Value) (bytes:Nat) (ht:P.underlying t=some (.slice r.e)) (hi:P.info? r.e=some i) (hz:i.zero=some z)
 (af:i.size=r.size) (ai:i.bytes=bytes) (ag:z.cells.size=r.size) (aj:0<r.size) (hs:a.eval s=r.v)
 (B:Nat) (A:Option Addr) (m c:Nat) (news:List Value) (hx:a.eval x=.slice A m c) (hl:news.length=m*r.size) (hA:Sl w B A news) (h1:∀u∈news,u.oneCell'=true)
 (ah:r.n+m≤maxLen) (aa:(r.n+m)*bytes≤140737488355328) (ae:base≤w.heap.size)
 (h:∀v' w',Fam w' base (Fam.set f j ⟨r.e,r.size,v',r.n+m,r.xs++news⟩)→Below base w w'→w.grownBy w' r.v.ownBlock→K (a.put o.dst v') w') :
 o.wp P a w K Q:=by
 obtain⟨v',w',hr,h2,h3,h4,h5⟩:=zMl (P:=P) w t o.type base r.e i z r.size bytes ht hi hz af ai ag aj r.v r.n r.xs (hF.own j r hj) B A m c news hl hA h1 ah aa ae;unfold Oper.wp execOp;simp only[ho,resolve,invoke,builtin,YC,Ys,Yt,Xb,ZU,Ym,hs,hx,hr];exact h v' w' (hF.grow hj h4 (q:=⟨r.e,r.size,v',r.n+m,r.xs++news⟩) h2 h5) h3 h4
theorem zDY {P:Program} {ι:Type} [DecidableEq ι] {ops:Array Oper} {rest:List Oper} {o:Oper} {a:Act} {Q:Exit→Act→World→Prop} (w:World) (ag:o.guard=none) (s x:Operand) (t:TypeId)
 (ho:o.op=.call { callee:=.builtin .append,args := #[s,x],argTypes := #[t,t] })
 {base:Nat} {f:ι→Option Fam.Row} (hF:Fam w base f) (j:ι) (r:Fam.Row) (hj:f j=some r)
 (i:TypeInfo) (z:Value) (bytes:Nat) (ht:P.underlying t=some (.slice r.e)) (hi:P.info? r.e=some i) (hz:i.zero=some z)
 (af:i.size=r.size) (aj:i.bytes=bytes) (ah:z.cells.size=r.size) (ak:0<r.size) (hs:a.eval s=r.v)
 (B:Nat) (A:Option Addr) (m c:Nat) (news:List Value) (hx:a.eval x=.slice A m c) (hl:news.length=m*r.size) (hA:Sl w B A news) (h1:∀u∈news,u.oneCell'=true)
 (ai:r.n+m≤maxLen) (aa:(r.n+m)*bytes≤140737488355328) (ae:base≤w.heap.size)
 (h:∀v' w',Fam w' base (Fam.set f j ⟨r.e,r.size,v',r.n+m,r.xs++news⟩)→Below base w w'→w.grownBy w' r.v.ownBlock→wpList P ops Q rest (a.put o.dst v') w') :
 wpList P ops Q (o::rest) a w :=
 Jc ag fun _ hK=>zAZ w s x t ho hF j r hj i z bytes ht hi hz af aj ah ak hs B A m c news hx hl hA h1 ai aa ae fun v' w' h2 h3 h4=>hK _ _ (h v' w' h2 h3 h4)
theorem zBd {w:World} {base:Nat} {e:TypeId} {size n c g:Nat} {xs:List Value} (h:w.ownsRow base e size (.slice (some ⟨g,0,none⟩) n c) n xs) {i:Nat} {u:Value} (hi:xs[i]?=some u):w.cell? ⟨g,i,none⟩=some u:=by
 have aa:=(List.getElem?_eq_some_iff.1 hi).1;obtain⟨b,o,hA,_,hc⟩:=Sl.of_own h (by omega);simp only[Zg,YH,Yl]at hA;obtain⟨rfl,rfl⟩:=hA;have:=hc i aa;rw[Z4]at this;rw[this,hi]
theorem zB0 {w:World} {base aa:Nat} {e:TypeId} {size n:Nat} {v:Value} {xs:List Value} (h:w.ownsRow base e size v n xs) (hb:aa≤base):w.ownsRow aa e size v n xs:=by
 refine⟨h.1,?_⟩;rcases h.2 with hn|⟨g,cap,ae,h1,h2,h3⟩
 · exact .inl hn
 exact .inr ⟨g,cap,ae,h1,by omega,h3⟩
section
variable {ι:Type} {w:World} {base:Nat} {f:ι→Option Fam.Row}
theorem Fam.ne (h:Fam w base f) {i j:ι} (hij:i≠j) {r q:Fam.Row} (hi:f i=some r) (hj:f j=some q) {b:Nat} (hb:q.v.ownBlock=some b):r.v.ownBlock≠some b:=fun e=>h.apart i j r q b hij hi hj e hb
theorem Fam.low (h:Fam w base f) {i:ι} {r:Fam.Row} (hi:f i=some r) {b:Nat} (hb:b<base):r.v.ownBlock≠some b:=fun e=>by have:=(own_at (h.own i r hi) e).1;omega
theorem Fam.box [DecidableEq ι] (h:Fam w base f) (hb:base≤w.heap.size) (i:ι) (cs:List Value) (e:TypeId) (n size:Nat) (hs:cs.length=n*size) (hn:n≤maxLen):Fam (w.alloc (.cells cs.toArray e)) base (Fam.set f i ⟨e,size,.slice (some ⟨w.heap.size,0,none⟩) n n,n,cs⟩) :=
 h.new ((Below.refl _ _).alloc (Nat.le_refl _) _) i (World.ownsRow_lit w cs.toArray n hb hn (by simpa using hs)) (fun g hg=>by simp only[Value.ownBlock,Option.some.injEq]at hg;omega)
end
theorem zRb {w:World} {base b:Nat} {t:TypeId} {cs:List Value} (h:Rw.At w b t cs) (hb:base≤b) (n size:Nat) (hs:cs.length=n*size) (hn:n≤maxLen):w.ownsRow base t size (.slice (some ⟨b,0,none⟩) n n) n cs :=
 ⟨hs,.inr ⟨b,n,cs.toArray,rfl,hb,h,Nat.le_refl _,hn,by simpa using hs,by rw[List.take_of_length_le (by simp;omega)]⟩⟩
theorem Fam.store {ι:Type} [DecidableEq ι] {w w':World} {base:Nat} {f:ι→Option Fam.Row} (h:Fam w base f) {i:ι} {e:TypeId} {size n b:Nat} {cs cs':List Value} (hi:f i=some ⟨e,size,.slice (some ⟨b,0,none⟩) n n,n,cs⟩) (hg:w.grownBy w' (some b)) (aa:Rw.At w' b e cs') (hs:cs'.length=n*size) (hn:n≤maxLen) :
 Fam w' base (Fam.set f i ⟨e,size,.slice (some ⟨b,0,none⟩) n n,n,cs'⟩) :=
 h.grow hi hg (zRb aa (own_at (h.own _ _ hi) (g:=b) rfl).1 n size hs hn) (.inl rfl)
theorem zBt {w w':World} {B b:Nat} (hg:w.grownBy w' (some b)) (hB:B≤w.heap.size) (hb:B≤b):Below B w w' :=
 XF (Zd _ _) hg hB (by intro k hk;simp only[Zg]at hk;omega)
theorem zEW {q b:Nat} (h:q<b):some q≠some b:=by simp only[QE,Zg];omega
theorem zSh {w:World} {base:Nat} {e:TypeId} {n c b:Nat} {xs:List Value} (h:w.ownsRow base e 1 (.slice (some ⟨b,0,none⟩) n c) n xs):Sl w w.heap.size (some ⟨b,1,none⟩) (xs.drop 1):=by
 intro hx;rw[ZH]at hx;refine⟨b,1,rfl,(own_at h (g:=b) rfl).2,fun q hq=>?_⟩;rw[ZH]at hq;rw[XI];exact (zBd h (Zb (by omega))).trans (Zb (by omega)).symm
theorem own_cap {w:World} {base:Nat} {e:TypeId} {size n c b:Nat} {xs:List Value} (h:w.ownsRow base e size (.slice (some ⟨b,0,none⟩) n c) n xs):n≤c:=by
 rcases h.2 with ⟨hv,_⟩|⟨g,cap,ae,hv,_,_,aa,_⟩
 · cases hv
 simp only[ZX]at hv;omega
theorem Mp.Is.same {P:Program} {k:TypeId} {w w':World} {b:Nat} {F:Value→Option Value} (h:Mp.Is P k w b F) (hs:w'.heap[b]?=w.heap[b]?):Mp.Is P k w' b F:=by
 obtain⟨es,c,hb,r⟩:=h;exact⟨es,c,hs.trans hb,r⟩
theorem Mp.Is.notcells {P:Program} {k:TypeId} {w:World} {b:Nat} {F:Value→Option Value} (h:Mp.Is P k w b F) {cs:Array Value} {t:TypeId} {z:Nat × Nat}:w.heap[b]?≠some (.cells cs t z):=fun e=>by
 obtain⟨es,c,hb,r⟩:=h;rw[hb]at e;cases e
abbrev zEj:=Nat × Int
def Ud.rowOf (A:Option Addr) (c:Nat) (l:List Int):Fam.Row:=⟨21,1,.slice A l.length c,l.length,Ud.ints l⟩
def zAP (v:Value) (l:List Int):Fam.Row:=⟨21,1,v,l.length,Ud.ints l⟩
def zDy (K:List Rw.Row):List (Int × Int):=K.map fun r=>(r.1,r.2.1)
def zB9 (T M:List Rw.Row):List Int:=M.flatMap fun r=>(Ud.full T r.1).drop 1
def zBa (M:List Rw.Row):List Int:=M.map (·.1)
def zEk (T:List Rw.Row) (X:Int→Bool) (M:List Rw.Row):List Rw.Row:=M.filter fun r=>zAt T X r.1
def zAL (T:List Rw.Row) (X:Int→Bool) (M:List Rw.Row):List Int:=(zEk T X M).map fun r=>r.2.2.getD 1 0
def zBu (T M:List Rw.Row) (c:Int):List Int:=(M.filter fun r=>decide ((Ud.full T r.1).headD 0=c)).map (·.1)
def zLc (T:List Rw.Row) (X:Int→Bool) (M:List Rw.Row) (a b:Int):Option Int:=(zEk T X M).foldl (fun o r=>if r.2.2.getD 0 0=a∧r.2.2.getD 1 0=b then some r.1 else o) none
structure Ud.Rows (T:List Rw.Row) (X:Int→Bool) (K M:List Rw.Row) (f:zEj→Option Fam.Row) (vT vc vp ve vi vs vm:Value) (ads:List (Option Addr × Nat)) (es:List Ud.At):Prop where
 la:ads.length=K.length
 le:es.length=M.length
 t:f (0,0)=some ⟨103,3,vT,K.length,Rw.fl K ads⟩
 c:f (0,1)=some ⟨165,2,vc,K.length,Pg.fl (zDy K)⟩
 p:f (0,2)=some ⟨165,2,vp,M.length,Pg.fl (zBp 0 M)⟩
 e:f (0,3)=some ⟨133,3,ve,M.length,zBB T X M es⟩
 i:f (0,4)=some (zAP vi (zB9 T M))
 s:f (0,5)=some (zAP vs (zAL T X M))
 m:f (0,6)=some (zAP vm (zBa M))
 rm:∀(j:Nat) r a,K[j]?=some r→ads[j]?=some a→f (2,(j:Int))=some (Ud.rowOf a.1 a.2 r.2.2)
 em:∀(j:Nat) r a,M[j]?=some r→es[j]?=some a→f (3,(j:Int))=some (Ud.rowOf a.m a.mc r.2.2)∧f (4,(j:Int))=some (Ud.rowOf a.f a.fc (Ud.full T r.1))
def Ud.BegI (T M:List Rw.Row) (f:zEj→Option Fam.Row) (G:Value→Option Value):Prop :=
 ∀c:Int,(zBu T M c=[]∧G (.int .i32 c)=none)∨∃v,G (.int .i32 c)=some v∧f (1,c)=some (zAP v (zBu T M c))
def Ud.JoiI (T:List Rw.Row) (X:Int→Bool) (M:List Rw.Row) (J:Value→Option Value):Prop:=∀a c:Int,J (.agg #[.int .i32 a,.int .i32 c])=(zLc T X M a c).map (Value.int .i32)
def Ud.cells (vT:Value) (XA:Option Addr) (xn xc:Nat) (ve:Value) (mb jb:Nat):List Value:=[vT,.slice XA xn xc,.pointer none,.pointer none,ve,.map (some mb),.map (some jb),.slice none 0 0,.slice none 0 0,.slice none 0 0]
def Ud.Inv (T:List Rw.Row) (X:Int→Bool) (K M:List Rw.Row) (w:World) (base D mb jb:Nat) (XA:Option Addr) (xn xc:Nat) (vc vp vi vs vm:Value):Prop :=
 ∃f vT ve ads es G J,Fam w base f∧Rw.At w D 143 (Ud.cells vT XA xn xc ve mb jb)∧Mp.Is prog 21 w mb G∧Mp.Is prog 167 w jb J∧base≤w.heap.size ∧
  Ud.Rows T X K M f vT vc vp ve vi vs vm ads es∧Ud.BegI T M f G∧Ud.JoiI T X M J
section
variable {T:List Rw.Row} {X:Int→Bool} {K M:List Rw.Row} {f f':zEj→Option Fam.Row} {vT vc vp ve vi vs vm:Value} {ads:List (Option Addr × Nat)} {es:List Ud.At}
theorem zCR {α:Type} {l:List α} {a:α} {j:Nat} {x:α} (h:(l++[a])[j]?=some x):(l[j]?=some x∧j<l.length)∨(j=l.length∧a=x):=by
 rcases Z3 j l.length with hl|hl
 · rw[Z1 hl]at h;exact .inl ⟨h,hl⟩
 rw[ZO hl]at h
 have:j-l.length=0:=by
  rcases YM (j-l.length) with h0|h0
  · exact h0
  rw[Yn (by simp;omega)]at h;cases h
 rw[this]at h;exact .inr ⟨by omega,by simpa using h⟩
theorem Ud.Rows.addK (h:Ud.Rows T X K M f vT vc vp ve vi vs vm ads es) {r:Rw.Row} {a:Option Addr × Nat} {aa ae:Value}
 (h0:f' (0,0)=some ⟨103,3,aa,K.length+1,Rw.fl K ads++[.int .i32 r.1,.int .i64 r.2.1,.slice a.1 r.2.2.length a.2]⟩) (h1:f' (0,1)=some ⟨165,2,ae,K.length+1,Pg.fl (zDy K)++[.int .i32 r.1,.int .u16 r.2.1]⟩)
 (h2:f' (2,(K.length:Int))=some (Ud.rowOf a.1 a.2 r.2.2)) (ho:∀ix:zEj,ix.1≤5→ix≠(0,0)→ix≠(0,1)→ix≠(2,(K.length:Int))→f' ix=f ix) :
 Ud.Rows T X (K++[r]) M f' aa ae vp ve vi vs vm (ads++[a]) es:=by
 have same:∀i:Int,2≤i→f' (0,i)=f (0,i):=fun i hi=>ho _ (Zq _) (by intro e;cases e;omega) (by intro e;cases e;omega) (by intro e;cases e)
 refine⟨by simp[h.la],h.le,?_,?_,(same 2 (by decide)).trans h.p,(same 3 (by decide)).trans h.e,(same 4 (by decide)).trans h.i,(same 5 (by decide)).trans h.s,(same 6 (by decide)).trans h.m,fun j q b hj hb=>?_,fun j q b hj hb=>?_⟩
 · rw[h0,Rw.fl_app _ _ r a h.la,Zc];rfl
 · rw[h1];unfold zDy;rw[ZL,Pg.fl_app,Zc];rfl
 · rcases zCR hj with ⟨ag,hl⟩|⟨rfl,rfl⟩
   · rcases zCR hb with ⟨af,_⟩|⟨e,_⟩
     · rw[ho _ (by show (2:Nat)≤5;decide) (by intro e;cases e) (by intro e;cases e) (by intro e;simp only[YA,Qc]at e;omega)];exact h.rm j q b ag af
     have:=h.la;omega
   rcases zCR hb with ⟨_,hl⟩|⟨_,rfl⟩
   · have:=h.la;omega
   exact h2
 rw[ho _ (by show (3:Nat)≤5;decide) (by intro e;cases e) (by intro e;cases e) (by intro e;cases e),ho _ (by show (4:Nat)≤5;decide) (by intro e;cases e) (by intro e;cases e) (by intro e;cases e)];exact h.em j q b hj hb
theorem Ud.Rows.addM (h:Ud.Rows T X K M f vT vc vp ve vi vs vm ads es) {r:Rw.Row} {a:Ud.At} {af aa ah ag ae:Value}
 (h0:f' (0,2)=some ⟨165,2,af,M.length+1,Pg.fl (zBp 0 M)++[.int .i32 r.1,.int .u16 ((M.length:Int)+1)]⟩)
 (h1:f' (0,3)=some ⟨133,3,aa,M.length+1,zBB T X M es++[.slice a.m r.2.2.length a.mc,.slice a.f (Ud.full T r.1).length a.fc,.bool (zAt T X r.1)]⟩)
 (h2:f' (0,4)=some (zAP ah (zB9 T M++(Ud.full T r.1).drop 1))) (h3:f' (0,6)=some (zAP ae (zBa M++[r.1])))
 (h4:f' (0,5)=some (zAP ag (zAL T X (M++[r])))) (h5:f' (3,(M.length:Int))=some (Ud.rowOf a.m a.mc r.2.2)) (h6:f' (4,(M.length:Int))=some (Ud.rowOf a.f a.fc (Ud.full T r.1)))
 (ht:f' (0,0)=f (0,0)) (hc:f' (0,1)=f (0,1)) (hr:∀j:Int,f' (2,j)=f (2,j)) (ak:∀j:Int,j≠M.length→f' (3,j)=f (3,j)) (aj:∀j:Int,j≠M.length→f' (4,j)=f (4,j)) :
 Ud.Rows T X K (M++[r]) f' vT vc af aa ah ag ae ads (es++[a]):=by
 refine⟨h.la,by simp[h.le],ht.trans h.t,hc.trans h.c,?_,?_,?_,h4,?_,fun j q b hj hb=>(hr _).trans (h.rm j q b hj hb),fun j q b hj hb=>?_⟩
 · rw[h0,zPE,Pg.fl_app,Zc,Z4];rfl
 · rw[h1,zKo T X M es r a h.le,Zc];rfl
 · rw[h2];unfold zB9;rw[Y8];simp
 · rw[h3];unfold zBa;rw[ZL];rfl
 rcases zCR hj with ⟨ao,hl⟩|⟨rfl,rfl⟩
 · rcases zCR hb with ⟨ai,_⟩|⟨e,_⟩
   · rw[ak _ (by omega),aj _ (by omega)];exact h.em j q b ao ai
   have:=h.le;omega
 rcases zCR hb with ⟨_,hl⟩|⟨_,rfl⟩
 · have:=h.le;omega
 exact⟨h5,h6⟩
theorem Ud.BegI.keep {G:Value→Option Value} (h:Ud.BegI T M f G) (ho:∀c:Int,f' (1,c)=f (1,c)):Ud.BegI T M f' G:=by
 intro c;rw[ho c];exact h c
theorem zO0 (r:Rw.Row) (c:Int):zBu T (M++[r]) c=if (Ud.full T r.1).headD 0=c then zBu T M c++[r.1] else zBu T M c:=by
 unfold zBu;rw[YL,ZL]
 by_cases hc:(Ud.full T r.1).headD 0=c
 · rw[Zl hc,YW,Zl (Zs hc)];rfl
 rw[if_neg hc,List.filter_cons,if_neg (by simpa using hc)];simp
theorem Ud.BegI.add {G G':Value→Option Value} (h:Ud.BegI T M f G) {r:Rw.Row} {v:Value} (hG:G' (.int .i32 ((Ud.full T r.1).headD 0))=some v) (aa:∀y,y≠.int .i32 ((Ud.full T r.1).headD 0)→G' y=G y)
 (hv:f' (1,(Ud.full T r.1).headD 0)=some (zAP v (zBu T M ((Ud.full T r.1).headD 0)++[r.1]))) (ho:∀c:Int,c≠(Ud.full T r.1).headD 0→f' (1,c)=f (1,c)):Ud.BegI T (M++[r]) f' G':=by
 intro c;rw[zO0]
 by_cases hc:(Ud.full T r.1).headD 0=c
 · subst hc;rw[Zl rfl];exact .inr ⟨v,hG,hv⟩
 rw[Zk hc,aa _ (by intro e;cases e;exact hc rfl),ho c (Yc hc)];exact h c
theorem zG7 (r:Rw.Row):zEk T X (M++[r])=if zAt T X r.1=true then zEk T X M++[r] else zEk T X M:=by
 unfold zEk;rw[YL,YW];cases zAt T X r.1 <;> simp
theorem zIZ (r:Rw.Row):zAL T X (M++[r])=if zAt T X r.1=true then zAL T X M++[r.2.2.getD 1 0] else zAL T X M:=by
 unfold zAL;rw[zG7];cases zAt T X r.1 <;> simp
theorem Ud.JoiI.no {J:Value→Option Value} (h:Ud.JoiI T X M J) {r:Rw.Row} (hp:zAt T X r.1=false):Ud.JoiI T X (M++[r]) J:=by
 intro a c;unfold zLc;rw[zG7,Zk (by rw[hp];simp)];exact h a c
theorem Ud.JoiI.add {J J':Value→Option Value} (h:Ud.JoiI T X M J) {r:Rw.Row} (hp:zAt T X r.1=true) (hJ:J' (.agg #[.int .i32 (r.2.2.getD 0 0),.int .i32 (r.2.2.getD 1 0)])=some (.int .i32 r.1))
 (aa:∀y,y≠.agg #[.int .i32 (r.2.2.getD 0 0),.int .i32 (r.2.2.getD 1 0)]→J' y=J y):Ud.JoiI T X (M++[r]) J':=by
 intro a c;unfold zLc;rw[zG7,Zl hp,Y4,Yy,QK]
 by_cases hc:r.2.2.getD 0 0=a∧r.2.2.getD 1 0=c
 · rw[Zl hc];obtain⟨rfl,rfl⟩:=hc;exact hJ
 rw[Zk hc,aa _ (by intro e;simp only[XO,Ql,Z7,Value.int.injEq,Qc,Yl]at e;exact hc ⟨e.1.symm,e.2.symm⟩)];exact h a c
end
theorem zHd {T:List Rw.Row} (h:∀c,(Ud.full T c).length≤32):∀M:List Rw.Row,(zB9 T M).length≤31*M.length
 | []=>by simp[zB9]
 | r::M=>by
   have h1:=zHd h M;have h2:=h r.1;unfold zB9 at h1 ⊢;rw[Xu,Zc,ZH,ZB];omega
theorem zKq {T:List Rw.Row} (c:Int):(Ud.full T c).length≤32:=by
 unfold Ud.full;cases h:Md.full T c with
 | none=>simp
 | some l=>exact (zDv h).2.2.1
theorem zG8 (f:List Int→Int→Option (List Int)):∀(a b out:List Int),zBH f out (a++b)=(zBH f out a).bind fun o=>zBH f o b
 | [],b,out=>rfl
 | d::r,b,out=>by
   rw[ZN,zBH,zBH];cases f out d with
   | none=>rfl
   | some o=>exact zG8 f r b o
theorem zHK {f:List Int→Int→Option (List Int)} {L out o:List Int} {k:Nat} {x:Int} (hx:L[k]?=some x) (h:zBH f out (L.take k)=some o):zBH f out (L.take (k+1))=f o x:=by
 rw[Zy,hx,zG8,h,Zv];show (f o x).bind (fun o=>zBH f o [])=f o x;cases f o x <;> rfl
theorem zMm {f:List Int→Int→Option (List Int)} {L out o:List Int} {k:Nat} {x:Int} (hx:L[k]?=some x) (h:zBH f out (L.take k)=some o) (hn:f o x=none):zBH f out L=none:=by
 have h1:=zHK hx h;rw[hn]at h1;rw[←Zu (k+1) L,zG8,h1];rfl
theorem zMn {mp:Int→List Int} {k:Nat} {out l:List Int} {c:Int} (ho:out.length≤32) (h:zBV mp k out c=some l):l.length≤32:=by
 rw[zBI mp k out c ho]at h;cases hl:Md.lv mp k c with
 | none=>rw[hl]at h;cases h
 | some a =>
   rw[hl,Zv]at h;unfold zC6 at h;split at h
   · cases h;simpa using ‹_›
   cases h
theorem zO1 {mp:Int→List Int} (k:Nat) {out:List Int} {c:Int} (h:mp c=[]):zBV mp k out c=zER out c:=by
 cases k with
 | zero=>rw[zBV,Zl h]
 | succ k=>rw[zBV,Zl h]
theorem zPP {w w':World} {base:Nat} {e:TypeId} {size n:Nat} {v:Value} {xs:List Value} {row:Option Nat} (h:w.ownsRow base e size v n xs) (hg:w.grownBy w' row) (hr:∀k,row=some k→k<base):w'.ownsRow base e size v n xs:=by
 refine h.kept hg ?_;cases hv:v.ownBlock with
 | none=>exact .inl rfl
 | some g =>
   refine .inr fun e'=>?_
   have h1:=hr g e'.symm;have h2:=(h.lt g hv).1;omega
def zRc (W0:World) (w:World) (vo:Value) (o:Option (List Int)) (e:Ending) (w':World):Prop :=
 ∃A n c,e=.returned (.tuple #[.slice A n c,.bool o.isSome])∧(∀l,o=some l→w'.ownsRow W0.heap.size 21 1 (.slice A n c) l.length (l.map (Value.int .i32))∧∀g,(Value.slice A n c).ownBlock=some g→vo.ownBlock=some g∨w.heap.size≤g)∧w.grownBy w' vo.ownBlock
def zLd (T:List Rw.Row) (W0:World) (v:Value) (k:Nat):Prop :=
 ∀(l:List Int) (vo:Value) (c:Int) (deep:Nat) (w:World),deep+k=T.length+3 → -2147483648≤c→c≤2147483647→l.length≤32→Below W0.heap.size W0 w→w.ownsRow W0.heap.size 21 1 vo l.length (l.map (Value.int .i32)) →
  Calls prog 126 #[v,vo,.int .i32 c,.int .i64 deep] w (zRc W0 w vo (zBV (Md.mp T) k l c))
theorem zJ0 (T:List Rw.Row) (S:List Int) (W0:World) (v:Value) (ok:Md.Ok T) (h0:Md.Is W0 v T S) (k:Nat) (IH:∀k',k=k'+1→zLd T W0 v k'):zLd T W0 v k:=by
 intro l vo c deep w hd h3 h4 hl bw aq;obtain⟨j0,hj0,dm,dk,di⟩:=Z9 zCv;have hv:=h0;obtain⟨A,cc,XA,xc,rfl,h2,hX⟩:=hv;obtain⟨xn,hxn⟩:∃k,S.length=k:=⟨_,rfl⟩;obtain⟨n,hn⟩:∃k,T.length=k:=⟨_,rfl⟩;have hnb:n≤1000000:=by rw[←hn];exact ok.1
 rw[hn]at hd;have dr:=hy' hn;rw[hn,hxn]at h0 IH ⊢;obtain⟨AO,co,rfl⟩:=zA3 aq;have cm:Below w.heap.size w (w.alloc (.cells #[.slice A n cc,.slice XA xn xc] 95)):=(Zd _ _).alloc (Za _) _;have b5:Rw.At (w.alloc (.cells #[.slice A n cc,.slice XA xn xc] 95)) w.heap.size 95 [.slice A n cc,.slice XA xn xc]:=Rw.At.new w 95 [.slice A n cc,.slice XA xn xc];have c6:=bw.trans (cm.mono bw.size);have hM:=zPJ _ T S c _ ok (h0.below c6) h3 h4;have hmb:=zIz ok.2.2.1 c
 have c7:(Md.mp T c).length≤1000000:=by
  unfold Md.mp zB3;split
  · simp
  cases hf:Md.find T c with
  | none=>simp
  | some r=>exact ok.2.2.2 r (zAx hf).1
 have z0:=b5.cell 0 rfl;have z1:=b5.cell 1 rfl;have bt:=b5;obtain⟨m,hm⟩:∃m,Md.mp T c=m:=⟨_,rfl⟩;rw[hm]at hmb hM c7;obtain⟨f,hf⟩:∃f,zBV (Md.mp T) k l c=f:=⟨_,rfl⟩;rw[hf];have HM:=hy' hm;have HF:=hy' hf;have dc:=hy' hmb;have b2:=hy' IH;have cp:=hy' aq;have cq:=hy' cm;have bz:=hy' bw;have cw:∀g,(Value.slice AO l.length co).ownBlock=some g→W0.heap.size≤g∧g<w.heap.size:=fun g hg=>aq.lt g hg
 have b3:=hy' cw;have b9:=hy' bt;unfold zBc at hM;clear h0 h2 hX hn hxn cm b5 bt ok hm hf hmb IH aq c6 bw cw;unfold zB8 at *;go_enter func126,ntmps126;go_wp2_with fail;refine hM.mono ?_;rintro e w1 ⟨A1,c1,rfl,au,b1⟩;have b6:=cq.o.trans (b1.mono cq.o.size);have df:w.heap.size<w1.heap.size:=Zf (by simp) b1.size;have br:=b9.o.below b1;have ax:=zA6 cp.o b6 (Za _);have cu:=(Rw.grown_below b6).but (Value.slice AO l.length co).ownBlock;have cf:=bz.o.trans (b6.mono bz.o.size);have cb:=cf.size;have a1:=hy' br;have ay:=hy' ax;have bm:=hy' cu;have dv:=hy' cf;have c8:=hy' au;have dw:(l.map (Value.int .i32)).length=l.length:=Ze _;clear b6 br ax cu cf au b1 hM z0 z1;rcases m with _|⟨m0,mr⟩
 · have ak:f=zER l c:=by rw[←HF.o];exact zO1 k HM.o
   have az:f.isSome=decide ((l.length:Int)<32):=by
    rw[ak];unfold zER
    by_cases h:l.length<32
    · rw[Zl h,Zs (by omega)];rfl
    rw[Zk h,Zp (by omega)];rfl
   have bu:=hy' ak;have bi:=hy' az;have dx:(w1.alloc (.cells #[.int .i32 c] 21)).heap.size=w1.heap.size+1:=by simp
   clear ak az b2;go_wp2_with (at_builtin;refine wpList_append_lies _ rfl _ _ 79 rfl W0.heap.size 21 j0 _ 1 4 underlying79 hj0 dm dk di rfl (by omega) _ l.length (l.map (Value.int .i32)) rfl (ay.o.alloc _) ⟨w1.heap.size,0,none⟩ 1 1 [.int .i32 c] rfl rfl (cell_one_new _ _ _) (by intro u hu;simp only[List.mem_singleton]at hu;subst hu;rfl) (by omega) (by unfold maxLen;omega) (by omega) (by omega) _ rfl ?_;intro g cap w2 aw bn aa cn);have bl:=hy' aw;have ae:=hy' aa;have dp:=hy' (bm.o.andThen ((Yr w1 (.cells #[.int .i32 c] 21) (Value.slice AO l.length co).ownBlock).trans bn) fun j hj=>.inr hj);clear aw bn aa;go_wp2_with fail;go_ret2;refine⟨some ⟨g,0,none⟩,l.length+1,cap,?_,fun l' af=>?_,dp.o⟩
   · rw[bi.o];rfl
   have bq:l.length<32∧l'=l++[c]:=by
    rw[bu.o]at af;unfold zER at af;split at af
    · cases af;exact⟨‹_›,rfl⟩
    cases af
   obtain⟨_,rfl⟩:=bq;refine⟨?_,fun g' cy=>?_⟩
   · have:=bl.o;rw[Zc,ZL];exact this
   simp only[Value.ownBlock,Zg]at cy;subst cy;rcases ae.o with h|h
   · exact .inl h
   exact .inr (by omega)
 have hne:Md.mp T c≠[]:=by rw[HM.o];exact fun e=>by cases e
 have q1:((mr.length:Int)+1 == 0)=false:=by simp;omega
 have bg:(m0::mr).length=mr.length+1:=rfl;rcases k with _|k
 · have av:f=none:=by rw[←HF.o,zBV,Zk hne]
   have bp:=hy' av;have bo:(n:Int)+2<deep:=by omega
   have bb:=a1.o;have z2:=bb.cell 0 rfl;clear av b2 bb hne;go_wp2_with fail;go_ret2;refine⟨AO,l.length,co,?_,fun l' af=>?_,bm.o⟩
   · rw[bp.o];rfl
   rw[bp.o]at af;cases af
 have av:f=zBH (zBV (Md.mp T) k) l (m0::mr):=by rw[←HF.o,zBV,Zk hne,HM.o]
 have bp:=hy' av;have bo:¬(n:Int)+2<deep:=by omega
 have cx:zLd T W0 (.agg #[.slice A n cc,.slice XA xn xc]) k:=b2.o k rfl;have HI:=hy' cx;have bb:=a1.o;have z2:=bb.cell 0 rfl;obtain⟨q,hq⟩:∃q,(m0::mr).length=q:=⟨_,rfl⟩;have aj:=c8.o;rw[hq]at aj ⊢;have q2:((q:Int) == 0)=false:=by rw[←hq];simp;omega
 rw[hq]at c7;have HQ:=hy' hq;have cj:=hy' aj;have bj:(Value.slice AO l.length co).ownBlock≠some w.heap.size:=fun e=>by have:=(b3.o _ e).2;omega
 have bf:=hy' bj;obtain⟨vb,cd⟩:∃vb,(Value.slice AO l.length co).ownBlock=vb:=⟨_,rfl⟩;rw[cd]at bm bf b3;have b4:=hy' cd;clear av b2 bb hne cx hq aj c8 q1 bg bj cd;go_wp2_with fail;go_loopw [1,11,13,36] (fun v1 v11 _ i wr=>∃(t:Nat) (A2:Option Addr) (c2:Nat) (ls:List Int),t≤q∧i=.int .i64 t∧v1=.slice A2 ls.length c2∧v11=.bool true∧zBH (zBV (Md.mp T) k) l ((m0::mr).take t)=some ls∧ls.length≤32∧wr.ownsRow W0.heap.size 21 1 (.slice A2 ls.length c2) ls.length (ls.map (Value.int .i32))∧(∀g,(Value.slice A2 ls.length c2).ownBlock=some g→vb=some g∨w1.heap.size≤g)∧w1.grownBy wr vb) (fun _ _ _ i _=>q-(intOf i).toNat)
 case atStart=>exact⟨0,AO,co,l,Zq _,rfl,rfl,rfl,rfl,hl,ay.o,fun g hg=>.inl (by rw[←b4.o];exact hg),(Rw.grown_below (Zd _ _)).but _⟩
 obtain⟨t,A2,c2,ls,ht,rfl,rfl,rfl,a7,cz,ag,aa,a6⟩:=hrel;have ar:=a1.o.grown a6 bf.o;have b8:=zPP cj.o a6 (fun g hg=>by have:=(b3.o g hg).2;simp;omega);have b7:=Sl.of_own b8;have bx:=bm.o.andThen a6 fun j hj=>.inr hj
 have ck:Below W0.heap.size W0 wr:=bz.o.trans (zAj bx bz.o.size fun g hg=>(b3.o g hg).1);have y0:=ar.cell 0 rfl;have y1:=ar.cell 1 rfl;have dn:=a6.size;have ba:=hy' a7;have bk:=hy' ag;have ae:=hy' aa;have dl:=hy' a6;have dh:=hy' bx
 by_cases cn:t<q
 · obtain⟨x,hx⟩:∃x,(m0::mr)[t]?=some x:=⟨_,Zb (by rw[HQ.o];exact cn)⟩;have hxb:=dc.o x (Zj hx);obtain⟨ab,ao,rfl,dy,ct⟩:=b7 (by rw[Ze,HQ.o];omega);have hc:=ct t (by rw[Ze,HQ.o];exact cn);rw[Zt,hx,Zw]at hc;have ah:=HI.o ls _ x (deep+1) wr (by rw[dr.o];omega) hxb.1 hxb.2 cz ck ag;rw[show ((deep+1:Nat):Int)=(deep:Int)+1 by omega]at ah;obtain⟨o,ho⟩:∃o,zBV (Md.mp T) k ls x=o:=⟨_,rfl⟩;rw[ho]at ah;have HX:=hy' hx;have HO:=hy' ho;have tI:(t:Int)<q:=by omega
   clear a7 ag aa a6 bx ck ar b8 b7 ct hx ho;go_wp2_with fail;refine ah.mono ?_;rintro e w2 ⟨A3,n3,c3,rfl,bs,cv⟩
   have cr:=dl.o.andThen cv fun j hj=>by
    rcases ae.o j hj with h|h
    · exact .inr h
    exact .inl h
   have cg:=hy' cr;have ch:=hy' bs;clear cv cr bs ah;rcases o with _|l3
   · have av:f=none:=by rw[bp.o];exact zMm HX.o ba.o HO.o
     have bc:=hy' av;clear av;go_wp2_with fail;go_ret2;refine⟨A3,n3,c3,?_,fun l' af=>?_,?_⟩
     · rw[bc.o];rfl
     · rw[bc.o]at af;cases af
     rw[b4.o];exact bm.o.andThen cg.o fun j hj=>.inr hj
   obtain⟨ap,ai⟩:=ch.o l3 rfl;obtain⟨A4,c4,h4⟩:=zA3 ap
   injection h4 with h4a h4b h4c
   subst h4a h4b h4c;have bh:=hy' ap;have a8:=hy' ai;have dt:=zMn cz HO.o;have du:=cg.o.size;clear ap ai;go_wp2_with fail;refine⟨⟨t+1,A3,c3,l3,by omega,by go_num,rfl,rfl,?_,dt,bh.o,fun g hg=>?_,cg.o⟩,by simp[intOf];omega⟩
   · rw[zHK HX.o ba.o,HO.o]
   rcases a8.o g hg with h|h
   · exact ae.o g h
   exact .inr (Zh dn h)
 obtain rfl:t=q:=by omega
 have tI:¬(t:Int)<t:=by omega
 clear a7 ag aa a6 bx ck ar b8 b7;go_wp2_with fail;go_ret2
 have hf:f=some ls:=by
  have:=ba.o;rw[Zi (by rw[HQ.o];exact Za _)]at this;rw[bp.o,this]
 refine⟨A2,ls.length,c2,?_,fun l' af=>?_,?_⟩
 · rw[hf];rfl
 · rw[hf]at af;cases af
   refine⟨bk.o,fun g hg=>?_⟩;rw[b4.o];rcases ae.o g hg with h|h
   · exact .inl h
   exact .inr (by omega)
 rw[b4.o];exact dh.o
theorem zHe (T:List Rw.Row) (S:List Int) (W0:World) (v:Value) (ok:Md.Ok T) (h0:Md.Is W0 v T S):∀k,zLd T W0 v k
 | 0=>zJ0 T S W0 v ok h0 0 fun k' h=>absurd h (by omega)
 | k+1=>zJ0 T S W0 v ok h0 (k+1) fun k' h=>by
   obtain rfl:k=k':=by omega
   exact zHe T S W0 v ok h0 k
theorem Md.full_any (v:Value) (T:List Rw.Row) (S:List Int) (d:Int) (w:World) (ok:Md.Ok T) (h:Md.Is w v T S) (h3 : -2147483648≤d) (h4:d≤2147483647) :
 Calls prog 86 #[v,.int .i32 d] w (zBc ((Md.full T d).getD []) w):=by
 have hv:=h;obtain⟨A,c,XA,xc,rfl,h2,hX⟩:=hv;obtain⟨xn,hxn⟩:∃k,S.length=k:=⟨_,rfl⟩;obtain⟨n,hn⟩:∃k,T.length=k:=⟨_,rfl⟩;rw[hn,hxn]at h ⊢;have af:Below w.heap.size w (w.alloc (.cells #[.slice A n c,.slice XA xn xc] 95)):=(Zd _ _).alloc (Za _) _;have ah:Rw.At (w.alloc (.cells #[.slice A n c,.slice XA xn xc] 95)) w.heap.size 95 [.slice A n c,.slice XA xn xc]:=Rw.At.new w 95 [.slice A n c,.slice XA xn xc];have hE:=zHe T S _ _ ok (h.below af) (T.length+3) [] (.slice none 0 0) d 0 _ (by omega) h3 h4 (by simp) (Zd _ _) (ZG _ _ _ _);have ag:zBV (Md.mp T) (T.length+3) [] d=Md.full T d:=rfl;rw[ag]at hE;obtain⟨o,ho⟩:∃o,Md.full T d=o:=⟨_,rfl⟩;rw[ho]at hE ⊢;have hole:∀l,o=some l→l.length≤32:=fun l hl=>zMn (by simp) (ag.trans (ho.trans hl))
 have z0:=ah.cell 0 rfl;have z1:=ah.cell 1 rfl;have HB:=hy' af;have ao:=hy' hole;clear h h2 hX hn hxn af ah ok ag ho hole;unfold zB8 at hE ⊢;go_enter func86,ntmps86;go_wp2_with fail;refine hE.mono ?_;rintro e w1 ⟨A1,n1,c1,rfl,ae,hg⟩;have aj:=hy' (HB.o.trans (zAj hg HB.o.size fun k hk=>by cases hk));have ai:=hy' ae;clear ae hg hE z0 z1;rcases o with _|l
 · go_wp2_with fail;go_ret;exact⟨none,0,rfl,ZG _ _ _ _,aj.o⟩
 obtain⟨aa,_⟩:=ai.o l rfl;obtain⟨A4,c4,ak⟩:=zA3 aa
 injection ak with h4a h4b h4c
 subst h4a h4b h4c;have HO:=hy' (own_base aa (by simp:w.heap.size≤(w.alloc (.cells #[.slice A n c,.slice XA xn xc] 95)).heap.size));clear aa;go_wp2_with fail;go_ret;exact⟨A1,c1,rfl,HO.o,aj.o⟩
structure Ext (w:World) where
 val:World
 below:Below w.heap.size w val
instance (w:World):Nonempty (Ext w):=⟨⟨w,Zd _ _⟩⟩
theorem Ext.cell {w:World} (x:Ext w) {b:Nat} (o:Nat) (hb:b<w.heap.size):x.val.cell? ⟨b,o,none⟩=w.cell? ⟨b,o,none⟩:=(zAU x.below).1 b o hb
theorem Ext.cells {w:World} {b o:Nat} {v:Value} (h:w.cell? ⟨b,o,none⟩=some v) (hb:b<w.heap.size):∀x:Ext w,x.val.cell? ⟨b,o,none⟩=some v:=fun x=>(x.cell o hb).trans h
theorem Ext.call {P:Program} {f:FuncId} {args:Array Value} {w:World} {v:Value} (h:∀W,Below w.heap.size w W→Calls P f args W fun e w'=>e=.returned v∧Below W.heap.size W w') (x:Ext w) :
 Calls P f args x.val fun e w''=>e=.returned v∧∃y:Ext w,w''=y.val :=
 (h x.val x.below).mono fun _ w' ⟨he,hb⟩=>⟨he,⟨w',x.below.trans (hb.mono x.below.size)⟩,rfl⟩
theorem Ext.same {P:Program} {f:FuncId} {args:Array Value} {w:World} {v:Value} (h:∀W,Below w.heap.size w W→Calls P f args W fun e w'=>e=.returned v∧W=w') (x:Ext w) :
 Calls P f args x.val fun e w''=>e=.returned v∧∃y:Ext w,w''=y.val :=
 (h x.val x.below).mono fun _ w' ⟨he,hb⟩=>⟨he,x,hb.symm⟩
theorem zAa {P:Program} {id:Nat} {Q:Exit→Act→World→Prop} {a:Act} {w:World} {l:List Oper} (hm:P.follows .mixedOrders=true) (hB:Region.lexB .any l.toArray=true)
 (h:wpQuiet P l.toArray (fun w'=>∃x:Ext w,w'=x.val) (fun a'=>∀x:Ext w,Q .normal a' x.val) l a):(Code.region id l.toArray true).wp P Q a w:=by
 refine wp_region_quiet (C:=fun w'=>∃x:Ext w,w'=x.val) hm hB ⟨⟨_,(Zd _ _).drew⟩,rfl⟩ ?_
 have:(fun a'=>∀x:Ext w,Q .normal a' x.val)=(fun a'=>∀w',(∃x:Ext w,w'=x.val)→Q .normal a' w'):=by
  funext a'
  exact propext ⟨fun h w' ⟨x,hx⟩=>by rw[hx];exact h x,fun h x=>h _ ⟨x,rfl⟩⟩
 rw[←this];simpa using h
theorem zJ1 (v:Value) (T:List Rw.Row) (S:List Int) (r:Rw.Row) (aA:Option Addr) (ac:Nat) (w:World) (ok:Md.Ok T) (h:Md.Is w v T S) (hS:C.srt S) (a7:S.length≤1000000) (hr : -2147483648≤r.1∧r.1≤2147483647) (hm:∀c∈r.2.2,-2147483648≤c∧c≤2147483647) (hl:r.2.2.length≤1000000) (hM:Sl w w.heap.size aA (r.2.2.map (Value.int .i32))) :
 Calls prog 127 #[v,zIo r (aA,ac)] w fun e w'=>e=.returned (.bool (zAf T (C.mem S) r))∧Below w.heap.size w w':=by
 obtain⟨A,c,XA,xc,rfl,h2,hX⟩:=id h;obtain⟨xn,hxn⟩:∃k,S.length=k:=⟨_,rfl⟩;obtain⟨n,hn⟩:∃k,T.length=k:=⟨_,rfl⟩;rw[hn,hxn]at h ⊢;obtain⟨ml,av⟩:∃k,r.2.2.length=k:=⟨_,rfl⟩;have az:=hy' av;unfold zIo;rw[av]at hl ⊢;obtain⟨wa,ai⟩:∃wa,(w.alloc (.cells #[.slice A n c,.slice XA xn xc] 95)).alloc (.cells #[.int .i32 r.1,.int .i64 r.2.1,.slice aA ml ac] 103)=wa:=⟨_,rfl⟩;have ay:Below w.heap.size w wa:=by rw[←ai];exact ((Zd _ _).alloc (Za _) _).alloc (by simp) _
 have af:Rw.At wa w.heap.size 95 [.slice A n c,.slice XA xn xc]:=by rw[←ai];exact (Rw.At.new w 95 [.slice A n c,.slice XA xn xc]).alloc _
 have aa:Rw.At wa (w.heap.size+1) 103 [.int .i32 r.1,.int .i64 r.2.1,.slice aA ml ac]:=by
  have hh:=Rw.At.new (w.alloc (.cells #[.slice A n c,.slice XA xn xc] 95)) 103 [.int .i32 r.1,.int .i64 r.2.1,.slice aA ml ac];rw[ZD]at hh;rw[←ai];exact hh
 have aj:w.heap.size+1<wa.heap.size:=aa.lt;have z0:=af.cell 0 rfl;have z1:=af.cell 1 rfl;have y0:=aa.cell 0 rfl;have y1:=aa.cell 1 rfl;have y2:=aa.cell 2 rfl;have ak:=hy' ai;have ae:=hy' ay;have bl:=hy' (h.below ay);have HX:=hy' hX;have bp:=hy' hxn;have bh:=hy' hS;have bj:=hy' hM;have bb:=hy' hm;have bf:=hy' ok;have bi:=hy' af;have bc:=hy' aa;rw[hxn]at a7;obtain⟨cm,ah⟩:∃b,zAf T (C.mem S) r=b:=⟨_,rfl⟩;rw[ah];have au:=hy' ah;clear ai ay h h2 hX hxn hS hM hm hn ok af aa ah av;unfold zB8;rcases hb1:(r.2.1 == 0) with _|_
 · go_enter func127,ntmps127;go_upto_region 1 with (fail)
   rw[ak.o];go_quiet (fail);go_wp2_with fail;go_ret
   have hc:cm=false:=by
    rw[←au.o];unfold zAf;rw[decide_eq_false (by simpa using hb1),Bool.false_and]
   exact⟨by rw[hc];rfl,below_drewN ae.o _⟩
 rcases hb2:((ml:Int) == 2) with _|_
 · go_enter func127,ntmps127;go_upto_region 1 with (fail)
   rw[ak.o];go_quiet (fail);go_wp2_with fail;go_ret
   have hc:cm=false:=by
    rw[←au.o];unfold zAf;have h2:¬r.2.2.length=2:=fun e=>by rw[az.o]at e;rw[e]at hb2;simp at hb2
    rw[Zp h2,Xp,Kw]
   exact⟨by rw[hc];rfl,below_drewN ae.o _⟩
 obtain⟨x,y,aw⟩:∃x y,r.2.2=[x,y]:=by
  have h2:r.2.2.length=2:=by rw[az.o];have:=beq_iff_eq.1 hb2;omega
  match hh:r.2.2,h2 with
  | [x,y],_=>exact⟨x,y,rfl⟩
 have aq:=bj.o.below ae.o ae.o.size;rw[aw]at aq;obtain⟨ab,ao,hA,bn,a8⟩:=aq (by simp);have a1:wa.cell? ⟨ab,ao,none⟩=some (.int .i32 x):=by simpa using a8 0 (by simp)
 subst hA;have hxb:=bb.o x (by rw[aw];simp);have ax:Hy (∀W,Below wa.heap.size wa W→Calls prog 164 #[.agg #[.slice A n c,.slice XA xn xc],.int .i32 x] W fun e w'=>e=.returned (.int .i64 (Md.cls T x))∧Below W.heap.size W w'):=hy' fun W hW=>Md.class_any _ T S x W bf.o (bl.o.below hW) hxb.1 hxb.2
 have ba:Hy (∀W,Below wa.heap.size wa W→Calls prog 77 #[.agg #[.slice XA xn xc],.int .i32 r.1] W fun e w'=>e=.returned (.bool (C.mem S r.1))∧Below W.heap.size W w'):=hy' fun W hW=>zMk XA xc xn w.heap.size S r.1 W bp.o a7 bh.o (Zh ae.o.size hW.size) (HX.o.below (ae.o.trans (hW.mono ae.o.size)) (Za _))
 have bo:Below wa.heap.size wa wa:=Zd _ _
 have ah:cm=(decide (Md.cls T x=0)&&!C.mem S r.1):=by
  rw[←au.o];unfold zAf;rw[Zs (beq_iff_eq.1 hb1),aw];rfl
 have ag:=hy' ah;have bk:0<ml:=by have:=beq_iff_eq.1 hb2;omega
 have bm:(0:Int)<ml:=by have:=beq_iff_eq.1 hb2;omega
 obtain⟨q,hq⟩:∃q,Md.cls T x=q:=⟨_,rfl⟩;rw[hq]at ax ag;have C1:=hy' (Ext.call ax.o);have C2:=hy' (Ext.call ba.o);have f0:=Ext.cells z0 (Nat.lt_trans (ZM _) aj);have f1:=Ext.cells z1 (Nat.lt_trans (ZM _) aj);have f2:=Ext.cells y0 aj;have f3:=Ext.cells y1 aj;have f4:=Ext.cells y2 aj;have f5:=Ext.cells a1 bn;clear ah a8 aq hq ax ba z0 z1 y0 y1 y2 a1 bo;rcases hb3:(q == 0) with _|_
 · have a6:decide (q=0)=false:=by simpa using hb3
   have ap:Hy (cm=false):=hy' (by rw[ag.o,a6];rfl);clear a6;go_enter func127,ntmps127;go_upto_region 1 with (fail)
   rw[ak.o];refine zAa (by kernel_rfl) (by kernel_rfl) ?_
   repeat (go_big_quiet_step ((first|(go_at_call 164;with_reducible exact C1.o _)|(go_at_call 77;with_reducible exact C2.o _))))
   refine wpQuiet_nil ?_;intro xw;have ar:=hy' (ae.o.trans (xw.below.mono ae.o.size));go_wp2_with fail;go_ret;exact⟨by rw[ap.o];rfl,ar.o⟩
 have bg:q=0:=beq_iff_eq.1 hb3;subst bg;have ap:Hy (cm=!C.mem S r.1):=hy' (by rw[ag.o];rfl);clear hb3;go_enter func127,ntmps127;go_upto_region 1 with (fail)
 rw[ak.o];refine zAa (by kernel_rfl) (by kernel_rfl) ?_
 repeat (go_big_quiet_step ((first|(go_at_call 164;with_reducible exact C1.o _)|(go_at_call 77;with_reducible exact C2.o _))))
 refine wpQuiet_nil ?_;intro xw;have ar:=hy' (ae.o.trans (xw.below.mono ae.o.size));go_wp2_with fail;go_ret;exact⟨by rw[ap.o];rfl,ar.o⟩
theorem zO2 (v:Value) (T:List Rw.Row) (S:List Int) (d:Int) (w:World) (ok:Md.Ok T) (h:Md.Is w v T S) (hS:C.srt S) (a6:S.length≤1000000) (h3 : -2147483648≤d) (h4:d≤2147483647) :
 Calls prog 87 #[v,.int .i32 d] w fun e w'=>e=.returned (.bool (zAt T (C.mem S) d))∧Below w.heap.size w w':=by
 obtain⟨A,c,XA,xc,rfl,h2,hX⟩:=id h;obtain⟨xn,hxn⟩:∃k,S.length=k:=⟨_,rfl⟩;obtain⟨n,hn⟩:∃k,T.length=k:=⟨_,rfl⟩;rw[hn,hxn]at h ⊢;have ap:Below w.heap.size w (w.alloc (.cells #[.slice A n c,.slice XA xn xc] 95)):=(Zd _ _).alloc (Za _) _;have ak:Rw.At (w.alloc (.cells #[.slice A n c,.slice XA xn xc] 95)) w.heap.size 95 [.slice A n c,.slice XA xn xc]:=Rw.At.new w 95 [.slice A n c,.slice XA xn xc];have HF:=hy' (zHa d ok (h.below ap) h3 h4);have HP:=hy' (zBZ d (w.alloc (.cells #[.slice A n c,.slice XA xn xc] 95)) h3 h4)
 have aa:Hy (∀(r:Rw.Row) (a:Option Addr × Nat) (W:World),Md.find T d=some r→Below w.heap.size w W→Sl W W.heap.size a.1 (r.2.2.map (Value.int .i32)) →
  Calls prog 127 #[.agg #[.slice A n c,.slice XA xn xc],zIo r a] W fun e w'=>e=.returned (.bool (zAf T (C.mem S) r))∧Below W.heap.size W w'):=hy' fun r a W hr hW aj=>by
  have hm:=(zAx hr).1;have hb:=ok.2.2.1 r hm;exact zJ1 _ T S r a.1 a.2 W ok (h.below hW) hS (by omega) hb.1 hb.2 (ok.2.2.2 r hm) aj
 have z0:=ak.cell 0 rfl;have z1:=ak.cell 1 rfl;have HB:=hy' ap;have az:=hy' ak;rcases hpk:zAl d with ⟨x,y,is⟩
 have hp:=HP.o;rw[hpk]at hp;have ao:=hy' hpk;obtain⟨o,ho⟩:∃o,zAt T (C.mem S) d=o:=⟨_,rfl⟩;rw[ho];have HO:=hy' ho;clear h h2 hX hxn hn ap ak hpk HP ho hS ok;unfold zB8 at HF ⊢;cases is
 rotate_left
 · have af:o=true:=by
    rw[←HO.o];unfold zAt;rw[ao.o];rfl
   have ag:=hy' af;clear af HF aa;go_enter func87,ntmps87;go_wp2_with fail;refine hp.mono ?_;rintro e w0 ⟨rfl,rfl⟩;go_wp2_with fail;go_ret;exact⟨by rw[ag.o];rfl,HB.o⟩
 go_enter func87,ntmps87;go_wp2_with fail;refine hp.mono ?_;rintro e w0 ⟨rfl,rfl⟩;go_wp2_with fail;refine HF.o.mono ?_;rintro e w1 ⟨a,rfl,aj,aq⟩;have ah:=hy' (HB.o.trans (aq.mono HB.o.size));have ae:=az.o.below aq;have ay:=hy' ae;have k0:=ae.cell 0 rfl;have k1:=ae.cell 1 rfl;have a1:=ae.lt;have ar:=hy' aj;clear aq aj z0 z1 hp ae HF;rcases hfi:Md.find T d with _|r
 · have hro:Md.rowOf T d=(0,0,[]):=by unfold Md.rowOf;rw[hfi];rfl
   have af:o=false:=by
    rw[←HO.o];unfold zAt;rw[ao.o,hfi];rfl
   have ag:=hy' af;rw[hro];clear hro hfi af;unfold zIo;go_wp2_with fail;go_ret;exact⟨by rw[ag.o];rfl,ah.o.alloc ah.o.size _⟩
 have hro:Md.rowOf T d=r:=by unfold Md.rowOf;rw[hfi];rfl
 rw[hro]at ar
 have af:o=zAf T (C.mem S) r:=by
  rw[←HO.o];unfold zAt;rw[ao.o,hfi];rfl
 have ag:=hy' af;have ai:Below w1.heap.size w1 (w1.alloc (.cells #[.int .i32 r.1,.int .i64 r.2.1,.slice a.1 r.2.2.length a.2] 103)):=(Zd _ _).alloc (Za _) _;have HC:=hy' (aa.o r a _ hfi (ah.o.trans (ai.mono ah.o.size)) (ar.o.below ai ai.size));have au:=hy' (ah.o.trans (ai.mono ah.o.size));rw[hro];obtain⟨cr,av⟩:∃b,zAf T (C.mem S) r=b:=⟨_,rfl⟩;rw[av]at HC ag;clear hro hfi af ai av ar aa;unfold zIo at HC ⊢;go_wp2_with fail;refine HC.o.mono ?_;rintro e wk ⟨rfl,aw⟩;have ax:=hy' (au.o.trans (aw.mono au.o.size));clear aw;go_wp2_with fail;go_ret;exact⟨by rw[ag.o];rfl,ax.o⟩
theorem zBv (c:Int) (w:World):Calls prog 38 #[.int .i32 c] w fun e w'=>e=.returned (.bool (C.isC c))∧w=w':=by
 have e:C.isC c=(decide (0≤c)&&decide (c≤1114111)&&(decide (c<55296)||decide (57343<c))):=by
  unfold C.isC;rw[Yx];simp;omega
 rw[e];clear e
 by_cases h1:0≤c <;> by_cases h2:c≤1114111 <;> by_cases h3:c<55296 <;> by_cases h4:57343<c
 all_goals
  first
   | (exfalso;omega)
   | (go_enter func38,ntmps38
      go_wp2;go_ret;exact⟨by simp[h1,h2,h3,h4],rfl⟩)
def zBg:Nat→ByteArray
 | 0=>⟨#[]⟩
 | 1=>⟨#[114,111,119]⟩
 | 2=>⟨#[104,97,110,103,117,108]⟩
 | 3=>⟨#[116,97,114,103,101,116]⟩
 | 4=>⟨#[102,117,108,108]⟩
 | _=>⟨#[112,97,105,114]⟩
def zHf (r:Rw.Row) (k:Nat):Bool:=(r.1::r.2.2.take k).any fun c=>decide (zA2 c≠0)
def zLe (r:Rw.Row) (k:Nat):Bool:=(r.2.2.take k).any fun c=>!C.isC c
theorem zPQ (r:Rw.Row):zHf r 0=decide (zA2 r.1≠0):=by simp[zHf]
theorem zPR {r:Rw.Row} {k:Nat} {x:Int} (h:r.2.2[k]?=some x):zHf r (k+1)=(zHf r k||decide (zA2 x≠0)):=by
 unfold zHf;rw[Zy,h,←ZN,QD];simp
theorem zPS {r:Rw.Row} {k:Nat} {x:Int} (h:r.2.2[k]?=some x):zLe r (k+1)=(zLe r k||!C.isC x):=by
 unfold zLe;rw[Zy,h,QD];simp
theorem zRd (last:Int) (r:Rw.Row):Md.bad last r=if (!C.isC r.1||decide (r.1≤last)||decide (r.2.1<0)||decide (254<r.2.1)||decide (2<r.2.2.length))=true then 1
 else if zHf r r.2.2.length=true then 2 else if zLe r r.2.2.length=true then 3 else 0:=by
 unfold Md.bad zHf zLe;rw[Q4]
theorem Md.row_any (r:Rw.Row) (aA:Option Addr) (ac:Nat) (last:Int) (w:World) (hr : -2147483648≤r.1∧r.1≤2147483647) (bi : -2147483648≤last∧last≤2147483647) (hm:∀c∈r.2.2,-2147483648≤c∧c≤2147483647) (hl:r.2.2.length≤1000000) (hM:Sl w w.heap.size aA (r.2.2.map (Value.int .i32))) :
 Calls prog 124 #[zIo r (aA,ac),.int .i32 last] w fun e w'=>e=.returned (.string (zBg (Md.bad last r)))∧Below w.heap.size w w':=by
 rw[zRd];obtain⟨ml,ar⟩:∃k,r.2.2.length=k:=⟨_,rfl⟩;have ag:=zPQ r;obtain⟨bl,h0⟩:∃b,zHf r 0=b:=⟨_,rfl⟩;unfold zIo;rw[ar]at hl ⊢;have ap:=hy' ar;obtain⟨res,ae⟩:∃n,(if (!C.isC r.1||decide (r.1≤last)||decide (r.2.1<0)||decide (254<r.2.1)||decide (2<ml))=true then 1 else if zHf r ml=true then 2 else if zLe r ml=true then 3 else 0)=n:=⟨_,rfl⟩;rw[ae];have aa:=hy' ae;clear ae;have aj:Below w.heap.size w (w.alloc (.cells #[.int .i32 r.1,.int .i64 r.2.1,.slice aA ml ac] 103)):=(Zd _ _).alloc (Za _) _;have ai:Rw.At (w.alloc (.cells #[.int .i32 r.1,.int .i64 r.2.1,.slice aA ml ac] 103)) w.heap.size 103 [.int .i32 r.1,.int .i64 r.2.1,.slice aA ml ac]:=Rw.At.new w 103 [.int .i32 r.1,.int .i64 r.2.1,.slice aA ml ac];have bj:=hy' ai;have HB:=hy' aj;have aw:=hM.below aj aj.size;have HS:=hy' aw;have a8:=hy' hm;have bh:=hy' ag;obtain⟨c0,c1,c2,_,_,_⟩:=ai.three;obtain⟨wa,au⟩:∃wa,w.alloc (.cells #[.int .i32 r.1,.int .i64 r.2.1,.slice aA ml ac] 103)=wa:=⟨_,rfl⟩;have av:=Hg.of_any r.1 wa hr.1 hr.2;have hU:=zBv r.1 wa;rw[au]at c0 c1 c2 ai;have bk:=ai.lt;have ak:=hy' au;have bf:=hr.1;have a7:=hr.2;obtain⟨bc,ah⟩:∃k,zA2 r.1=k:=⟨_,rfl⟩;rw[ah]at av
 have ax:zHf r 0=!(bc == 0):=by
  rw[ag,ah,Yx];simp
 have ba:=hy' ax;clear ar ag ai aj aw hM hm h0 hr au ah ax;go_enter func124,ntmps124;go_upto_region 1 with (fail)
 rw[ak.o];go_wp2_with fail;refine av.mono ?_;rintro e w0 ⟨rfl,rfl⟩;go_wp2_with fail;go_loop [5,6,16] (fun v5 v6 i=>∃k:Nat,k≤ml∧i=.int .i64 k∧v5=.bool (zHf r k)∧v6=.bool (zLe r k)) (fun _ _ i=>ml-(intOf i).toNat)
 case atStart=>exact⟨0,Zq _,rfl,by rw[ba.o];rfl,rfl⟩
 obtain⟨k,hk,rfl,rfl,rfl⟩:=hrel
 by_cases hlt':k<ml
 · obtain⟨x,hx⟩:∃x,r.2.2[k]?=some x:=⟨_,Zb (by rw[ap.o];exact hlt')⟩;have hxb:=a8.o x (Zj hx);obtain⟨ab,ao,hA,bg,ay⟩:=HS.o (by rw[Ze,ap.o];omega);have hc:=ay k (by rw[Ze,ap.o];exact hlt');rw[Zt,hx,Zw,ak.o]at hc;rw[ak.o]at bg;have h1:=zPR hx;have h2:=zPS hx;have hO:=Hg.of_any x wa hxb.1 hxb.2;have hI:=zBv x wa;obtain⟨ox,az⟩:∃k,zA2 x=k:=⟨_,rfl⟩;obtain⟨ix,a6⟩:∃k,C.isC x=k:=⟨_,rfl⟩;obtain⟨t,ht⟩:∃b,zHf r k=b:=⟨_,rfl⟩;obtain⟨s,hs⟩:∃b,zLe r k=b:=⟨_,rfl⟩;rw[az]at hO h1;rw[a6]at hI h2;rw[ht]at h1 ⊢;rw[hs]at h2 ⊢;have hd:decide (ox≠0)=!(ox == 0):=by rw[Yx];simp
   rw[hd]at h1;have H1:=hy' h1;have H2:=hy' h2;subst hA;clear hx ay az a6 ht hs h1 h2 hd;have bb:(k:Int)<ml:=by omega
   cases t <;> cases s
   all_goals
    go_wp2_with (first|(go_at_call 76;refine hO.mono ?_;rintro e w' ⟨rfl,rfl⟩)|(go_at_call 38;refine hI.mono ?_;rintro e w' ⟨rfl,rfl⟩)|fail);go_round
    case rel=>exact⟨k+1,by omega,by go_num,by rw[H1.o];rfl,by rw[H2.o];rfl⟩
    simp[intOf];omega
 obtain rfl:k=ml:=by omega
 have a1:Below w.heap.size w wa:=by rw[←ak.o];exact HB.o
 have af:=hy' a1;obtain⟨t,ht⟩:∃b,zHf r k=b:=⟨_,rfl⟩;obtain⟨s,hs⟩:∃b,zLe r k=b:=⟨_,rfl⟩;obtain⟨ic,aq⟩:∃b,C.isC r.1=b:=⟨_,rfl⟩;rw[ht,hs];rw[aq]at hU;have ae:=aa.o;rw[ht,hs,aq]at ae;clear aa;have aa:=hy' ae;clear a1 ht hs aq ae;cases ic
 · have he:1=res:=aa.o;subst he;go_wp2_with (first|(go_at_call 38;refine hU.mono ?_;rintro e w' ⟨rfl,rfl⟩)|fail);go_ret;exact⟨rfl,af.o⟩
 rcases hb2:decide (r.1≤last) with _|_
 rotate_left
 · have he:1=res:=by rw[←aa.o,hb2];rfl
   subst he;go_wp2_with (first|(go_at_call 38;refine hU.mono ?_;rintro e w' ⟨rfl,rfl⟩)|fail);go_ret;exact⟨rfl,af.o⟩
 rcases hb3:decide (r.2.1<0) with _|_
 rotate_left
 · have he:1=res:=by rw[←aa.o,hb2,hb3];rfl
   subst he;go_wp2_with (first|(go_at_call 38;refine hU.mono ?_;rintro e w' ⟨rfl,rfl⟩)|fail);go_ret;exact⟨rfl,af.o⟩
 rcases hb4:decide (254<r.2.1) with _|_
 · rcases hb5:decide (2<(k:Int)) with _|_
   · have h5:decide (2<k)=false:=by simp at hb5 ⊢;omega
     cases t
     · cases s
       · have he:0=res:=by rw[←aa.o,hb2,hb3,hb4,h5];rfl
         subst he;clear h5;go_wp2_with (first|(go_at_call 38;refine hU.mono ?_;rintro e w' ⟨rfl,rfl⟩)|fail);go_ret;exact⟨rfl,af.o⟩
       have he:3=res:=by rw[←aa.o,hb2,hb3,hb4,h5];rfl
       subst he;clear h5;go_wp2_with (first|(go_at_call 38;refine hU.mono ?_;rintro e w' ⟨rfl,rfl⟩)|fail);go_ret;exact⟨rfl,af.o⟩
     have he:2=res:=by rw[←aa.o,hb2,hb3,hb4,h5];rfl
     subst he;clear h5;go_wp2_with (first|(go_at_call 38;refine hU.mono ?_;rintro e w' ⟨rfl,rfl⟩)|fail);go_ret;exact⟨rfl,af.o⟩
   have h5:decide (2<k)=true:=by simp at hb5 ⊢;omega
   have he:1=res:=by rw[←aa.o,hb2,hb3,hb4,h5];rfl
   subst he;clear h5;go_wp2_with (first|(go_at_call 38;refine hU.mono ?_;rintro e w' ⟨rfl,rfl⟩)|fail);go_ret;exact⟨rfl,af.o⟩
 have he:1=res:=by rw[←aa.o,hb2,hb3,hb4];rfl
 subst he;go_wp2_with (first|(go_at_call 38;refine hU.mono ?_;rintro e w' ⟨rfl,rfl⟩)|fail);go_ret;exact⟨rfl,af.o⟩
end
section
open Go.RowKit Go.Stop
def F.Ch (w:World) (B:Nat):List (Nat × Int × Int × ByteArray)→Value→Prop
 | [],v=>v=.nilIface
 | (b,c,n,s)::t,v=>v=.iface 156 (.pointer (some ⟨b,0,none⟩))∧b<B∧∃e,w.heap[b]?=some (.cells #[.int .i64 c,.int .i64 n,.string s,e] 158 (0,0))∧F.Ch w B t e
def F.lk (q:List (Nat × Int × Int × ByteArray)):List (Int × Int × ByteArray):=q.map (·.2)
def zG9 (l:List (Int × Int × ByteArray)) (w:World) (e:Ending) (w':World):Prop :=
 ∃q v,e=.returned v∧F.lk q=l∧F.Ch w' w'.heap.size q v∧Below w.heap.size w w'
theorem zPi (c n:Int) (s:ByteArray) (w:World) :
 Calls prog 58 #[.int .i64 c,.int .i64 n,.string s] w (zG9 (if c=0 then [] else [(c,n,s)]) w):=by
 by_cases hc:c=0
 · rw[Zl hc];subst hc;go_enter func58,ntmps58;go_wp2;go_ret;exact⟨[],.nilIface,rfl,rfl,rfl,Zd _ _⟩
 rw[Zk hc];go_enter func58,ntmps58;go_wp2;go_ret;have hn:=ZW w (.cells #[.int .i64 c,.int .i64 n,.string s,.nilIface] 158);have hs:w.heap.size<(w.alloc (.cells #[.int .i64 c,.int .i64 n,.string s,.nilIface] 158)).heap.size:=by simp
 have aa:Below w.heap.size w (w.alloc (.cells #[.int .i64 c,.int .i64 n,.string s,.nilIface] 158)):=(Zd _ _).alloc (Za _) _;exact⟨[(w.heap.size,c,n,s)],_,rfl,rfl,⟨rfl,hs,.nilIface,hn,rfl⟩,aa⟩
theorem F.of_any (c:Int) (w:World) :
 Calls prog 27 #[.int .i64 c] w (zG9 (if c=0 then [] else [(c,0,⟨#[]⟩)]) w):=by
 have HA:=hy' (zPi c 0 ⟨#[]⟩ w);obtain⟨l,aa⟩:∃l,(if c=0 then [] else [(c,(0:Int),(⟨#[]⟩:ByteArray))])=l:=⟨_,rfl⟩;rw[aa]at HA ⊢;clear aa;go_enter func27,ntmps27;go_wp2_with fail;refine HA.o.mono ?_;rintro e w1 ⟨q,v,rfl,hl,hq,hb⟩;go_wp2;go_ret;exact⟨q,v,rfl,hl,hq,hb⟩
end
section
open Go.RowKit
theorem zCz (s:ByteArray) (w:World):Calls prog 125 #[.string s] w (zG9 [(8,0,s)] w):=by
 have HA:=hy' (zPi 8 0 s w);rw[Zk (by decide)]at HA;go_enter func125,ntmps125;go_wp2_with fail;refine HA.o.mono ?_;rintro e w1 ⟨q,v,rfl,hl,hq,hb⟩;go_wp2;go_ret;exact⟨q,v,rfl,hl,hq,hb⟩
def zMo (k:Nat):List (Int × Int × ByteArray):=if k=0 then [] else [(8,0,zBg k)]
theorem zDZ {k j:Nat} {W w w':World} {e:Ending} (hj:k=j) (h0:j≠0) (h:zG9 [(8,0,zBg j)] W e w') (hb:Below w.heap.size w W):zG9 (zMo k) w e w':=by
 subst hj;unfold zMo;rw[Zk h0];obtain⟨q,v,h1,h2,h3,h4⟩:=h;exact⟨q,v,h1,h2,h3,hb.trans (h4.mono hb.size)⟩
theorem zPT {k:Nat} {w w':World} (hk:k=0) (hb:Below w.heap.size w w'):zG9 (zMo k) w (.returned .nilIface) w':=by
 subst hk;exact⟨[],.nilIface,rfl,rfl,rfl,hb⟩
theorem zDz {α:Type} {l:List α} {k:Nat} {x:α} (h:l[k]?=some x):l.drop k=x::l.drop (k+1):=by
 obtain⟨h1,rfl⟩:=List.getElem?_eq_some_iff.1 h;exact ZJ h1
theorem zLf {x:Int} (h1 : -2147483648≤x) (h2:x≤2147483647):(Lit.int .i32 x).wf=true:=by
 simp only[Lit.wf,Zr,Zo];exact⟨Yd (by decide) h1,Yd h2 (by decide)⟩
def zEO (x y:Int):Value:=.agg #[.int .i32 x,.int .i32 y]
theorem zRe {x y x' y':Int}:zEO x y=zEO x' y'↔x=x'∧y=y':=by simp[zEO]
theorem zKr:Go.WideMaps.ArrKey prog 226 21 2:=⟨underlying226,by kernel_rfl,by kernel_rfl,by kernel_rfl⟩
theorem zPj:Go.Maps.Keyed prog 226:=JB zKr.law
theorem Md.pk_key {x y:Int} (hx : -2147483648≤x∧x≤2147483647) (hy : -2147483648≤y∧y≤2147483647):∃l,keyOf prog 226 (zEO x y)=some l:=by
 refine zMf zKr underlying21 ⟨380-1,by kernel_rfl⟩ [x,y] rfl fun z hz=>?_
 simp only[XP,Xa,J7]at hz;rcases hz with rfl|rfl
 · exact zLf hx.1 hx.2
 exact zLf hy.1 hy.2
def Md.Seen (F:Value→Option Value) (seen:List (List Int)):Prop:=∀x y,(F (zEO x y)).isSome=seen.contains [x,y]
theorem Md.Seen.look {w:World} {b:Nat} {F:Value→Option Value} {seen:List (List Int)} (h:Mp.Is prog 226 w b F) (hs:Md.Seen F seen) {x y:Int} (hx : -2147483648≤x∧x≤2147483647) (hy : -2147483648≤y∧y≤2147483647) :
 ∃v,(Instr.lookup 224 (.map (some b)) (.agg #[.int .i32 x,.int .i32 y]) true).run prog w=.ok (.tuple #[v,.bool (seen.contains [x,y])]) w:=by
 obtain⟨l,hl⟩:=Md.pk_key hx hy;have hz:(zeroValue 21).run prog w=.ok (.int .i32 0) w:=by kernel_rfl
 have:=h.look zPj underlying224 hz hl true;rw[Zl rfl,hs x y]at this;exact⟨_,this⟩
theorem Md.Seen.put {w:World} {b:Nat} {F:Value→Option Value} {seen:List (List Int)} (h:Mp.Is prog 226 w b F) (hs:Md.Seen F seen) {x y:Int} (hx : -2147483648≤x∧x≤2147483647) (hy : -2147483648≤y∧y≤2147483647) (v:Value) :
 ∃w' F',(Instr.mapUpdate 224 (.map (some b)) (.agg #[.int .i32 x,.int .i32 y]) v).run prog w=.ok () w'∧Mp.Is prog 226 w' b F'∧Md.Seen F' (seen++[[x,y]])∧w.grownBy w' (some b):=by
 obtain⟨l,hl⟩:=Md.pk_key hx hy
 obtain⟨F',h1,h2⟩:∃F':Value→Option Value,F' (zEO x y)=some v∧∀z,z≠zEO x y→F' z=F z:=by
  classical
  exact⟨fun z=>if z=zEO x y then some v else F z,by simp,fun z hz=>by simp[hz]⟩
 obtain⟨w',g1,g2,g3⟩:=h.put zPj underlying224 hl F' h1 h2;refine⟨w',F',g1,g2,fun x' y'=>?_,g3⟩
 by_cases e:x'=x∧y'=y
 · obtain⟨rfl,rfl⟩:=e;rw[h1];simp
 rw[h2 _ (fun e'=>e (zRe.1 e')),hs x' y'];simp;intro e1 e2;exact absurd ⟨e1,e2⟩ e
theorem zLg {T:List Rw.Row} {X:Int→Bool} {seen:List (List Int)} {r:Rw.Row} {l:List Rw.Row} {a:Bool} (h:a=zBF T X seen (r::l)) :
 a=if zAf T X r=true then (seen.contains r.2.2||zBF T X (seen++[r.2.2]) l) else zBF T X seen l:=by rw[h,zBF]
theorem zMp (v:Value) (T:List Rw.Row) (S:List Int) (w:World) (ey:T.length≤1000000) (hbd:Md.bd T) (eb:∀r∈T,r.2.2.length≤1000000) (h:Md.Is w v T S) (hS:C.srt S) (e5:S.length≤1000000) :
 Calls prog 84 #[v] w (zG9 (zMo (Md.chk T (C.mem S))) w):=by
 obtain⟨A,c,XA,xc,rfl,h2,hX⟩:=id h;obtain⟨xn,hxn⟩:∃k,S.length=k:=⟨_,rfl⟩;obtain⟨n,hn⟩:∃k,T.length=k:=⟨_,rfl⟩;have dv:=hy' h;rw[hn,hxn]at dv ⊢;obtain⟨res,bz⟩:∃k,Md.chk T (C.mem S)=k:=⟨_,rfl⟩;rw[bz];rw[hn]at ey;have cw:Below w.heap.size w (w.alloc (.cells #[.slice A n c,.slice XA xn xc] 95)):=(Zd _ _).alloc (Za _) _;have cq:Rw.At (w.alloc (.cells #[.slice A n c,.slice XA xn xc] 95)) w.heap.size 95 [.slice A n c,.slice XA xn xc]:=Rw.At.new w 95 [.slice A n c,.slice XA xn xc];obtain⟨wa,dp⟩:∃wa,w.alloc (.cells #[.slice A n c,.slice XA xn xc] 95)=wa:=⟨_,rfl⟩;rw[dp]at cw cq;have cb:=h2.below cw;have z0:=cq.cell 0 rfl;have z1:=cq.cell 1 rfl;have e8:=hy' dp;have ah:=hy' cw;have fe:=hy' cq;have bs:=hy' cb;have HN:=hy' hn;have gb:=hy' hxn;have a1:=hy' bz;have ct:=hy' hbd;have df:=hy' eb;have fj:=hy' hS;clear dp cw cq cb hn hxn bz hbd eb h h2 hX hS;unfold zB8 at *;go_enter func84,ntmps84;go_upto_region 1 with (fail)
 rw[e8.o];go_wp2_with fail;go_loopw [3,20] (fun v3 i wr=>∃(k:Nat) (last:Int),k≤n∧i=.int .i64 k∧v3=.int .i32 last∧(-2147483648≤last∧last≤2147483647)∧zAz (-1) T=zAz last (T.drop k)∧Below wa.heap.size wa wr) (fun _ i _=>n-(intOf i).toNat)
 case atStart=>exact⟨0,-1,Zq _,rfl,rfl,by omega,rfl,Zd _ _⟩
 obtain⟨k,last,hk,rfl,rfl,b8,ag,aw⟩:=hrel;have aa:=fe.o.below aw;have z0:=aa.cell 0 rfl;have z1:=aa.cell 1 rfl;have cm:=hy' ag;have b6:=hy' aw;have dl:=hy' aa;clear ag aa
 by_cases hlt:k<n
 · obtain⟨r,hr⟩:∃r,T[k]?=some r:=⟨_,Zb (by rw[HN.o];exact hlt)⟩;have a6:=Zj hr;have ag:=ct.o r a6;obtain⟨b,o,a,cg,hb,c0,c1,c2,bc⟩:=(bs.o.below aw).row hr;have ap:Below wr.heap.size wr (wr.alloc (.cells #[.int .i32 r.1,.int .i64 r.2.1,.slice a.1 r.2.2.length a.2] 103)):=(Zd _ _).alloc (Za _) _;have bn:=hy' (Md.row_any r a.1 a.2 last (wr.alloc (.cells #[.int .i32 r.1,.int .i64 r.2.1,.slice a.1 r.2.2.length a.2] 103)) ag.1 b8 ag.2 (df.o r a6) (bc.below ap ap.size));have af:=Rw.At.new wr 103 [.int .i32 r.1,.int .i64 r.2.1,.slice a.1 r.2.2.length a.2];have bp:=hy' af;have cj:=hy' (aw.trans (ap.mono aw.size));have hd:=zDz hr;have bb:=cm.o;rw[hd,zAz]at bb;have cz:=zQW last r;obtain⟨bd,hbd⟩:∃k,Md.bad last r=k:=⟨_,rfl⟩;rw[hbd]at bb bn cz;have a7:=hy' bb;have ez:(k:Int)<n:=by omega
   have ej:(0:Int)≤k:=by omega
   subst cg;unfold zIo at bn;have cx:=ag.1.1;have du:=ag.1.2;clear hr a6 ag bc ap af hd bb hbd aw;go_wp2_with fail;refine bn.o.mono ?_;rintro e w1 ⟨rfl,dh⟩;have bk:=bp.o.below dh;obtain⟨y0,y1,y2,_,_,_⟩:=bk.three;have cu:=hy' (cj.o.trans (dh.mono cj.o.size));have fh:=bk.lt;clear dh c0 c1 c2 z0 z1;rcases bd with _|_|_|_|bd
   · have dm:(zBg 0).toList.isEmpty=true:=by kernel_rfl
     have bg:zAz (-1) T=zAz r.1 (T.drop (k+1)):=by rw[a7.o];rfl
     have b5:=hy' bg;clear bg;go_wp2_with fail;exact⟨⟨k+1,r.1,by omega,by go_num,rfl,⟨cx,du⟩,b5.o,cu.o⟩,by simp[intOf];omega⟩
   · have dm:(zBg 1).toList.isEmpty=false:=by kernel_rfl
     have ar:res=1:=by rw[←a1.o];unfold Md.chk;rw[a7.o];rfl
     have a8:=hy' ar;clear ar;go_wp2_with fail;refine (zCz _ _).mono ?_;rintro e w2 ⟨q,v,rfl,g1,g2,g3⟩;go_wp2_with fail;go_ret;exact zDZ a8.o (by decide) ⟨q,v,rfl,g1,g2,g3⟩ (ah.o.trans (cu.o.mono ah.o.size))
   · have dm:(zBg 2).toList.isEmpty=false:=by kernel_rfl
     have ar:res=2:=by rw[←a1.o];unfold Md.chk;rw[a7.o];rfl
     have a8:=hy' ar;clear ar;go_wp2_with fail;refine (zCz _ _).mono ?_;rintro e w2 ⟨q,v,rfl,g1,g2,g3⟩;go_wp2_with fail;go_ret;exact zDZ a8.o (by decide) ⟨q,v,rfl,g1,g2,g3⟩ (ah.o.trans (cu.o.mono ah.o.size))
   · have dm:(zBg 3).toList.isEmpty=false:=by kernel_rfl
     have ar:res=3:=by rw[←a1.o];unfold Md.chk;rw[a7.o];rfl
     have a8:=hy' ar;clear ar;go_wp2_with fail;refine (zCz _ _).mono ?_;rintro e w2 ⟨q,v,rfl,g1,g2,g3⟩;go_wp2_with fail;go_ret;exact zDZ a8.o (by decide) ⟨q,v,rfl,g1,g2,g3⟩ (ah.o.trans (cu.o.mono ah.o.size))
   omega
 obtain rfl:n=k:=by omega
 have hz:zAz (-1) T=0:=by
  rw[cm.o,XJ (by rw[HN.o];exact Za _)];rfl
 obtain⟨cc,bj⟩:=zCd T (-1) hz;have ee:Md.Ok T:=⟨by rw[HN.o];exact ey,bj,ct.o,df.o⟩;have HZ:=hy' hz;have eu:=hy' ee;obtain⟨wb,rfl⟩:∃wb:World,wb=wr:=⟨_,rfl⟩;have dz:∀c,zBV (Md.mp T) (T.length+3) [] c=Md.full T c:=fun _=>rfl
 have e1:=hy' dz;clear hz cc bj ee dz hlt;go_wp2_with fail;go_loopw [37] (fun i wr=>∃k:Nat,k≤n∧i=.int .i64 k∧(∀r∈T.take k,(Md.full T r.1).isSome=true)∧Below wb.heap.size wb wr) (fun i _=>n-(intOf i).toNat)
 case atStart=>exact⟨0,Zq _,rfl,fun r hr=>by simp at hr,Zd _ _⟩
 obtain⟨k,hk,rfl,ax,au⟩:=hrel;have aa:=dl.o.below au;have y0:=aa.cell 0 rfl;have y1:=aa.cell 1 rfl;have bt:=hy' ax;have bl:=b6.o.trans (au.mono b6.o.size);have ae:=hy' bl;have bh:=hy' aa;have bi:=hy' au;have fg:=aa.lt;clear ax aa au z0 z1
 by_cases hlt:k<n
 · obtain⟨r,hr⟩:∃r,T[k]?=some r:=⟨_,Zb (by rw[HN.o];exact hlt)⟩;have a6:=Zj hr;have ag:=ct.o r a6;obtain⟨b,o,a,cg,hb,c0,c1,c2,bc⟩:=(bs.o.below bl).row hr;have ap:Below wr.heap.size wr (wr.alloc (.cells #[.int .i32 r.1,.int .i64 r.2.1,.slice a.1 r.2.2.length a.2] 103)):=(Zd _ _).alloc (Za _) _;have b2:=ae.o.trans (ap.mono ae.o.size);have hE:=zHe T S (wr.alloc (.cells #[.int .i32 r.1,.int .i64 r.2.1,.slice a.1 r.2.2.length a.2] 103)) _ eu.o (dv.o.below (ah.o.trans (b2.mono ah.o.size))) (T.length+3) [] (.slice none 0 0) r.1 0 _ (by omega) ag.1.1 ag.1.2 (by simp) (Zd _ _) (ZG _ _ _ _);rw[e1.o]at hE;have ck:=hy' b2;have ec:=hy' (bi.o.trans (ap.mono bi.o.size));have af:=Rw.At.new wr 103 [.int .i32 r.1,.int .i64 r.2.1,.slice a.1 r.2.2.length a.2];obtain⟨x0,x1,x2,_,_,_⟩:=af.three;have ez:(k:Int)<n:=by omega
   have ej:(0:Int)≤k:=by omega
   obtain⟨fo,dx⟩:∃fo,Md.full T r.1=fo:=⟨_,rfl⟩;rw[dx]at hE;have ea:=hy' dx;have HR:=hy' hr;have e4:=hy' a6;subst cg;clear hr a6 ag bc ap b2 af dx;go_wp2_with fail;refine hE.mono ?_;rintro e w2 ⟨A1,n1,fy,rfl,_,hg⟩;have dy:=ec.o.trans (zAj hg ec.o.size fun k hk=>by cases hk);have cy:=hy' dy;have ba:=hy' (ck.out.trans (zAj hg ck.out.size fun k hk=>by cases hk));clear dy hg hE x0 x1 x2 y0 y1 c0 c1 c2;rcases fo with _|fl
   · have ar:res=4:=by
      rw[←a1.o];unfold Md.chk
      have:zBn T=true:=by
       unfold zBn;rw[YG];exact⟨r,e4.o,by rw[ea.o];rfl⟩
      rw[Zk (by rw[HZ.o];simp),Zl this]
     have a8:=hy' ar;clear ar;go_wp2_with fail;refine (zCz _ _).mono ?_;rintro e w3 ⟨q,v,rfl,g1,g2,g3⟩;go_wp2_with fail;go_ret;exact zDZ a8.o (by decide) ⟨q,v,rfl,g1,g2,g3⟩ (ah.o.trans (ba.o.mono ah.o.size))
   have ax:∀r∈T.take (k+1),(Md.full T r.1).isSome=true:=by
    rw[Zy,HR.o];intro q hq;rcases List.mem_append.1 hq with hq|hq
    · exact bt.o q hq
    simp at hq;subst hq;rw[ea.o];rfl
   have b9:=hy' ax;clear ax;go_wp2_with fail;exact⟨⟨k+1,by omega,by go_num,b9.o,cy.o⟩,by simp[intOf];omega⟩
 obtain rfl:n=k:=by omega
 have et:zBn T=false:=by
  unfold zBn;rw[XT];intro r hr;have:=bt.o r (by rw[Zi (by rw[HN.o];exact Za _)];exact hr);cases hf:Md.full T r.1 with
  | none=>rw[hf]at this;cases this
  | some l=>simp
 have cf:res=if zBF T (C.mem S) [] T=true then 5 else 0:=by
  rw[←a1.o];unfold Md.chk;rw[Zk (by rw[HZ.o];simp),Zk (by rw[et];simp)]
 have ep:=hy' cf;obtain⟨wz,rfl⟩:∃wz:World,wz=wr:=⟨_,rfl⟩;clear et cf hlt bt;have fx:=@JC prog;have az:=Mp.Is.made wz prog 226;have dc:Below wz.heap.size wz (wz.alloc (.map #[] 0)):=(Zd _ _).alloc (Za _) _;have bo:=bh.o.alloc (.map #[] 0);have w0:=bo.cell 0 rfl;have w1:=bo.cell 1 rfl;obtain⟨wm,c7⟩:∃wm,wz.alloc (.map #[] 0)=wm:=⟨_,rfl⟩;rw[c7]at az dc w0 w1;have e2:=hy' c7;have cn:=hy' az;have fq:=hy' dc;clear az dc bo c7;go_upto_region 18 with (fail)
 rw[e2.o];go_wp2_with fail;go_loopw [56] (fun i wr=>∃(k:Nat) (F:Value→Option Value),k≤n∧i=.int .i64 k∧zBF T (C.mem S) [] T=zBF T (C.mem S) (((T.take k).filter (zAf T (C.mem S))).map fun r=>r.2.2) (T.drop k)∧Mp.Is prog 226 wr wz.heap.size F∧Md.Seen F (((T.take k).filter (zAf T (C.mem S))).map fun r=>r.2.2)∧Below wz.heap.size wz wr) (fun i _=>n-(intOf i).toNat)
 case atStart=>exact⟨0,fun _=>none,Zq _,rfl,rfl,cn.o,fun x y=>rfl,fq.o⟩
 obtain⟨k,F,hk,rfl,b3,bq,bm,av⟩:=hrel;have aa:=bh.o.below av;have y0:=aa.cell 0 rfl;have y1:=aa.cell 1 rfl;have dt:=hy' b3;have cd:=hy' bq;have ak:=hy' bm;have bf:=ae.o.trans (av.mono ae.o.size);have aj:=hy' av;have ay:=hy' bf;have fm:=aa.lt;have e3:=bq.lt;clear b3 bq bm aa av w0 w1;obtain⟨seen,dk⟩:∃seen,(((T.take k).filter (zAf T (C.mem S))).map fun r=>r.2.2)=seen:=⟨_,rfl⟩;rw[dk]at dt ak;have e0:=hy' dk;clear dk
 by_cases hlt:k<n
 rotate_left
 · obtain rfl:n=k:=by omega
   have cf:res=0:=by
    rw[ep.o,dt.o,XJ (by rw[HN.o];exact Za _)];rfl
   have dw:=hy' cf;clear cf hlt;go_wp2_with fail;go_ret;exact zPT dw.o (ah.o.trans (ay.o.mono ah.o.size))
 obtain⟨r,hr⟩:∃r,T[k]?=some r:=⟨_,Zb (by rw[HN.o];exact hlt)⟩;have a6:=Zj hr;have ag:=ct.o r a6;obtain⟨b,o,a,cg,hb,c0,c1,c2,bc⟩:=(bs.o.below bf).row hr;have ap:Below wr.heap.size wr (wr.alloc (.cells #[.int .i32 r.1,.int .i64 r.2.1,.slice a.1 r.2.2.length a.2] 103)):=(Zd _ _).alloc (Za _) _;have b2:=ay.o.trans (ap.mono ay.o.size);have hC:=zJ1 _ T S r a.1 a.2 (wr.alloc (.cells #[.int .i32 r.1,.int .i64 r.2.1,.slice a.1 r.2.2.length a.2] 103)) eu.o (dv.o.below (ah.o.trans (b2.mono ah.o.size))) fj.o e5 ag.1 ag.2 (df.o r a6) (bc.below ap ap.size);have cj:=hy' ap;have af:=Rw.At.new wr 103 [.int .i32 r.1,.int .i64 r.2.1,.slice a.1 r.2.2.length a.2];obtain⟨x0,x1,x2,_,_,_⟩:=af.three;have bp:=hy' af;have ez:(k:Int)<n:=by omega
 have ej:(0:Int)≤k:=by omega
 have b3:=dt.o;rw[zDz hr]at b3;have bx:=hy' (zLg b3)
 have eh:(((T.take (k+1)).filter (zAf T (C.mem S))).map fun r=>r.2.2)=if zAf T (C.mem S) r=true then seen++[r.2.2] else seen:=by
  rw[Zy,hr,YL,ZL,e0.o]
  by_cases hc:zAf T (C.mem S) r=true
  · simp[hc]
  simp[hc]
 have b4:=hy' eh
 have ek:zAf T (C.mem S) r=true→∃x y,r.2.2=[x,y]:=by
  intro hc;unfold zAf at hc;simp only[Zr,Zo]at hc;have h2:=hc.2.1
  match hh:r.2.2,h2 with
  | [x,y],_=>exact⟨x,y,rfl⟩
 have ef:=hy' ek;obtain⟨cr,er⟩:∃cr,zAf T (C.mem S) r=cr:=⟨_,rfl⟩;rw[er]at hC bx b4 ef;have cm:=hy' ag;have fu:=hy' bc;subst cg;unfold zIo at hC;clear hr a6 ag bc ap b2 af b3 eh ek er;go_wp2_with fail;refine hC.mono ?_;rintro e w2 ⟨rfl,c8⟩;have b7:=cj.o.trans (c8.mono cj.o.size);have ba:=hy' b7;have aq:=bp.o.below c8;obtain⟨x0,x1,x2,_,_,_⟩:=aq.three;have ei:=hy' aq;have fk:=aq.lt;clear c8 b7 aq hC y0 y1 c0 c1 c2;cases cr
 · have b1:=bx.o;rw[Zk (by decide)]at b1;have br:=b4.o;rw[Zk (by decide)]at br;have fp:=hy' b1;have ew:=hy' br;clear b1 br;go_wp2_with fail;exact⟨⟨k+1,F,by omega,by go_num,by rw[ew.o];exact fp.o,cd.o.below ba.o,by rw[ew.o];exact ak.o,aj.o.trans (ba.o.mono aj.o.size)⟩,by simp[intOf];omega⟩
 obtain⟨x,y,bw⟩:=ef.o rfl;have hlen:r.2.2.length=2:=by rw[bw];rfl
 have hxb:=cm.o.2 x (by rw[bw];simp);have en:=cm.o.2 y (by rw[bw];simp);have bu:=fu.o.below ba.o ba.o.size;rw[bw]at bu;obtain⟨ab,ao,hA2,fz,c6⟩:=bu (by simp);have d0:w2.cell? ⟨ab,ao,none⟩=some (.int .i32 x):=by simpa using c6 0 (by simp)
 have d1:w2.cell? ⟨ab,ao+1,none⟩=some (.int .i32 y):=by simpa using c6 1 (by simp)
 rw[hA2,hlen]at x2;rw[bw]at bx b4;rw[Zl rfl]at bx b4;have fw:=hy' bw;clear c6 bu bw;have e7:∀(A:Option Addr) (cp:Nat) (W:World),(Instr.arrayAt 226 (.slice A 2 cp)).run prog W=.ok (.pointer A) W:=fun _ _ _=>by kernel_rfl
 have dn:Below w2.heap.size w2 (w2.alloc (.cells #[.int .i32 x,.int .i32 y] 226)):=(Zd _ _).alloc (Za _) _;have hmx:=(cd.o.below ba.o).below dn;obtain⟨lv,e9⟩:=Md.Seen.look hmx ak.o hxb en;obtain⟨w4,F',dr,eo,eg,ed⟩:=Md.Seen.put hmx ak.o hxb en (.int .i32 r.1);have cv:Below wz.heap.size wz (w2.alloc (.cells #[.int .i32 x,.int .i32 y] 226)):=aj.o.trans ((ba.o.trans (dn.mono ba.o.size)).mono aj.o.size);have cy:=hy' (cv.trans (zAj ed cv.size fun k hk=>by cases hk;exact Za _));have fc:=hy' cv;have ft:=hy' eo;have e6:=hy' eg;obtain⟨tw,ch⟩:∃tw,seen.contains [x,y]=tw:=⟨_,rfl⟩;rw[ch]at e9 bx;clear dn hmx eo eg ed cv ch;cases tw
 · have ai:=bx.o;rw[Y3]at ai;have di:=hy' ai;clear ai;go_wp2_with fail;exact⟨⟨k+1,F',by omega,by go_num,by rw[b4.o];exact di.o,ft.o,by rw[b4.o];exact e6.o,cy.o⟩,by simp[intOf];omega⟩
 have ai:=bx.o;rw[Xv]at ai;have ar:res=5:=by rw[ep.o,Zl ai]
 have a8:=hy' ar;clear ai ar dr;go_wp2_with fail;refine (zCz _ _).mono ?_;rintro e w3 ⟨q,v,rfl,g1,g2,g3⟩;go_wp2_with fail;go_ret;exact zDZ a8.o (by decide) ⟨q,v,rfl,g1,g2,g3⟩ (ah.o.trans ((ae.o.trans (fc.o.mono ae.o.size)).mono ah.o.size))
end
def Pg.ok (c:Int):Bool:=decide (0≤c∧c≤1114111)
theorem zEX (L:List (Int × Int)) (x:Int × Int) (c:Int):Pg.last (L++[x]) c=if x.1=c then x.2 else Pg.last L c:=by
 unfold Pg.last;rw[Y4];rfl
theorem zO3 (L:List (Int × Int)) (x:Int × Int) (h:Pg.ok x.1=false) {m:Nat} (hm:m<4352):zAc (Pg.last (L++[x])) m=zAc (Pg.last L) m:=by
 unfold zAc;refine YR fun i hi=>?_
 have hi:=List.mem_range.1 hi;rw[zEX,Zk];intro e;unfold Pg.ok at h;rw[Z2]at h;omega
theorem zMq (L:List (Int × Int)) (x:Int × Int) {m n:Nat} (hn:x.1/256=(n:Int)) (hne:m≠n):zAc (Pg.last (L++[x])) m=zAc (Pg.last L) m:=by
 unfold zAc;refine YR fun i hi=>?_
 have hi:=List.mem_range.1 hi;rw[zEX,Zk];intro e;omega
theorem zPU (L:List (Int × Int)) (x:Int × Int) {n j:Nat} (hn:x.1/256=(n:Int)) (hj:x.1%256=(j:Int)):zAc (Pg.last (L++[x])) n=(zAc (Pg.last L) n).set j x.2:=by
 refine XU fun i=>?_
 rw[XV,zBo]
 by_cases hi:i<256
 · rw[zH5 _ _ hi,zH5 _ _ hi,zEX]
   by_cases e:j=i
   · subst e;rw[Zl (by omega),Zl rfl,Zl hi]
   rw[Zk (by omega),Zk e]
 rw[Yn (by rw[zBo];omega)];split
 · rw[Zk (by omega)]
 rw[Yn (by rw[zBo];omega)]
theorem zJ2 (n:Nat):zAc (Pg.last []) n=zAn:=by
 unfold zAc zAn;refine XU fun i=>?_
 by_cases hi:i<256
 · rw[Zt,X8 hi,Q5,Zl hi];rfl
 rw[Yn (by rw[Ze,Ka];omega),Yn (by rw[Yh];omega)]
def zCK (bl:List (List Int)) (b:List Int):Option Nat:=if b∈bl then some (Pg.at bl b) else none
theorem zMr {bl:List (List Int)} {b:List Int} (h:b∉bl) (x:List Int):zCK (Pg.add bl b) x=if x=b then some bl.length else zCK bl x:=by
 unfold zCK
 by_cases hx:x=b
 · subst hx;rw[Zl (zFr.2 (.inr rfl)),Zl rfl];unfold Pg.add Pg.at;rw[Zk h,J8,Zk h];simp
 rw[Zk hx]
 by_cases hm:x∈bl
 · rw[Zl (zFr.2 (.inl hm)),Zl hm,zMc hm]
 rw[Zk fun h'=>(zFr.1 h').elim hm hx,Zk hm]
theorem zHL {bl:List (List Int)} {b:List Int} (h:b∈bl):Pg.add bl b=bl:=Zl h
theorem zPV {bl:List (List Int)} {b:List Int} (h:b∉bl):Pg.add bl b=bl++[b]:=Zk h
theorem zMs (f:Int→Int) (m:Nat):zAn∈zAr f m:=(zDT f m _).2 (.inl rfl)
theorem zO4 (f:Int→Int) (m:Nat):Pg.at (zAr f m) zAn=0:=by
 have h:=zIT f m
 obtain⟨l,hl⟩:∃l,zAr f m=zAn::l:=by
  cases hb:zAr f m with
  | nil=>rw[hb]at h;cases h
  | cons y l=>rw[hb]at h;simp at h;exact⟨l,by rw[h]⟩
 rw[hl];unfold Pg.at;simp
def zAQ (f:Int→Int) (m:Nat):List Int:=Pg.idx f m++List.replicate (4352-m) 0
theorem zAR (f:Int→Int) {m:Nat} (h:m≤4352):(zAQ f m).length=4352:=by
 unfold zAQ;rw[Zc,zCn,Yh];omega
theorem zO5 (f:Int→Int):zAQ f 4352=Pg.idx f 4352:=by unfold zAQ;simp
theorem zJ3 (f:Int→Int) {m:Nat} (h:m<4352):zAQ f (m+1)=(zAQ f m).set m (Pg.at (zAr f (m+1)) (zAc f m):Int):=by
 unfold zAQ;rw[zNN,show 4352-m=(4352-(m+1))+1 by omega,List.replicate_succ,Zz,Y9 _ _ (by rw[zCn];exact Za _),zCn,Yu];rfl
theorem zMt (f:Int→Int) {m:Nat} (h:m<4352) (hb:zAc f m=zAn):zAr f (m+1)=zAr f m∧zAQ f (m+1)=zAQ f m:=by
 have h1:zAr f (m+1)=zAr f m:=by rw[zAr,hb,zHL (zMs f m)]
 refine⟨h1,?_⟩;rw[zJ3 f h,h1,hb,zO4];refine XU fun i=>?_
 rw[XV]
 by_cases e:m=i
 · subst e;rw[Zl rfl,Zl (by rw[zAR f (by omega)];exact h)];unfold zAQ;rw[ZO (by rw[zCn];exact Za _),zCn,Yu,Q5,Zl (by omega)];rfl
 rw[Zk e]
section
open Go.RowKit
theorem zO6 {P:Program} (w:World) (t:TypeId) (d:TypeDesc) (b o n:Nat) (xs:List Value) (hx:xs.length=n) (hc:∀(j:Nat) v,xs[j]?=some v→w.cell? ⟨b,o+j,none⟩=some v)
 (hu:P.underlying t=some d) (hd:(match d with | .struct _ | .array _ _=>true|_=>false)=true) (hi:(P.info? t).map (·.size)=some n) :
 (Instr.loadAt t (.pointer (some ⟨b,o,none⟩))).run P w=.ok (.agg xs.toArray) w:=by
 have hl:(loadCells ⟨b,o,none⟩ xs.length).run P w=.ok xs.toArray w :=
  run_loadCells_list (P:=P) w ⟨b,o,none⟩ xs (fun j v hv=>by
   have ae:(⟨b,o,none⟩:Addr).add j=⟨b,o+j,none⟩:=by unfold Addr.add;split <;> simp_all
   rw[ae];exact hc j v hv)
 subst hx;have aa:(isAgg t).run P w=.ok true w:=by cases d <;> simp at hd <;> simp[isAgg,Xn hu]
 simp only[Instr.loadAt,Instr.sureAddr,YC,Ys,Result.andThen];cases hq:P.info? t with
 | none=>simp[hq]at hi
 | some i =>
   have hs:i.size=xs.length:=by simp[hq]at hi;omega
   simp[loadVar,YC,aa,sizeOf,typeInfo,hq,hs,hl]
theorem zPW {P:Program} {o:Oper} {a:Act} {w:World} {K:Act→World→Prop} {Q:Exit→Act→World→Prop} (t:TypeId) (x:Operand) (ho:o.op=.load t x) (v u:Value) (hx:a.eval x=v)
 (hr:(Instr.loadAt t v).run P w=.ok u w) (h:K (a.put o.dst u) w):o.wp P a w K Q:=by
 unfold Oper.wp execOp;subst hx;simp only[ho,YC,hr,Yt,Ys];exact h
theorem zFR {P:Program} {ops:Array Oper} {rest:List Oper} {o:Oper} {a:Act} {w:World} {Q:Exit→Act→World→Prop} (aa:o.guard=none) (t:TypeId) (x:Operand) (ho:o.op=.load t x) (v u:Value) (hx:a.eval x=v)
 (hr:(Instr.loadAt t v).run P w=.ok u w) (h:wpList P ops Q rest (a.put o.dst u) w):wpList P ops Q (o::rest) a w :=
 Jc aa fun _ hK=>zPW t x ho v u hx hr (hK _ _ h)
theorem zPX:(prog.info? 201).map (·.size)=some 256:=by kernel_rfl
theorem zSi:(prog.info? 165).map (fun i=>(i.zero,i.size,i.bytes))=some (some (.agg #[.int .i32 0,.int .u16 0]),2,8):=by kernel_rfl
def zHg (L:List (Int × Int)):Prop:=∀x∈L,-2147483648≤x.1∧x.1≤2147483647∧0≤x.2∧x.2≤65535
def Pg.IsL (lo:Nat) (w:World) (v:Value) (idx:List Int) (bl:List (List Int)):Prop :=
 ∃g A c,v=.pointer (some ⟨g,0,none⟩)∧lo≤g∧Rw.At w g 205 (idx.map (Value.int .u16)++[.slice A bl.length c])∧Sl w w.heap.size A (bl.flatten.map (Value.int .u16))∧∀a,A=some a→lo≤a.block
theorem Pg.IsL.is {lo:Nat} {w:World} {v:Value} {idx:List Int} {bl:List (List Int)} (h:Pg.IsL lo w v idx bl):Pg.Is w v idx bl:=by
 obtain⟨g,A,c,h1,_,h2,h3,_⟩:=h;exact⟨g,A,c,h1,h2,h3⟩
theorem Pg.IsL.grown {lo b:Nat} {w w':World} {v:Value} {idx:List Int} {bl:List (List Int)} (h:Pg.IsL lo w v idx bl) (hg:w.grownBy w' (some b)) (hb:b<lo):Pg.IsL lo w' v idx bl:=by
 obtain⟨g,A,c,h1,h0,h2,h3,h4⟩:=h;refine⟨g,A,c,h1,h0,h2.grown hg (by simp;omega),fun hx=>?_,h4⟩;obtain⟨q,o,hA,hq,hc⟩:=h3 hx;have aa:=h4 _ hA;refine⟨q,o,hA,Zf hq hg.size,fun i hi=>?_⟩;rw[←hc i hi];have hk:=hg.block q hq (by simp;dsimp only at aa;omega);simp[World.cell?,hk]
def zTG (lo:Nat) (w:World) (v:Value) (f:Int→Int):Prop:=Pg.IsL lo w v (Pg.idx f 4352) (zAr f 4352)
theorem zFw:Go.Maps.Keyed prog 21:=Go.Maps.int_keyed underlying21
theorem Pg.key32 {n:Nat} (h:n<4352):keyOf prog 21 (.int .i32 n)=some (.int .i32 n):=Go.Maps.keyOf_int_mk underlying21 (by simp only[Lit.wf,Zr,Zo];exact⟨Yd (by decide:_≤(0:Int)) (by omega),Yd (by omega:(n:Int)≤4352) (by decide)⟩)
def zTH (g:Option Nat):Value:=.pointer (g.map fun g=>⟨g,0,none⟩)
def Pg.vs (b:List Int):List Value:=b.map (Value.int .u16)
def Pg.St (lo hi:Nat) (W:World) (mb:Nat) (f:Int→Int) (G:Nat→Option Nat):Prop :=
 (∃F,Mp.Is prog 21 W mb F∧∀n:Nat,n<4352→F (.int .i32 n)=(G n).map fun g=>.pointer (some ⟨g,0,none⟩)) ∧
 (∀n,n<4352→G n=none→zAc f n=zAn)∧(∀n g,n<4352→G n=some g→lo≤g∧g<hi∧Rw.At W g 201 (Pg.vs (zAc f n))) ∧
 (∀n n' g,n<4352→n'<4352→G n=some g→G n'=some g→n=n')
section
variable {lo hi:Nat} {W W':World} {mb:Nat} {f f':Int→Int} {G:Nat→Option Nat}
theorem Pg.St.made (w:World) (lo hi:Nat):Pg.St lo hi (w.alloc (.map #[] 0)) w.heap.size (Pg.last []) fun _=>none :=
 ⟨⟨_,Mp.Is.made w prog 21,fun _ _=>rfl⟩,fun n _ _=>zJ2 n,fun _ _ _ h=>(nomatch h),fun _ _ _ _ _ h=>(nomatch h)⟩
theorem Pg.St.lt (h:Pg.St lo hi W mb f G):mb<W.heap.size:=by
 obtain⟨⟨F,hF,_⟩,_⟩:=h;exact hF.lt
theorem Pg.St.below {B:Nat} (h:Pg.St lo hi W mb f G) (hb:Below B W W') (h1:mb<B) (h2:hi≤B):Pg.St lo hi W' mb f G:=by
 obtain⟨⟨F,⟨es,c,hh,r⟩,hF⟩,h3,h4,h5⟩:=h;exact⟨⟨F,⟨es,c,(hb.block mb h1).trans hh,r⟩,hF⟩,h3,fun n g hn hg=>⟨(h4 n g hn hg).1,(h4 n g hn hg).2.1,(h4 n g hn hg).2.2.below' hb (by have:=(h4 n g hn hg).2.1;omega)⟩,h5⟩
theorem Pg.St.more {hi':Nat} (h:Pg.St lo hi W mb f G) (hh:hi≤hi'):Pg.St lo hi' W mb f G :=
 ⟨h.1,h.2.1,fun n g hn hg=>⟨(h.2.2.1 n g hn hg).1,Zf (h.2.2.1 n g hn hg).2.1 hh,(h.2.2.1 n g hn hg).2.2⟩,h.2.2.2⟩
theorem Pg.St.turn (h:Pg.St lo hi W mb f G) (hf:∀n,n<4352→zAc f' n=zAc f n):Pg.St lo hi W mb f' G :=
 ⟨h.1,fun n hn hg=>by rw[hf n hn];exact h.2.1 n hn hg,fun n g hn hg=>by rw[hf n hn];exact h.2.2.1 n g hn hg,h.2.2.2⟩
theorem Pg.St.look (h:Pg.St lo hi W mb f G) {n:Nat} (hn:n<4352):(Instr.lookup 229 (.map (some mb)) (.int .i32 n) false).run prog W=.ok (zTH (G n)) W:=by
 obtain⟨⟨F,hF,hG⟩,_⟩:=h;have hz:(zeroValue 230).run prog W=.ok (.pointer none) W:=by kernel_rfl
 have:=hF.look zFw underlying229 hz (Pg.key32 hn) false;rw[hG n hn]at this;rw[this];cases G n <;> rfl
theorem Pg.St.put (h:Pg.St lo hi W mb f G) {n:Nat} (hn:n<4352) (hg:G n=none) (af:lo≤W.heap.size) (ag:hi≤W.heap.size) :
 ∃W' G',(Instr.mapUpdate 229 (.map (some mb)) (.int .i32 n) (.pointer (some ⟨W.heap.size,0,none⟩))).run prog (W.alloc (.cells (Pg.vs zAn).toArray 201))=.ok () W' ∧
  Pg.St lo W'.heap.size W' mb f G'∧G' n=some W.heap.size∧(W.alloc (.cells (Pg.vs zAn).toArray 201)).grownBy W' (some mb):=by
 have hmb:=h.lt;obtain⟨⟨F,hF,hG⟩,h2,h3,h4⟩:=h;have ae:Mp.Is prog 21 (W.alloc (.cells (Pg.vs zAn).toArray 201)) mb F:=hF.below ((Zd _ _).alloc (Za _) _)
 obtain⟨F',g1,g2⟩:∃F':Value→Option Value,F' (.int .i32 n)=some (.pointer (some ⟨W.heap.size,0,none⟩))∧∀z,z≠.int .i32 n→F' z=F z:=by
  classical
  exact⟨fun z=>if z=.int .i32 n then some (.pointer (some ⟨W.heap.size,0,none⟩)) else F z,by simp,fun z hz=>by simp[hz]⟩
 obtain⟨W',k1,k2,k3⟩:=ae.put zFw underlying229 (Pg.key32 hn) F' g1 g2;have ah:W.heap.size+1≤W'.heap.size:=by have:=k3.size;simpa using this
 refine⟨W',fun k=>if k=n then some W.heap.size else G k,k1,⟨⟨F',k2,fun k hk=>?_⟩,fun k hk=>?_,fun k g hk=>?_,fun k k' g hk aa=>?_⟩,by simp,k3⟩
 · by_cases e:k=n
   · subst e;rw[g1];simp
   rw[g2 _ (by simp;omega),hG k hk];simp[e]
 · by_cases e:k=n
   · subst e;simp
   simp only[Zk e];exact h2 k hk
 · have hne:∀q cs,Rw.At (W.alloc (.cells (Pg.vs zAn).toArray 201)) q 201 cs→Rw.At W' q 201 cs:=fun q cs hq=>hq.grown k3 (by
    intro e;cases e
    obtain⟨es,c,hh,_⟩:=ae;have:=hq.symm.trans hh;cases this)
   by_cases e:k=n
   · subst e;simp only[Yo,Zg];rintro rfl;refine⟨af,by omega,hne _ _ ?_⟩;rw[h2 _ hk hg];exact Rw.At.new W 201 (Pg.vs zAn)
   simp only[Zk e];intro he;obtain⟨a1,a2,a3⟩:=h3 k g hk he;exact⟨a1,by omega,hne _ _ (a3.alloc _)⟩
 by_cases e:k=n
 · by_cases e':k'=n
   · intros;omega
   simp only[Zl e,Zk e',Zg];rintro rfl h6;have:=(h3 k' _ aa h6).2.1;omega
 by_cases e':k'=n
 · simp only[Zl e',Zk e,Zg];rintro h6 rfl;have:=(h3 k _ hk h6).2.1;omega
 simp only[Zk e,Zk e'];exact h4 k k' g hk aa
theorem Pg.St.store (h:Pg.St lo hi W mb f G) {n g j:Nat} (hn:n<4352) (hg:G n=some g) (v:Int) (h1:zAc f' n=(zAc f n).set j v) (h2:∀k,k≠n→zAc f' k=zAc f k) :
 Pg.St lo hi (W.setCell ⟨g,j,none⟩ (.int .u16 v)) mb f' G:=by
 obtain⟨⟨F,⟨es,c,hh,r⟩,hG⟩,i2,i3,i4⟩:=h;obtain⟨a1,a2,a3⟩:=i3 n g hn hg
 have hne:mb≠g:=by
  rintro rfl;have:=a3.symm.trans hh;cases this
 refine⟨⟨F,⟨es,c,(Yk _ _ _ mb hne).trans hh,r⟩,hG⟩,fun k hk aa=>?_,fun k q hk hq=>?_,i4⟩
 · have:k≠n:=by rintro rfl;rw[hg]at aa;cases aa
   rw[h2 k this];exact i2 k hk aa
 obtain⟨b1,b2,b3⟩:=i3 k q hk hq
 by_cases e:k=n
 · subst e;rw[hg]at hq;cases hq
   refine⟨b1,b2,?_⟩;rw[h1];have:=a3.set j (.int .u16 v);rw[show Pg.vs ((zAc f k).set j v)=(Pg.vs (zAc f k)).set j (.int .u16 v) by unfold Pg.vs;rw[List.map_set]];exact this
 refine⟨b1,b2,?_⟩;rw[h2 k e]
 exact b3.other (by
  rintro rfl;exact e (i4 k n q hk hn hq hg)) _
theorem Pg.St.at (h:Pg.St lo hi W mb f G) {n g:Nat} (hn:n<4352) (hg:G n=some g):lo≤g∧g<hi∧Rw.At W g 201 (Pg.vs (zAc f n)):=h.2.2.1 n g hn hg
theorem Pg.St.none (h:Pg.St lo hi W mb f G) {n:Nat} (hn:n<4352) (hg:G n=Option.none):zAc f n=zAn:=h.2.1 n hn hg
end
theorem Pg.At.load {w:World} {g:Nat} {b:List Int} (h:Rw.At w g 201 (Pg.vs b)) (hb:b.length=256):(Instr.loadAt 201 (.pointer (some ⟨g,0,none⟩))).run prog w=.ok (.agg (Pg.vs b).toArray) w :=
 zO6 w _ _ g 0 256 _ (by unfold Pg.vs;rw[List.length_map,hb]) (fun j u hu=>by rw[Nat.zero_add];exact h.cell j hu) underlying201 rfl zPX
theorem zMu:Go.WideMaps.ArrKey prog 201 137 256:=⟨underlying201,by kernel_rfl,by kernel_rfl,by kernel_rfl⟩
theorem zMv:Go.Maps.Keyed prog 201:=JB zMu.law
def Pg.u16 (b:List Int):Prop:=b.length=256∧∀x∈b,0≤x∧x≤65535
theorem zMw {b:List Int} (h:Pg.u16 b):∃l,keyOf prog 201 (.agg (Pg.vs b).toArray)=some l :=
 zMf zMu underlying137 ⟨380-1,by kernel_rfl⟩ b h.1 fun x hx=>by
  obtain⟨h1,h2⟩:=h.2 x hx;simp only[Lit.wf,Zr,Zo];exact⟨Yd (by decide:_≤(0:Int)) h1,Yd h2 (by decide)⟩
theorem zRf {a b:List Int} (h:Value.agg (Pg.vs a).toArray=.agg (Pg.vs b).toArray):a=b:=by
 simp only[XO]at h;have h:Pg.vs a=Pg.vs b:=by simpa using congrArg Array.toList h
 unfold Pg.vs at h;exact (List.map_inj_right fun x y e=>by simpa using e).1 h
theorem zO7 {L:List (Int × Int)} (h:∀x∈L,0≤x.2∧x.2≤65535) (c:Int):0≤Pg.last L c∧Pg.last L c≤65535:=by
 unfold Pg.last
 suffices ∀(L:List (Int × Int)) (a:Int),(∀x∈L,0≤x.2∧x.2≤65535)→0≤a∧a≤65535→0≤L.foldl (fun a x=>if x.1=c then x.2 else a) a∧L.foldl (fun a x=>if x.1=c then x.2 else a) a≤65535 from this L 0 h (by decide)
 intro L
 induction L with
 | nil=>intro a _ ha;exact ha
 | cons x l ih =>
   intro a hl ha;refine ih _ (fun y hy=>hl y (ZT _ hy)) ?_
   by_cases e:x.1=c
   · simp only[Zl e];exact hl x ZI
   simp only[Zk e];exact ha
theorem zPY {L:List (Int × Int)} (h:∀x∈L,0≤x.2∧x.2≤65535) (m:Nat):Pg.u16 (zAc (Pg.last L) m):=by
 refine⟨zBo _ _,fun x hx=>?_⟩;unfold zAc at hx;obtain⟨i,_,rfl⟩:=List.mem_map.1 hx;exact zO7 h _
def Pg.Pl (W:World) (pb:Nat) (bl:List (List Int)):Prop :=
 ∃F,Mp.Is prog 201 W pb F∧∀b:List Int,F (.agg (Pg.vs b).toArray)=(zCK bl b).map fun k=>.int .i64 k
theorem Pg.Pl.look {W:World} {pb:Nat} {bl:List (List Int)} (h:Pg.Pl W pb bl) {b:List Int} (hb:Pg.u16 b) :
 (Instr.lookup 231 (.map (some pb)) (.agg (Pg.vs b).toArray) true).run prog W=.ok (.tuple #[.int .i64 ((zCK bl b).getD 0:Nat),.bool (zCK bl b).isSome]) W:=by
 obtain⟨F,hF,hp⟩:=h;obtain⟨l,hl⟩:=zMw hb;have hz:(zeroValue 3).run prog W=.ok (.int .i64 0) W:=by kernel_rfl
 have:=hF.look zMv underlying231 hz hl true;rw[Zl rfl,hp b]at this;rw[this];cases zCK bl b <;> rfl
theorem Pg.Pl.put {W:World} {pb:Nat} {bl:List (List Int)} (h:Pg.Pl W pb bl) {b:List Int} (hb:Pg.u16 b) (hn:b∉bl) :
 ∃W',(Instr.mapUpdate 231 (.map (some pb)) (.agg (Pg.vs b).toArray) (.int .i64 bl.length)).run prog W=.ok () W'∧Pg.Pl W' pb (Pg.add bl b)∧W.grownBy W' (some pb):=by
 obtain⟨F,hF,hp⟩:=h;obtain⟨l,hl⟩:=zMw hb
 obtain⟨F',g1,g2⟩:∃F':Value→Option Value,F' (.agg (Pg.vs b).toArray)=some (.int .i64 bl.length)∧∀z,z≠.agg (Pg.vs b).toArray→F' z=F z:=by
  classical
  exact⟨fun z=>if z=.agg (Pg.vs b).toArray then some (.int .i64 bl.length) else F z,by simp,fun z hz=>by simp[hz]⟩
 obtain⟨W',k1,k2,k3⟩:=hF.put zMv underlying231 hl F' g1 g2;refine⟨W',k1,⟨F',k2,fun c=>?_⟩,k3⟩;rw[zMr hn]
 by_cases e:c=b
 · subst e;rw[g1];simp
 rw[g2 _ fun e'=>e (zRf e'),hp c,Zk e]
theorem Pg.Pl.made (w:World) (pb:Nat):∃W',(Instr.mapUpdate 231 (.map (some w.heap.size)) (.agg (Pg.vs zAn).toArray) (.int .i64 0)).run prog (w.alloc (.map #[] 0))=.ok () W'∧Pg.Pl W' w.heap.size [zAn]∧(w.alloc (.map #[] 0)).grownBy W' (some w.heap.size):=by
 have h:Pg.Pl (w.alloc (.map #[] 0)) w.heap.size []:=⟨_,Mp.Is.made w prog 201,fun b=>rfl⟩;have hz:Pg.u16 zAn:=⟨List.length_replicate,fun x hx=>by unfold zAn at hx;have:=List.eq_of_mem_replicate hx;omega⟩;obtain⟨W',h1,h2,h3⟩:=h.put hz (by simp);exact⟨W',h1,h2,h3⟩
theorem Pg.Pl.grown {W W':World} {pb:Nat} {bl:List (List Int)} {row:Option Nat} (h:Pg.Pl W pb bl) (hg:W.grownBy W' row) (hne:some pb≠row):Pg.Pl W' pb bl:=by
 obtain⟨F,hF,hp⟩:=h;exact⟨F,hF.grown hg hne,hp⟩
theorem Pg.Pl.notAt {W:World} {pb g:Nat} {bl:List (List Int)} (h:Pg.Pl W pb bl) {t:TypeId} {cs:Array Value} {fr:Nat × Nat} (hg:W.heap[g]?=some (.cells cs t fr)):pb≠g:=by
 rintro rfl;obtain⟨F,⟨es,c,hh,_⟩,_⟩:=h;have:=hg.symm.trans hh;cases this
end
end Go.Proofs.YtdbpjmfflofadaaGreatDoor
