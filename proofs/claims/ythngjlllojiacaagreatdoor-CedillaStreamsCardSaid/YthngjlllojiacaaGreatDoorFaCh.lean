/- Many rows of the call's own at once, each in a block of its own: what an append, a call, a store leaves of them. -/
import Derived.Test.YthngjlllojiacaaGreatDoorCpFind
set_option maxRecDepth 100000
set_option maxHeartbeats 4000000
set_option linter.unusedVariables false
set_option linter.unusedSimpArgs false
namespace Go.Proofs.YthngjlllojiacaaGreatDoor
open Go.Proofs.Tryz
section
open Go.RowKit
structure Fam.Row where
 e:TypeId
 size:Nat
 v:Value
 n:Nat
 xs:List Value
structure Fam {ι:Type} (w:World) (base:Nat) (f:ι→Option Fam.Row):Prop where
 own:∀i r,f i=some r→w.ownsRow base r.e r.size r.v r.n r.xs
 apart:∀i j r q g,i≠j→f i=some r→f j=some q→r.v.ownBlock=some g→q.v.ownBlock≠some g
def Fam.set {ι:Type} [DecidableEq ι] (f:ι→Option Fam.Row) (i:ι) (r:Fam.Row):ι→Option Fam.Row:=fun j=>if j=i then some r else f j
theorem zA5 {ι:Type} [DecidableEq ι] (f:ι→Option Fam.Row) (i:ι) (r:Fam.Row):Fam.set f i r i=some r:=by simp[Fam.set]
theorem zA1 {ι:Type} [DecidableEq ι] (f:ι→Option Fam.Row) {i j:ι} (r:Fam.Row) (h:j≠i):Fam.set f i r j=f j:=by simp[Fam.set,h]
section
variable {ι:Type} {w:World} {base:Nat} {f:ι→Option Fam.Row}
theorem zB2 {e:TypeId} {size n:Nat} {v:Value} {xs:List Value} (h:w.ownsRow base e size v n xs) {g:Nat} (hg:v.ownBlock=some g):base≤g∧g<w.heap.size:=by
 rcases h.2 with ⟨rfl,_⟩|⟨k,cap,aa,rfl,hb,hk,_⟩
 · simp[Value.ownBlock]at hg
 simp only[Value.ownBlock,Zg]at hg;subst hg;exact⟨hb,zDq hk⟩
theorem Fam.mk' (w:World) (base:Nat):Fam w base (fun _:ι=>none):=⟨fun i r h=>(by cases h),fun i j r q g _ h=>(by cases h)⟩
theorem Fam.below (h:Fam w base f) {w':World} (hb:Below w.heap.size w w'):Fam w' base f :=
 ⟨fun i r hi=>zA4 (h.own i r hi) hb (Za _),h.apart⟩
theorem Fam.other (h:Fam w base f) {w':World} {b:Nat} (hg:w.grownBy w' (some b)) (hb:b<base):Fam w' base f :=
 ⟨fun i r hi=>(h.own i r hi).kept hg (by
  cases hv:r.v.ownBlock with
  | none=>exact .inl rfl
  | some g=>exact .inr fun e=>by cases e;have:=(zB2 (h.own i r hi) hv).1;omega),h.apart⟩
theorem Fam.grow [DecidableEq ι] (h:Fam w base f) {w':World} {i:ι} {r:Fam.Row} (hi:f i=some r) (hg:w.grownBy w' r.v.ownBlock) {q:Fam.Row} (hq:w'.ownsRow base q.e q.size q.v q.n q.xs)
 (hl:q.v.ownBlock=r.v.ownBlock∨q.v.ownBlock=some w.heap.size):Fam w' base (Fam.set f i q):=by
 have ae:∀j s g,f j=some s→s.v.ownBlock=some g→g<w.heap.size:=fun j s g hj hs=>(zB2 (h.own j s hj) hs).2
 refine⟨fun j s hj=>?_,fun j k s t g aa hj hk hs ht=>?_⟩
 · by_cases e:j=i
   · subst e;rw[zA5]at hj;cases hj
     exact hq
   rw[zA1 _ _ e]at hj;refine (h.own j s hj).kept hg ?_;cases hv:s.v.ownBlock with
   | none=>exact .inl rfl
   | some g=>exact .inr fun e'=>h.apart j i s r g e hj hi hv e'.symm
 by_cases e1:j=i
 · subst e1;rw[zA5]at hj;cases hj
   rw[zA1 _ _ (Z9 aa)]at hk;rcases hl with hl|hl
   · rw[hl]at hs;exact h.apart j k r t g aa hi hk hs ht
   rw[hl]at hs;cases hs
   have:=ae k t _ hk ht;omega
 rw[zA1 _ _ e1]at hj
 by_cases e2:k=i
 · subst e2;rw[zA5]at hk;cases hk
   rcases hl with hl|hl
   · rw[hl]at ht;exact h.apart j k s r g aa hj hi hs ht
   rw[hl]at ht;cases ht
   have:=ae j s _ hj hs;omega
 rw[zA1 _ _ e2]at hk;exact h.apart j k s t g aa hj hk hs ht
theorem Fam.new [DecidableEq ι] (h:Fam w base f) {w':World} (hb:Below w.heap.size w w') (i:ι) {q:Fam.Row} (hq:w'.ownsRow base q.e q.size q.v q.n q.xs) (hl:∀g,q.v.ownBlock=some g→w.heap.size≤g):Fam w' base (Fam.set f i q):=by
 have ae:∀j s g,f j=some s→s.v.ownBlock=some g→g<w.heap.size:=fun j s g hj hs=>(zB2 (h.own j s hj) hs).2
 refine⟨fun j s hj=>?_,fun j k s t g aa hj hk hs ht=>?_⟩
 · by_cases e:j=i
   · subst e;rw[zA5]at hj;cases hj
     exact hq
   rw[zA1 _ _ e]at hj;exact zA4 (h.own j s hj) hb (Za _)
 by_cases e1:j=i
 · subst e1;rw[zA5]at hj;cases hj
   rw[zA1 _ _ (Z9 aa)]at hk;have h1:=hl g hs;have h2:=ae k t g hk ht;omega
 rw[zA1 _ _ e1]at hj
 by_cases e2:k=i
 · subst e2;rw[zA5]at hk;cases hk
   have h1:=hl g ht;have h2:=ae j s g hj hs;omega
 rw[zA1 _ _ e2]at hk;exact h.apart j k s t g aa hj hk hs ht
end
theorem zLw {P:Program} (w:World) (t ty:TypeId)
 (base:Nat) (e:TypeId) (i:TypeInfo) (z:Value) (size bytes:Nat) (ht:P.underlying t=some (.slice e)) (hi:P.info? e=some i) (hz:i.zero=some z)
 (ag:i.size=size) (ai:i.bytes=bytes) (ak:z.cells.size=size) (ah:0<size)
 (v:Value) (n:Nat) (xs:List Value) (aa:w.ownsRow base e size v n xs)
 (B:Nat) (A:Option Addr) (m c:Nat) (news:List Value) (hl:news.length=m*size) (hA:Sl w B A news) (h1:∀u∈news,u.oneCell'=true)
 (aj:n+m≤maxLen) (af:(n+m)*bytes≤140737488355328) (ae:base≤w.heap.size) :
 ∃v' w',(Builtin.append_ #[t,t] ty #[v,.slice A m c]).run P w=.ok v' w'∧w'.ownsRow base e size v' (n+m) (xs++news)∧Below base w w'∧w.grownBy w' v.ownBlock∧(v'.ownBlock=v.ownBlock∨v'.ownBlock=some w.heap.size):=by
 rcases A with _|ad
 rotate_left
 · obtain⟨v',w',hr,h2,h3,_,h5⟩:=run_append_own_at (P:=P) w base t ty e i z size bytes ht hi hz ag ai ak ah v n xs aa ad m c news hl (by
    intro j q hq;have hj:j<news.length:=(List.getElem?_eq_some_iff.1 hq).1;obtain⟨b,o,hA,_,hc⟩:=hA (by omega);simp only[Zg]at hA;subst hA;rw[Addr.add_lit,hc j hj,hq]) h1 aj af ae
   refine⟨v',w',hr,h2,?_,h3,h5⟩;refine (Zc _ _).grown h3 ae ?_;intro k hk;exact (aa.lt k hk).1
 have hn:news=[]:=by
  rcases news with _|⟨u,r⟩
  · rfl
  obtain⟨b,o,hA,_⟩:=hA (by simp);cases hA
 subst hn
 have hm:m=0:=by
  rcases YP m with h|h
  · exact h
  have:=Nat.mul_pos h ah;simp at hl;omega
 subst hm;exact⟨v,w,zEm (P:=P) w base t ty e i size ht hi v n xs aa c,by simpa using aa,Below.refl _ _,World.grownBy.refl w _,.inl rfl⟩
theorem zAU {P:Program} {ι:Type} [DecidableEq ι] {o:Oper} {a:Act} {K:Act→World→Prop} {Q:Exit→Act→World→Prop} (w:World) (s x:Operand) (t:TypeId)
 (ho:o.op=.call { callee:=.builtin .append,args := #[s,x],argTypes := #[t,t] })
 {base:Nat} {f:ι→Option Fam.Row} (hF:Fam w base f) (j:ι) (r:Fam.Row) (hj:f j=some r)
 (i:TypeInfo) (z:Value) (bytes:Nat) (ht:P.underlying t=some (.slice r.e)) (hi:P.info? r.e=some i) (hz:i.zero=some z)
 (af:i.size=r.size) (ag:i.bytes=bytes) (aj:z.cells.size=r.size) (ai:0<r.size) (hs:a.eval s=r.v)
 (B:Nat) (A:Option Addr) (m c:Nat) (news:List Value) (hx:a.eval x=.slice A m c) (hl:news.length=m*r.size) (hA:Sl w B A news) (h1:∀u∈news,u.oneCell'=true)
 (ah:r.n+m≤maxLen) (aa:(r.n+m)*bytes≤140737488355328) (ae:base≤w.heap.size)
 (h:∀v' w',Fam w' base (Fam.set f j ⟨r.e,r.size,v',r.n+m,r.xs++news⟩)→Below base w w'→w.grownBy w' r.v.ownBlock→K (a.put o.dst v') w') :
 o.wp P a w K Q:=by
 obtain⟨v',w',hr,h2,h3,h4,h5⟩:=zLw (P:=P) w t o.type base r.e i z r.size bytes ht hi hz af ag aj ai r.v r.n r.xs (hF.own j r hj) B A m c news hl hA h1 ah aa ae;unfold Oper.wp execOp;simp only[ho,resolve,invoke,builtin,YE,Ys,Yt,Xc,ZX,Yq,hs,hx,hr];exact h v' w' (hF.grow hj h4 (q:=⟨r.e,r.size,v',r.n+m,r.xs++news⟩) h2 h5) h3 h4
theorem zDG {P:Program} {ι:Type} [DecidableEq ι] {ops:Array Oper} {rest:List Oper} {o:Oper} {a:Act} {Q:Exit→Act→World→Prop} (w:World) (ah:o.guard=none) (s x:Operand) (t:TypeId)
 (ho:o.op=.call { callee:=.builtin .append,args := #[s,x],argTypes := #[t,t] })
 {base:Nat} {f:ι→Option Fam.Row} (hF:Fam w base f) (j:ι) (r:Fam.Row) (hj:f j=some r)
 (i:TypeInfo) (z:Value) (bytes:Nat) (ht:P.underlying t=some (.slice r.e)) (hi:P.info? r.e=some i) (hz:i.zero=some z)
 (af:i.size=r.size) (ag:i.bytes=bytes) (ak:z.cells.size=r.size) (aj:0<r.size) (hs:a.eval s=r.v)
 (B:Nat) (A:Option Addr) (m c:Nat) (news:List Value) (hx:a.eval x=.slice A m c) (hl:news.length=m*r.size) (hA:Sl w B A news) (h1:∀u∈news,u.oneCell'=true)
 (ai:r.n+m≤maxLen) (aa:(r.n+m)*bytes≤140737488355328) (ae:base≤w.heap.size)
 (h:∀v' w',Fam w' base (Fam.set f j ⟨r.e,r.size,v',r.n+m,r.xs++news⟩)→Below base w w'→w.grownBy w' r.v.ownBlock→wpList P ops Q rest (a.put o.dst v') w') :
 wpList P ops Q (o::rest) a w :=
 QY ah fun _ hK=>zAU w s x t ho hF j r hj i z bytes ht hi hz af ag ak aj hs B A m c news hx hl hA h1 ai aa ae fun v' w' h2 h3 h4=>hK _ _ (h v' w' h2 h3 h4)
theorem zB6 {w:World} {base:Nat} {e:TypeId} {size n c g:Nat} {xs:List Value} (h:w.ownsRow base e size (.slice (some ⟨g,0,none⟩) n c) n xs) {i:Nat} {u:Value} (hi:xs[i]?=some u):w.cell? ⟨g,i,none⟩=some u:=by
 have aa:=(List.getElem?_eq_some_iff.1 hi).1;obtain⟨b,o,hA,_,hc⟩:=Sl.of_own h (by omega);simp only[Zg,YR,YH]at hA;obtain⟨rfl,rfl⟩:=hA;have:=hc i aa;rw[Z1]at this;rw[this,hi]
theorem zB0 {w:World} {base aa:Nat} {e:TypeId} {size n:Nat} {v:Value} {xs:List Value} (h:w.ownsRow base e size v n xs) (hb:aa≤base):w.ownsRow aa e size v n xs:=by
 refine⟨h.1,?_⟩;rcases h.2 with hn|⟨g,cap,ae,h1,h2,h3⟩
 · exact .inl hn
 exact .inr ⟨g,cap,ae,h1,by omega,h3⟩
theorem zRU {w:World} {base:Nat} {e:TypeId} {size n c g:Nat} {xs:List Value} (h:w.ownsRow base e size (.slice (some ⟨g,0,none⟩) n c) n xs) (i:Nat):w.frozen? ⟨g,i,none⟩=false:=by
 rcases h.2 with ⟨hv,_⟩|⟨k,cap,aa,hv,_,hk,_⟩
 · cases hv
 simp only[Z2,Zg,YR,YH,Qr]at hv;obtain⟨rfl,_⟩:=hv;simp[World.frozen?,hk]
section
variable {ι:Type} {w:World} {base:Nat} {f:ι→Option Fam.Row}
theorem Fam.ne (h:Fam w base f) {i j:ι} (hij:i≠j) {r q:Fam.Row} (hi:f i=some r) (hj:f j=some q) {b:Nat} (hb:q.v.ownBlock=some b):r.v.ownBlock≠some b:=fun e=>h.apart i j r q b hij hi hj e hb
theorem Fam.low (h:Fam w base f) {i:ι} {r:Fam.Row} (hi:f i=some r) {b:Nat} (hb:b<base):r.v.ownBlock≠some b:=fun e=>by have:=(zB2 (h.own i r hi) e).1;omega
theorem Fam.box [DecidableEq ι] (h:Fam w base f) (hb:base≤w.heap.size) (i:ι) (cs:List Value) (e:TypeId) (n size:Nat) (hs:cs.length=n*size) (hn:n≤maxLen):Fam (w.alloc (.cells cs.toArray e)) base (Fam.set f i ⟨e,size,.slice (some ⟨w.heap.size,0,none⟩) n n,n,cs⟩) :=
 h.new ((Below.refl _ _).alloc (Nat.le_refl _) _) i (World.ownsRow_lit w cs.toArray n hb hn (by simpa using hs)) (fun g hg=>by simp only[Value.ownBlock,Option.some.injEq]at hg;omega)
end
theorem zPY {w:World} {base b:Nat} {t:TypeId} {cs:List Value} (h:Rw.At w b t cs) (hb:base≤b) (n size:Nat) (hs:cs.length=n*size) (hn:n≤maxLen):w.ownsRow base t size (.slice (some ⟨b,0,none⟩) n n) n cs :=
 ⟨hs,.inr ⟨b,n,cs.toArray,rfl,hb,h,Nat.le_refl _,hn,by simpa using hs,by rw[List.take_of_length_le (by simp;omega)]⟩⟩
theorem Fam.store {ι:Type} [DecidableEq ι] {w w':World} {base:Nat} {f:ι→Option Fam.Row} (h:Fam w base f) {i:ι} {e:TypeId} {size n b:Nat} {cs cs':List Value} (hi:f i=some ⟨e,size,.slice (some ⟨b,0,none⟩) n n,n,cs⟩) (hg:w.grownBy w' (some b)) (aa:Rw.At w' b e cs') (hs:cs'.length=n*size) (hn:n≤maxLen) :
 Fam w' base (Fam.set f i ⟨e,size,.slice (some ⟨b,0,none⟩) n n,n,cs'⟩) :=
 h.grow hi hg (zPY aa (zB2 (h.own _ _ hi) (g:=b) rfl).1 n size hs hn) (.inl rfl)
theorem zBk {w w':World} {B b:Nat} (hg:w.grownBy w' (some b)) (hB:B≤w.heap.size) (hb:B≤b):Below B w w' :=
 Qs (Zc _ _) hg hB (by intro k hk;simp only[Zg]at hk;omega)
theorem zEz {q b:Nat} (h:q<b):some q≠some b:=by simp only[Qv,Zg];omega
theorem zQN {w:World} {base:Nat} {e:TypeId} {n c b:Nat} {xs:List Value} (h:w.ownsRow base e 1 (.slice (some ⟨b,0,none⟩) n c) n xs):Sl w w.heap.size (some ⟨b,1,none⟩) (xs.drop 1):=by
 intro hx;rw[ZM]at hx;refine⟨b,1,rfl,(zB2 h (g:=b) rfl).2,fun q hq=>?_⟩;rw[ZM]at hq;rw[Xj];exact (zB6 h (Zb (by omega))).trans (Zb (by omega)).symm
theorem own_cap {w:World} {base:Nat} {e:TypeId} {size n c b:Nat} {xs:List Value} (h:w.ownsRow base e size (.slice (some ⟨b,0,none⟩) n c) n xs):n≤c:=by
 rcases h.2 with ⟨hv,_⟩|⟨g,cap,aa,hv,_,_,ae,_⟩
 · cases hv
 simp only[Z2]at hv;omega
theorem Mp.Is.same {P:Program} {k:TypeId} {w w':World} {b:Nat} {F:Value→Option Value} (h:Mp.Is P k w b F) (hs:w'.heap[b]?=w.heap[b]?):Mp.Is P k w' b F:=by
 obtain⟨es,c,hb,r⟩:=h;exact⟨es,c,hs.trans hb,r⟩
theorem Mp.Is.notcells {P:Program} {k:TypeId} {w:World} {b:Nat} {F:Value→Option Value} (h:Mp.Is P k w b F) {cs:Array Value} {t:TypeId} {z:Nat × Nat}:w.heap[b]?≠some (.cells cs t z):=fun e=>by
 obtain⟨es,c,hb,r⟩:=h;rw[hb]at e;cases e
abbrev zE1:=Nat × Int
def Ud.rowOf (A:Option Addr) (c:Nat) (l:List Int):Fam.Row:=⟨21,1,.slice A l.length c,l.length,Ud.ints l⟩
def zAJ (v:Value) (l:List Int):Fam.Row:=⟨21,1,v,l.length,Ud.ints l⟩
def zDi (K:List Rw.Row):List (Int × Int):=K.map fun r=>(r.1,r.2.1)
def zB3 (T M:List Rw.Row):List Int:=M.flatMap fun r=>(Ud.full T r.1).drop 1
def zB4 (M:List Rw.Row):List Int:=M.map (·.1)
def zE2 (T:List Rw.Row) (X:Int→Bool) (M:List Rw.Row):List Rw.Row:=M.filter fun r=>zAo T X r.1
def zAF (T:List Rw.Row) (X:Int→Bool) (M:List Rw.Row):List Int:=(zE2 T X M).map fun r=>r.2.2.getD 1 0
def zBp (T M:List Rw.Row) (c:Int):List Int:=(M.filter fun r=>decide ((Ud.full T r.1).headD 0=c)).map (·.1)
def zKj (T:List Rw.Row) (X:Int→Bool) (M:List Rw.Row) (a b:Int):Option Int:=(zE2 T X M).foldl (fun o r=>if r.2.2.getD 0 0=a∧r.2.2.getD 1 0=b then some r.1 else o) none
structure Ud.Rows (T:List Rw.Row) (X:Int→Bool) (K M:List Rw.Row) (f:zE1→Option Fam.Row) (vT vc vp ve vi vs vm:Value) (ads:List (Option Addr × Nat)) (es:List Ud.At):Prop where
 la:ads.length=K.length
 le:es.length=M.length
 t:f (0,0)=some ⟨109,3,vT,K.length,Rw.fl K ads⟩
 c:f (0,1)=some ⟨171,2,vc,K.length,Pg.fl (zDi K)⟩
 p:f (0,2)=some ⟨171,2,vp,M.length,Pg.fl (zBh 0 M)⟩
 e:f (0,3)=some ⟨134,3,ve,M.length,zBw T X M es⟩
 i:f (0,4)=some (zAJ vi (zB3 T M))
 s:f (0,5)=some (zAJ vs (zAF T X M))
 m:f (0,6)=some (zAJ vm (zB4 M))
 rm:∀(j:Nat) r a,K[j]?=some r→ads[j]?=some a→f (2,(j:Int))=some (Ud.rowOf a.1 a.2 r.2.2)
 em:∀(j:Nat) r a,M[j]?=some r→es[j]?=some a→f (3,(j:Int))=some (Ud.rowOf a.m a.mc r.2.2)∧f (4,(j:Int))=some (Ud.rowOf a.f a.fc (Ud.full T r.1))
def Ud.BegI (T M:List Rw.Row) (f:zE1→Option Fam.Row) (G:Value→Option Value):Prop :=
 ∀c:Int,(zBp T M c=[]∧G (.int .i32 c)=none)∨∃v,G (.int .i32 c)=some v∧f (1,c)=some (zAJ v (zBp T M c))
def Ud.JoiI (T:List Rw.Row) (X:Int→Bool) (M:List Rw.Row) (J:Value→Option Value):Prop:=∀a c:Int,J (.agg #[.int .i32 a,.int .i32 c])=(zKj T X M a c).map (Value.int .i32)
def Ud.cells (vT:Value) (XA:Option Addr) (xn xc:Nat) (ve:Value) (mb jb:Nat):List Value:=[vT,.slice XA xn xc,.pointer none,.pointer none,ve,.map (some mb),.map (some jb),.slice none 0 0,.slice none 0 0,.slice none 0 0]
def Ud.Inv (T:List Rw.Row) (X:Int→Bool) (K M:List Rw.Row) (w:World) (base D mb jb:Nat) (XA:Option Addr) (xn xc:Nat) (vc vp vi vs vm:Value):Prop :=
 ∃f vT ve ads es G J,Fam w base f∧Rw.At w D 144 (Ud.cells vT XA xn xc ve mb jb)∧Mp.Is prog 21 w mb G∧Mp.Is prog 173 w jb J∧base≤w.heap.size ∧
  Ud.Rows T X K M f vT vc vp ve vi vs vm ads es∧Ud.BegI T M f G∧Ud.JoiI T X M J
section
variable {T:List Rw.Row} {X:Int→Bool} {K M:List Rw.Row} {f f':zE1→Option Fam.Row} {vT vc vp ve vi vs vm:Value} {ads:List (Option Addr × Nat)} {es:List Ud.At}
theorem zCJ {α:Type} {l:List α} {a:α} {j:Nat} {x:α} (h:(l++[a])[j]?=some x):(l[j]?=some x∧j<l.length)∨(j=l.length∧a=x):=by
 rcases ZZ j l.length with hl|hl
 · rw[ZS hl]at h;exact .inl ⟨h,hl⟩
 rw[ZJ hl]at h
 have:j-l.length=0:=by
  rcases YP (j-l.length) with h0|h0
  · exact h0
  rw[Yn (by simp;omega)]at h;cases h
 rw[this]at h;exact .inr ⟨by omega,by simpa using h⟩
theorem Ud.Rows.addK (h:Ud.Rows T X K M f vT vc vp ve vi vs vm ads es) {r:Rw.Row} {a:Option Addr × Nat} {aa ae:Value}
 (h0:f' (0,0)=some ⟨109,3,aa,K.length+1,Rw.fl K ads++[.int .i32 r.1,.int .i64 r.2.1,.slice a.1 r.2.2.length a.2]⟩) (h1:f' (0,1)=some ⟨171,2,ae,K.length+1,Pg.fl (zDi K)++[.int .i32 r.1,.int .u16 r.2.1]⟩)
 (h2:f' (2,(K.length:Int))=some (Ud.rowOf a.1 a.2 r.2.2)) (ho:∀ix:zE1,ix.1≤5→ix≠(0,0)→ix≠(0,1)→ix≠(2,(K.length:Int))→f' ix=f ix) :
 Ud.Rows T X (K++[r]) M f' aa ae vp ve vi vs vm (ads++[a]) es:=by
 have same:∀i:Int,2≤i→f' (0,i)=f (0,i):=fun i hi=>ho _ (ZG _) (by intro e;cases e;omega) (by intro e;cases e;omega) (by intro e;cases e)
 refine⟨by simp[h.la],h.le,?_,?_,(same 2 (by decide)).trans h.p,(same 3 (by decide)).trans h.e,(same 4 (by decide)).trans h.i,(same 5 (by decide)).trans h.s,(same 6 (by decide)).trans h.m,fun j q b hj hb=>?_,fun j q b hj hb=>?_⟩
 · rw[h0,Rw.fl_app _ _ r a h.la,Zd];rfl
 · rw[h1];unfold zDi;rw[ZO,Pg.fl_app,Zd];rfl
 · rcases zCJ hj with ⟨af,hl⟩|⟨rfl,rfl⟩
   · rcases zCJ hb with ⟨ag,_⟩|⟨e,_⟩
     · rw[ho _ (by show (2:Nat)≤5;decide) (by intro e;cases e) (by intro e;cases e) (by intro e;simp only[YB,Qr]at e;omega)];exact h.rm j q b af ag
     have:=h.la;omega
   rcases zCJ hb with ⟨_,hl⟩|⟨_,rfl⟩
   · have:=h.la;omega
   exact h2
 rw[ho _ (by show (3:Nat)≤5;decide) (by intro e;cases e) (by intro e;cases e) (by intro e;cases e),ho _ (by show (4:Nat)≤5;decide) (by intro e;cases e) (by intro e;cases e) (by intro e;cases e)];exact h.em j q b hj hb
theorem Ud.Rows.addM (h:Ud.Rows T X K M f vT vc vp ve vi vs vm ads es) {r:Rw.Row} {a:Ud.At} {aa ag ah ae af:Value}
 (h0:f' (0,2)=some ⟨171,2,aa,M.length+1,Pg.fl (zBh 0 M)++[.int .i32 r.1,.int .u16 ((M.length:Int)+1)]⟩)
 (h1:f' (0,3)=some ⟨134,3,ag,M.length+1,zBw T X M es++[.slice a.m r.2.2.length a.mc,.slice a.f (Ud.full T r.1).length a.fc,.bool (zAo T X r.1)]⟩)
 (h2:f' (0,4)=some (zAJ ah (zB3 T M++(Ud.full T r.1).drop 1))) (h3:f' (0,6)=some (zAJ af (zB4 M++[r.1])))
 (h4:f' (0,5)=some (zAJ ae (zAF T X (M++[r])))) (h5:f' (3,(M.length:Int))=some (Ud.rowOf a.m a.mc r.2.2)) (h6:f' (4,(M.length:Int))=some (Ud.rowOf a.f a.fc (Ud.full T r.1)))
 (ht:f' (0,0)=f (0,0)) (hc:f' (0,1)=f (0,1)) (hr:∀j:Int,f' (2,j)=f (2,j)) (aj:∀j:Int,j≠M.length→f' (3,j)=f (3,j)) (ak:∀j:Int,j≠M.length→f' (4,j)=f (4,j)) :
 Ud.Rows T X K (M++[r]) f' vT vc aa ag ah ae af ads (es++[a]):=by
 refine⟨h.la,by simp[h.le],ht.trans h.t,hc.trans h.c,?_,?_,?_,h4,?_,fun j q b hj hb=>(hr _).trans (h.rm j q b hj hb),fun j q b hj hb=>?_⟩
 · rw[h0,zOy,Pg.fl_app,Zd,Z1];rfl
 · rw[h1,zJB T X M es r a h.le,Zd];rfl
 · rw[h2];unfold zB3;rw[YG];simp
 · rw[h3];unfold zB4;rw[ZO];rfl
 rcases zCJ hj with ⟨ai,hl⟩|⟨rfl,rfl⟩
 · rcases zCJ hb with ⟨ao,_⟩|⟨e,_⟩
   · rw[aj _ (by omega),ak _ (by omega)];exact h.em j q b ai ao
   have:=h.le;omega
 rcases zCJ hb with ⟨_,hl⟩|⟨_,rfl⟩
 · have:=h.le;omega
 exact⟨h5,h6⟩
theorem Ud.BegI.keep {G:Value→Option Value} (h:Ud.BegI T M f G) (ho:∀c:Int,f' (1,c)=f (1,c)):Ud.BegI T M f' G:=by
 intro c;rw[ho c];exact h c
theorem zMU (r:Rw.Row) (c:Int):zBp T (M++[r]) c=if (Ud.full T r.1).headD 0=c then zBp T M c++[r.1] else zBp T M c:=by
 unfold zBp;rw[Yh,ZO]
 by_cases hc:(Ud.full T r.1).headD 0=c
 · rw[Zl hc,Yp,Zl (Zu hc)];rfl
 rw[if_neg hc,List.filter_cons,if_neg (by simpa using hc)];simp
theorem Ud.BegI.add {G G':Value→Option Value} (h:Ud.BegI T M f G) {r:Rw.Row} {v:Value} (hG:G' (.int .i32 ((Ud.full T r.1).headD 0))=some v) (aa:∀y,y≠.int .i32 ((Ud.full T r.1).headD 0)→G' y=G y)
 (hv:f' (1,(Ud.full T r.1).headD 0)=some (zAJ v (zBp T M ((Ud.full T r.1).headD 0)++[r.1]))) (ho:∀c:Int,c≠(Ud.full T r.1).headD 0→f' (1,c)=f (1,c)):Ud.BegI T (M++[r]) f' G':=by
 intro c;rw[zMU]
 by_cases hc:(Ud.full T r.1).headD 0=c
 · subst hc;rw[Zl rfl];exact .inr ⟨v,hG,hv⟩
 rw[Zj hc,aa _ (by intro e;cases e;exact hc rfl),ho c (Z9 hc)];exact h c
theorem zFG (r:Rw.Row):zE2 T X (M++[r])=if zAo T X r.1=true then zE2 T X M++[r] else zE2 T X M:=by
 unfold zE2;rw[Yh,Yp];cases zAo T X r.1 <;> simp
theorem zIh (r:Rw.Row):zAF T X (M++[r])=if zAo T X r.1=true then zAF T X M++[r.2.2.getD 1 0] else zAF T X M:=by
 unfold zAF;rw[zFG];cases zAo T X r.1 <;> simp
theorem Ud.JoiI.no {J:Value→Option Value} (h:Ud.JoiI T X M J) {r:Rw.Row} (hp:zAo T X r.1=false):Ud.JoiI T X (M++[r]) J:=by
 intro a c;unfold zKj;rw[zFG,Zj (by rw[hp];simp)];exact h a c
theorem Ud.JoiI.add {J J':Value→Option Value} (h:Ud.JoiI T X M J) {r:Rw.Row} (hp:zAo T X r.1=true) (hJ:J' (.agg #[.int .i32 (r.2.2.getD 0 0),.int .i32 (r.2.2.getD 1 0)])=some (.int .i32 r.1))
 (aa:∀y,y≠.agg #[.int .i32 (r.2.2.getD 0 0),.int .i32 (r.2.2.getD 1 0)]→J' y=J y):Ud.JoiI T X (M++[r]) J':=by
 intro a c;unfold zKj;rw[zFG,Zl hp,YJ,Yz,Jm]
 by_cases hc:r.2.2.getD 0 0=a∧r.2.2.getD 1 0=c
 · rw[Zl hc];obtain⟨rfl,rfl⟩:=hc;exact hJ
 rw[Zj hc,aa _ (by intro e;simp only[XF,X8,Yb,Value.int.injEq,Qr,YH]at e;exact hc ⟨e.1.symm,e.2.symm⟩)];exact h a c
end
theorem zF7 {T:List Rw.Row} (h:∀c,(Ud.full T c).length≤32):∀M:List Rw.Row,(zB3 T M).length≤31*M.length
 | []=>by simp[zB3]
 | r::M=>by
   have h1:=zF7 h M;have h2:=h r.1;unfold zB3 at h1 ⊢;rw[Y7,Zd,ZM,ZF];omega
theorem zJD {T:List Rw.Row} (c:Int):(Ud.full T c).length≤32:=by
 unfold Ud.full;cases h:Md.full T c with
 | none=>simp
 | some l=>exact (zCr h).2.2.1
theorem zFH (f:List Int→Int→Option (List Int)):∀(a b out:List Int),zBD f out (a++b)=(zBD f out a).bind fun o=>zBD f o b
 | [],b,out=>rfl
 | d::r,b,out=>by
   rw[Zo,zBD,zBD];cases f out d with
   | none=>rfl
   | some o=>exact zFH f r b o
theorem zH8 {f:List Int→Int→Option (List Int)} {L out o:List Int} {k:Nat} {x:Int} (hx:L[k]?=some x) (h:zBD f out (L.take k)=some o):zBD f out (L.take (k+1))=f o x:=by
 rw[ZA,hx,zFH,h,Zy];show (f o x).bind (fun o=>zBD f o [])=f o x;cases f o x <;> rfl
theorem zLx {f:List Int→Int→Option (List Int)} {L out o:List Int} {k:Nat} {x:Int} (hx:L[k]?=some x) (h:zBD f out (L.take k)=some o) (hn:f o x=none):zBD f out L=none:=by
 have h1:=zH8 hx h;rw[hn]at h1;rw[←ZE (k+1) L,zFH,h1];rfl
theorem zLy {mp:Int→List Int} {k:Nat} {out l:List Int} {c:Int} (ho:out.length≤32) (h:zBO mp k out c=some l):l.length≤32:=by
 rw[zBv mp k out c ho]at h;cases hl:Md.lv mp k c with
 | none=>rw[hl]at h;cases h
 | some a =>
   rw[hl,Zy]at h;unfold Md.fit at h;split at h
   · cases h;simpa using ‹_›
   cases h
theorem zMV {mp:Int→List Int} (k:Nat) {out:List Int} {c:Int} (h:mp c=[]):zBO mp k out c=zEu out c:=by
 cases k with
 | zero=>rw[zBO,Zl h]
 | succ k=>rw[zBO,Zl h]
theorem zOJ {w w':World} {base:Nat} {e:TypeId} {size n:Nat} {v:Value} {xs:List Value} {row:Option Nat} (h:w.ownsRow base e size v n xs) (hg:w.grownBy w' row) (hr:∀k,row=some k→k<base):w'.ownsRow base e size v n xs:=by
 refine h.kept hg ?_;cases hv:v.ownBlock with
 | none=>exact .inl rfl
 | some g =>
   refine .inr fun e'=>?_
   have h1:=hr g e'.symm;have h2:=(h.lt g hv).1;omega
def zPZ (W0:World) (w:World) (vo:Value) (o:Option (List Int)) (e:Ending) (w':World):Prop :=
 ∃A n c,e=.returned (.tuple #[.slice A n c,.bool o.isSome])∧(∀l,o=some l→w'.ownsRow W0.heap.size 21 1 (.slice A n c) l.length (l.map (Value.int .i32))∧∀g,(Value.slice A n c).ownBlock=some g→vo.ownBlock=some g∨w.heap.size≤g)∧w.grownBy w' vo.ownBlock
def zKk (T:List Rw.Row) (W0:World) (v:Value) (k:Nat):Prop :=
 ∀(l:List Int) (vo:Value) (c:Int) (deep:Nat) (w:World),deep+k=T.length+3 → -2147483648≤c→c≤2147483647→l.length≤32→Below W0.heap.size W0 w→w.ownsRow W0.heap.size 21 1 vo l.length (l.map (Value.int .i32)) →
  Calls prog 130 #[v,vo,.int .i32 c,.int .i64 deep] w (zPZ W0 w vo (zBO (Md.mp T) k l c))
theorem zIi (T:List Rw.Row) (S:List Int) (W0:World) (v:Value) (ok:Md.Ok T) (h0:Md.Is W0 v T S) (k:Nat) (IH:∀k',k=k'+1→zKk T W0 v k'):zKk T W0 v k:=by
 intro l vo c deep w hd h3 h4 hl b5 ar;obtain⟨j0,hj0,dp,di,dh⟩:=Z7 zCl;have hv:=h0;obtain⟨A,cc,XA,xc,rfl,h2,hX⟩:=hv;obtain⟨xn,hxn⟩:∃k,S.length=k:=⟨_,rfl⟩;obtain⟨n,hn⟩:∃k,T.length=k:=⟨_,rfl⟩;have hnb:n≤1000000:=by rw[←hn];exact ok.1
 rw[hn]at hd;have dk:=hy' hn;rw[hn,hxn]at h0 IH ⊢;obtain⟨AO,co,rfl⟩:=zA3 ar;have cf:Below w.heap.size w (w.alloc (.cells #[.slice A n cc,.slice XA xn xc] 101)):=(Zc _ _).alloc (Za _) _;have b2:Rw.At (w.alloc (.cells #[.slice A n cc,.slice XA xn xc] 101)) w.heap.size 101 [.slice A n cc,.slice XA xn xc]:=Rw.At.new w 101 [.slice A n cc,.slice XA xn xc];have cv:=b5.trans (cf.mono b5.size);have hM:=zOD _ T S c _ ok (h0.below cv) h3 h4;have hmb:=zHO ok.2.2.1 c
 have cy:(Md.mp T c).length≤1000000:=by
  unfold Md.mp zAS;split
  · simp
  cases hf:Md.find T c with
  | none=>simp
  | some r=>exact ok.2.2.2 r (zAq hf).1
 have z0:=b2.cell 0 rfl;have z1:=b2.cell 1 rfl;have bt:=b2;obtain⟨m,hm⟩:∃m,Md.mp T c=m:=⟨_,rfl⟩;rw[hm]at hmb hM cy;obtain⟨f,hf⟩:∃f,zBO (Md.mp T) k l c=f:=⟨_,rfl⟩;rw[hf];have HM:=hy' hm;have HF:=hy' hf;have dt:=hy' hmb;have bw:=hy' IH;have ch:=hy' ar;have cx:=hy' cf;have b4:=hy' b5;have c8:∀g,(Value.slice AO l.length co).ownBlock=some g→W0.heap.size≤g∧g<w.heap.size:=fun g hg=>ar.lt g hg
 have bz:=hy' c8;have b9:=hy' bt;unfold Md.RetOwn at hM;clear h0 h2 hX hn hxn cf b2 bt ok hm hf hmb IH ar cv b5 c8;unfold zBd at *;go_enter func130,ntmps130;go_wp2_with fail;refine hM.mono ?_;rintro e w1 ⟨A1,c1,rfl,ay,b3⟩;have b6:=cx.o.trans (b3.mono cx.o.size);have dr:w.heap.size<w1.heap.size:=Zf (by simp) b3.size;have bk:=b9.o.below b3;have aw:=zA4 ch.o b6 (Za _);have cw:=(Rw.grown_below b6).but (Value.slice AO l.length co).ownBlock;have ck:=b4.o.trans (b6.mono b4.o.size);have cp:=ck.size;have a7:=hy' bk;have ax:=hy' aw;have bo:=hy' cw;have dw:=hy' ck;have cq:=hy' ay;have du:(l.map (Value.int .i32)).length=l.length:=Ze _;clear b6 bk aw cw ck ay b3 hM z0 z1;rcases m with _|⟨m0,mr⟩
 · have ak:f=zEu l c:=by rw[←HF.o];exact zMV k HM.o
   have az:f.isSome=decide ((l.length:Int)<32):=by
    rw[ak];unfold zEu
    by_cases h:l.length<32
    · rw[Zl h,Zu (by omega)];rfl
    rw[Zj h,Zt (by omega)];rfl
   have bb:=hy' ak;have bq:=hy' az;have dy:(w1.alloc (.cells #[.int .i32 c] 21)).heap.size=w1.heap.size+1:=by simp
   clear ak az bw;go_wp2_with (at_builtin;refine wpList_append_lies _ rfl _ _ 80 rfl W0.heap.size 21 j0 _ 1 4 underlying80 hj0 dp di dh rfl (by omega) _ l.length (l.map (Value.int .i32)) rfl (ax.o.alloc _) ⟨w1.heap.size,0,none⟩ 1 1 [.int .i32 c] rfl rfl (cell_one_new _ _ _) (by intro u hu;simp only[List.mem_singleton]at hu;subst hu;rfl) (by omega) (by unfold maxLen;omega) (by omega) (by omega) _ rfl ?_;intro g cap w2 au bc aa cn);have bs:=hy' au;have ae:=hy' aa;have dl:=hy' (bo.o.andThen ((YW w1 (.cells #[.int .i32 c] 21) (Value.slice AO l.length co).ownBlock).trans bc) fun j hj=>.inr hj);clear au bc aa;go_wp2_with fail;go_ret2;refine⟨some ⟨g,0,none⟩,l.length+1,cap,?_,fun l' ah=>?_,dl.o⟩
   · rw[bq.o];rfl
   have bg:l.length<32∧l'=l++[c]:=by
    rw[bb.o]at ah;unfold zEu at ah;split at ah
    · cases ah;exact⟨‹_›,rfl⟩
    cases ah
   obtain⟨_,rfl⟩:=bg;refine⟨?_,fun g' cu=>?_⟩
   · have:=bs.o;rw[Zd,ZO];exact this
   simp only[Value.ownBlock,Zg]at cu;subst cu;rcases ae.o with h|h
   · exact .inl h
   exact .inr (by omega)
 have hne:Md.mp T c≠[]:=by rw[HM.o];exact fun e=>by cases e
 have q1:((mr.length:Int)+1 == 0)=false:=by simp;omega
 have bp:(m0::mr).length=mr.length+1:=rfl;rcases k with _|k
 · have av:f=none:=by rw[←HF.o,zBO,Zj hne]
   have bj:=hy' av;have bf:(n:Int)+2<deep:=by omega
   have bu:=a7.o;have z2:=bu.cell 0 rfl;clear av bw bu hne;go_wp2_with fail;go_ret2;refine⟨AO,l.length,co,?_,fun l' ah=>?_,bo.o⟩
   · rw[bj.o];rfl
   rw[bj.o]at ah;cases ah
 have av:f=zBD (zBO (Md.mp T) k) l (m0::mr):=by rw[←HF.o,zBO,Zj hne,HM.o]
 have bj:=hy' av;have bf:¬(n:Int)+2<deep:=by omega
 have cz:zKk T W0 (.agg #[.slice A n cc,.slice XA xn xc]) k:=bw.o k rfl;have HI:=hy' cz;have bu:=a7.o;have z2:=bu.cell 0 rfl;obtain⟨q,hq⟩:∃q,(m0::mr).length=q:=⟨_,rfl⟩;have ap:=cq.o;rw[hq]at ap ⊢;have q2:((q:Int) == 0)=false:=by rw[←hq];simp;omega
 rw[hq]at cy;have HQ:=hy' hq;have b7:=hy' ap;have bi:(Value.slice AO l.length co).ownBlock≠some w.heap.size:=fun e=>by have:=(bz.o _ e).2;omega
 have bh:=hy' bi;obtain⟨vb,cm⟩:∃vb,(Value.slice AO l.length co).ownBlock=vb:=⟨_,rfl⟩;rw[cm]at bo bh bz;have b1:=hy' cm;clear av bw bu hne cz hq ap cq q1 bp bi cm;go_wp2_with fail;go_loopw [1,11,13,36] (fun v1 v11 _ i wr=>∃(t:Nat) (A2:Option Addr) (c2:Nat) (ls:List Int),t≤q∧i=.int .i64 t∧v1=.slice A2 ls.length c2∧v11=.bool true∧zBD (zBO (Md.mp T) k) l ((m0::mr).take t)=some ls∧ls.length≤32∧wr.ownsRow W0.heap.size 21 1 (.slice A2 ls.length c2) ls.length (ls.map (Value.int .i32))∧(∀g,(Value.slice A2 ls.length c2).ownBlock=some g→vb=some g∨w1.heap.size≤g)∧w1.grownBy wr vb) (fun _ _ _ i _=>q-(intOf i).toNat)
 case atStart=>exact⟨0,AO,co,l,ZG _,rfl,rfl,rfl,rfl,hl,ax.o,fun g hg=>.inl (by rw[←b1.o];exact hg),(Rw.grown_below (Zc _ _)).but _⟩
 obtain⟨t,A2,c2,ls,ht,rfl,rfl,rfl,a1,c7,af,aa,a6⟩:=hrel;have aq:=a7.o.grown a6 bh.o;have cd:=zOJ b7.o a6 (fun g hg=>by have:=(bz.o g hg).2;simp;omega);have cg:=Sl.of_own cd;have bx:=bo.o.andThen a6 fun j hj=>.inr hj
 have b8:Below W0.heap.size W0 wr:=b4.o.trans (zAe bx b4.o.size fun g hg=>(bz.o g hg).1);have y0:=aq.cell 0 rfl;have y1:=aq.cell 1 rfl;have df:=a6.size;have ba:=hy' a1;have bl:=hy' af;have ae:=hy' aa;have dn:=hy' a6;have dm:=hy' bx
 by_cases cn:t<q
 · obtain⟨x,hx⟩:∃x,(m0::mr)[t]?=some x:=⟨_,Zb (by rw[HQ.o];exact cn)⟩;have hxb:=dt.o x (Zk hx);obtain⟨ab,ao,rfl,dv,c6⟩:=cg (by rw[Ze,HQ.o];omega);have hc:=c6 t (by rw[Ze,HQ.o];exact cn);rw[Zw,hx,Zx]at hc;have ag:=HI.o ls _ x (deep+1) wr (by rw[dk.o];omega) hxb.1 hxb.2 c7 b8 af;rw[show ((deep+1:Nat):Int)=(deep:Int)+1 by omega]at ag;obtain⟨o,ho⟩:∃o,zBO (Md.mp T) k ls x=o:=⟨_,rfl⟩;rw[ho]at ag;have HX:=hy' hx;have HO:=hy' ho;have tI:(t:Int)<q:=by omega
   clear a1 af aa a6 bx b8 aq cd cg c6 hx ho;go_wp2_with fail;refine ag.mono ?_;rintro e w2 ⟨A3,n3,c3,rfl,bn,ct⟩
   have cr:=dn.o.andThen ct fun j hj=>by
    rcases ae.o j hj with h|h
    · exact .inr h
    exact .inl h
   have cj:=hy' cr;have cb:=hy' bn;clear ct cr bn ag;rcases o with _|l3
   · have av:f=none:=by rw[bj.o];exact zLx HX.o ba.o HO.o
     have br:=hy' av;clear av;go_wp2_with fail;go_ret2;refine⟨A3,n3,c3,?_,fun l' ah=>?_,?_⟩
     · rw[br.o];rfl
     · rw[br.o]at ah;cases ah
     rw[b1.o];exact bo.o.andThen cj.o fun j hj=>.inr hj
   obtain⟨ai,aj⟩:=cb.o l3 rfl;obtain⟨A4,c4,h4⟩:=zA3 ai
   injection h4 with h4a h4b h4c
   subst h4a h4b h4c;have bm:=hy' ai;have a8:=hy' aj;have dc:=zLy c7 HO.o;have dx:=cj.o.size;clear ai aj;go_wp2_with fail;refine⟨⟨t+1,A3,c3,l3,by omega,by go_num,rfl,rfl,?_,dc,bm.o,fun g hg=>?_,cj.o⟩,by simp[intOf];omega⟩
   · rw[zH8 HX.o ba.o,HO.o]
   rcases a8.o g hg with h|h
   · exact ae.o g h
   exact .inr (Zh df h)
 obtain rfl:t=q:=by omega
 have tI:¬(t:Int)<t:=by omega
 clear a1 af aa a6 bx b8 aq cd cg;go_wp2_with fail;go_ret2
 have hf:f=some ls:=by
  have:=ba.o;rw[Zi (by rw[HQ.o];exact Za _)]at this;rw[bj.o,this]
 refine⟨A2,ls.length,c2,?_,fun l' ah=>?_,?_⟩
 · rw[hf];rfl
 · rw[hf]at ah;cases ah
   refine⟨bl.o,fun g hg=>?_⟩;rw[b1.o];rcases ae.o g hg with h|h
   · exact .inl h
   exact .inr (by omega)
 rw[b1.o];exact dm.o
theorem zGH (T:List Rw.Row) (S:List Int) (W0:World) (v:Value) (ok:Md.Ok T) (h0:Md.Is W0 v T S):∀k,zKk T W0 v k
 | 0=>zIi T S W0 v ok h0 0 fun k' h=>absurd h (by omega)
 | k+1=>zIi T S W0 v ok h0 (k+1) fun k' h=>by
   obtain rfl:k=k':=by omega
   exact zGH T S W0 v ok h0 k
theorem Md.full_any (v:Value) (T:List Rw.Row) (S:List Int) (d:Int) (w:World) (ok:Md.Ok T) (h:Md.Is w v T S) (h3 : -2147483648≤d) (h4:d≤2147483647) :
 Calls prog 90 #[v,.int .i32 d] w (Md.RetOwn ((Md.full T d).getD []) w):=by
 have hv:=h;obtain⟨A,c,XA,xc,rfl,h2,hX⟩:=hv;obtain⟨xn,hxn⟩:∃k,S.length=k:=⟨_,rfl⟩;obtain⟨n,hn⟩:∃k,T.length=k:=⟨_,rfl⟩;rw[hn,hxn]at h ⊢;have af:Below w.heap.size w (w.alloc (.cells #[.slice A n c,.slice XA xn xc] 101)):=(Zc _ _).alloc (Za _) _;have ag:Rw.At (w.alloc (.cells #[.slice A n c,.slice XA xn xc] 101)) w.heap.size 101 [.slice A n c,.slice XA xn xc]:=Rw.At.new w 101 [.slice A n c,.slice XA xn xc];have hE:=zGH T S _ _ ok (h.below af) (T.length+3) [] (.slice none 0 0) d 0 _ (by omega) h3 h4 (by simp) (Zc _ _) (ZI _ _ _ _);have ah:zBO (Md.mp T) (T.length+3) [] d=Md.full T d:=rfl;rw[ah]at hE;obtain⟨o,ho⟩:∃o,Md.full T d=o:=⟨_,rfl⟩;rw[ho]at hE ⊢;have hole:∀l,o=some l→l.length≤32:=fun l hl=>zLy (by simp) (ah.trans (ho.trans hl))
 have z0:=ag.cell 0 rfl;have z1:=ag.cell 1 rfl;have HB:=hy' af;have ak:=hy' hole;clear h h2 hX hn hxn af ag ok ah ho hole;unfold zBd at hE ⊢;go_enter func90,ntmps90;go_wp2_with fail;refine hE.mono ?_;rintro e w1 ⟨A1,n1,c1,rfl,ae,hg⟩;have aj:=hy' (HB.o.trans (zAe hg HB.o.size fun k hk=>by cases hk));have ai:=hy' ae;clear ae hg hE z0 z1;rcases o with _|l
 · go_wp2_with fail;go_ret;exact⟨none,0,rfl,ZI _ _ _ _,aj.o⟩
 obtain⟨aa,_⟩:=ai.o l rfl;obtain⟨A4,c4,ao⟩:=zA3 aa
 injection ao with h4a h4b h4c
 subst h4a h4b h4c;have HO:=hy' (own_base aa (by simp:w.heap.size≤(w.alloc (.cells #[.slice A n c,.slice XA xn xc] 101)).heap.size));clear aa;go_wp2_with fail;go_ret;exact⟨A1,c1,rfl,HO.o,aj.o⟩
structure Ext (w:World) where
 val:World
 below:Below w.heap.size w val
instance (w:World):Nonempty (Ext w):=⟨⟨w,Zc _ _⟩⟩
theorem Ext.cell {w:World} (x:Ext w) {b:Nat} (o:Nat) (hb:b<w.heap.size):x.val.cell? ⟨b,o,none⟩=w.cell? ⟨b,o,none⟩:=(zAP x.below).1 b o hb
theorem Ext.cells {w:World} {b o:Nat} {v:Value} (h:w.cell? ⟨b,o,none⟩=some v) (hb:b<w.heap.size):∀x:Ext w,x.val.cell? ⟨b,o,none⟩=some v:=fun x=>(x.cell o hb).trans h
theorem Ext.call {P:Program} {f:FuncId} {args:Array Value} {w:World} {v:Value} (h:∀W,Below w.heap.size w W→Calls P f args W fun e w'=>e=.returned v∧Below W.heap.size W w') (x:Ext w) :
 Calls P f args x.val fun e w''=>e=.returned v∧∃y:Ext w,w''=y.val :=
 (h x.val x.below).mono fun _ w' ⟨he,hb⟩=>⟨he,⟨w',x.below.trans (hb.mono x.below.size)⟩,rfl⟩
theorem Ext.same {P:Program} {f:FuncId} {args:Array Value} {w:World} {v:Value} (h:∀W,Below w.heap.size w W→Calls P f args W fun e w'=>e=.returned v∧W=w') (x:Ext w) :
 Calls P f args x.val fun e w''=>e=.returned v∧∃y:Ext w,w''=y.val :=
 (h x.val x.below).mono fun _ w' ⟨he,hb⟩=>⟨he,x,hb.symm⟩
theorem zA7 {P:Program} {id:Nat} {Q:Exit→Act→World→Prop} {a:Act} {w:World} {l:List Oper} (hm:P.follows .mixedOrders=true) (hB:Region.lexB .any l.toArray=true)
 (h:wpQuiet P l.toArray (fun w'=>∃x:Ext w,w'=x.val) (fun a'=>∀x:Ext w,Q .normal a' x.val) l a):(Code.region id l.toArray true).wp P Q a w:=by
 refine wp_region_quiet (C:=fun w'=>∃x:Ext w,w'=x.val) hm hB ⟨⟨_,(Zc _ _).drew⟩,rfl⟩ ?_
 have:(fun a'=>∀x:Ext w,Q .normal a' x.val)=(fun a'=>∀w',(∃x:Ext w,w'=x.val)→Q .normal a' w'):=by
  funext a'
  exact propext ⟨fun h w' ⟨x,hx⟩=>by rw[hx];exact h x,fun h x=>h _ ⟨x,rfl⟩⟩
 rw[←this];simpa using h
theorem zIj (v:Value) (T:List Rw.Row) (S:List Int) (r:Rw.Row) (aA:Option Addr) (ac:Nat) (w:World) (ok:Md.Ok T) (h:Md.Is w v T S) (hS:C.srt S) (a7:S.length≤1000000) (hr : -2147483648≤r.1∧r.1≤2147483647) (hm:∀c∈r.2.2,-2147483648≤c∧c≤2147483647) (hl:r.2.2.length≤1000000) (hM:Sl w w.heap.size aA (r.2.2.map (Value.int .i32))) :
 Calls prog 131 #[v,zHD r (aA,ac)] w fun e w'=>e=.returned (.bool (zAc T (C.mem S) r))∧Below w.heap.size w w':=by
 obtain⟨A,c,XA,xc,rfl,h2,hX⟩:=id h;obtain⟨xn,hxn⟩:∃k,S.length=k:=⟨_,rfl⟩;obtain⟨n,hn⟩:∃k,T.length=k:=⟨_,rfl⟩;rw[hn,hxn]at h ⊢;obtain⟨ml,av⟩:∃k,r.2.2.length=k:=⟨_,rfl⟩;have ba:=hy' av;unfold zHD;rw[av]at hl ⊢;obtain⟨wa,aj⟩:∃wa,(w.alloc (.cells #[.slice A n c,.slice XA xn xc] 101)).alloc (.cells #[.int .i32 r.1,.int .i64 r.2.1,.slice aA ml ac] 109)=wa:=⟨_,rfl⟩;have ax:Below w.heap.size w wa:=by rw[←aj];exact ((Zc _ _).alloc (Za _) _).alloc (by simp) _
 have af:Rw.At wa w.heap.size 101 [.slice A n c,.slice XA xn xc]:=by rw[←aj];exact (Rw.At.new w 101 [.slice A n c,.slice XA xn xc]).alloc _
 have aa:Rw.At wa (w.heap.size+1) 109 [.int .i32 r.1,.int .i64 r.2.1,.slice aA ml ac]:=by
  have hh:=Rw.At.new (w.alloc (.cells #[.slice A n c,.slice XA xn xc] 101)) 109 [.int .i32 r.1,.int .i64 r.2.1,.slice aA ml ac];rw[ZK]at hh;rw[←aj];exact hh
 have ai:w.heap.size+1<wa.heap.size:=aa.lt;have z0:=af.cell 0 rfl;have z1:=af.cell 1 rfl;have y0:=aa.cell 0 rfl;have y1:=aa.cell 1 rfl;have y2:=aa.cell 2 rfl;have ak:=hy' aj;have ae:=hy' ax;have bh:=hy' (h.below ax);have HX:=hy' hX;have bj:=hy' hxn;have bi:=hy' hS;have bb:=hy' hM;have bn:=hy' hm;have bk:=hy' ok;have bl:=hy' af;have bo:=hy' aa;rw[hxn]at a7;obtain⟨cm,ah⟩:∃b,zAc T (C.mem S) r=b:=⟨_,rfl⟩;rw[ah];have ar:=hy' ah;clear aj ax h h2 hX hxn hS hM hm hn ok af aa ah av;unfold zBd;rcases hb1:(r.2.1 == 0) with _|_
 · go_enter func131,ntmps131;go_upto_region 1 with (fail)
   rw[ak.o];go_quiet (fail);go_wp2_with fail;go_ret
   have hc:cm=false:=by
    rw[←ar.o];unfold zAc;rw[decide_eq_false (by simpa using hb1),Bool.false_and]
   exact⟨by rw[hc];rfl,below_drewN ae.o _⟩
 rcases hb2:((ml:Int) == 2) with _|_
 · go_enter func131,ntmps131;go_upto_region 1 with (fail)
   rw[ak.o];go_quiet (fail);go_wp2_with fail;go_ret
   have hc:cm=false:=by
    rw[←ar.o];unfold zAc;have h2:¬r.2.2.length=2:=fun e=>by rw[ba.o]at e;rw[e]at hb2;simp at hb2
    rw[Zt h2,Xl,Kd]
   exact⟨by rw[hc];rfl,below_drewN ae.o _⟩
 obtain⟨x,y,aw⟩:∃x y,r.2.2=[x,y]:=by
  have h2:r.2.2.length=2:=by rw[ba.o];have:=beq_iff_eq.1 hb2;omega
  match hh:r.2.2,h2 with
  | [x,y],_=>exact⟨x,y,rfl⟩
 have aq:=bb.o.below ae.o ae.o.size;rw[aw]at aq;obtain⟨ab,ao,hA,bc,a8⟩:=aq (by simp);have a6:wa.cell? ⟨ab,ao,none⟩=some (.int .i32 x):=by simpa using a8 0 (by simp)
 subst hA;have hxb:=bn.o x (by rw[aw];simp);have ap:Hy (∀W,Below wa.heap.size wa W→Calls prog 169 #[.agg #[.slice A n c,.slice XA xn xc],.int .i32 x] W fun e w'=>e=.returned (.int .i64 (Md.cls T x))∧Below W.heap.size W w'):=hy' fun W hW=>Md.class_any _ T S x W bk.o (bh.o.below hW) hxb.1 hxb.2
 have az:Hy (∀W,Below wa.heap.size wa W→Calls prog 78 #[.agg #[.slice XA xn xc],.int .i32 r.1] W fun e w'=>e=.returned (.bool (C.mem S r.1))∧Below W.heap.size W w'):=hy' fun W hW=>zLv XA xc xn w.heap.size S r.1 W bj.o a7 bi.o (Zh ae.o.size hW.size) (HX.o.below (ae.o.trans (hW.mono ae.o.size)) (Za _))
 have bf:Below wa.heap.size wa wa:=Zc _ _
 have ah:cm=(decide (Md.cls T x=0)&&!C.mem S r.1):=by
  rw[←ar.o];unfold zAc;rw[Zu (beq_iff_eq.1 hb1),aw];rfl
 have ag:=hy' ah;have bp:0<ml:=by have:=beq_iff_eq.1 hb2;omega
 have bm:(0:Int)<ml:=by have:=beq_iff_eq.1 hb2;omega
 obtain⟨q,hq⟩:∃q,Md.cls T x=q:=⟨_,rfl⟩;rw[hq]at ap ag;have C1:=hy' (Ext.call ap.o);have C2:=hy' (Ext.call az.o);have f0:=Ext.cells z0 (Nat.lt_trans (ZN _) ai);have f1:=Ext.cells z1 (Nat.lt_trans (ZN _) ai);have f2:=Ext.cells y0 ai;have f3:=Ext.cells y1 ai;have f4:=Ext.cells y2 ai;have f5:=Ext.cells a6 bc;clear ah a8 aq hq ap az z0 z1 y0 y1 y2 a6 bf;rcases hb3:(q == 0) with _|_
 · have a1:decide (q=0)=false:=by simpa using hb3
   have au:Hy (cm=false):=hy' (by rw[ag.o,a1];rfl);clear a1;go_enter func131,ntmps131;go_upto_region 1 with (fail)
   rw[ak.o];refine zA7 (by kernel_rfl) (by kernel_rfl) ?_
   repeat (go_big_quiet_step ((first|(go_at_call 169;with_reducible exact C1.o _)|(go_at_call 78;with_reducible exact C2.o _))))
   refine wpQuiet_nil ?_;intro xw;have ay:=hy' (ae.o.trans (xw.below.mono ae.o.size));go_wp2_with fail;go_ret;exact⟨by rw[au.o];rfl,ay.o⟩
 have bg:q=0:=beq_iff_eq.1 hb3;subst bg;have au:Hy (cm=!C.mem S r.1):=hy' (by rw[ag.o];rfl);clear hb3;go_enter func131,ntmps131;go_upto_region 1 with (fail)
 rw[ak.o];refine zA7 (by kernel_rfl) (by kernel_rfl) ?_
 repeat (go_big_quiet_step ((first|(go_at_call 169;with_reducible exact C1.o _)|(go_at_call 78;with_reducible exact C2.o _))))
 refine wpQuiet_nil ?_;intro xw;have ay:=hy' (ae.o.trans (xw.below.mono ae.o.size));go_wp2_with fail;go_ret;exact⟨by rw[au.o];rfl,ay.o⟩
theorem zMW (v:Value) (T:List Rw.Row) (S:List Int) (d:Int) (w:World) (ok:Md.Ok T) (h:Md.Is w v T S) (hS:C.srt S) (a6:S.length≤1000000) (h3 : -2147483648≤d) (h4:d≤2147483647) :
 Calls prog 91 #[v,.int .i32 d] w fun e w'=>e=.returned (.bool (zAo T (C.mem S) d))∧Below w.heap.size w w':=by
 obtain⟨A,c,XA,xc,rfl,h2,hX⟩:=id h;obtain⟨xn,hxn⟩:∃k,S.length=k:=⟨_,rfl⟩;obtain⟨n,hn⟩:∃k,T.length=k:=⟨_,rfl⟩;rw[hn,hxn]at h ⊢;have ap:Below w.heap.size w (w.alloc (.cells #[.slice A n c,.slice XA xn xc] 101)):=(Zc _ _).alloc (Za _) _;have aj:Rw.At (w.alloc (.cells #[.slice A n c,.slice XA xn xc] 101)) w.heap.size 101 [.slice A n c,.slice XA xn xc]:=Rw.At.new w 101 [.slice A n c,.slice XA xn xc];have HF:=hy' (zGE d ok (h.below ap) h3 h4);have HP:=hy' (zBT d (w.alloc (.cells #[.slice A n c,.slice XA xn xc] 101)) h3 h4)
 have aa:Hy (∀(r:Rw.Row) (a:Option Addr × Nat) (W:World),Md.find T d=some r→Below w.heap.size w W→Sl W W.heap.size a.1 (r.2.2.map (Value.int .i32)) →
  Calls prog 131 #[.agg #[.slice A n c,.slice XA xn xc],zHD r a] W fun e w'=>e=.returned (.bool (zAc T (C.mem S) r))∧Below W.heap.size W w'):=hy' fun r a W hr hW ak=>by
  have hm:=(zAq hr).1;have hb:=ok.2.2.1 r hm;exact zIj _ T S r a.1 a.2 W ok (h.below hW) hS (by omega) hb.1 hb.2 (ok.2.2.2 r hm) ak
 have z0:=aj.cell 0 rfl;have z1:=aj.cell 1 rfl;have HB:=hy' ap;have ax:=hy' aj;rcases hpk:zAg d with ⟨x,y,is⟩
 have hp:=HP.o;rw[hpk]at hp;have ar:=hy' hpk;obtain⟨o,ho⟩:∃o,zAo T (C.mem S) d=o:=⟨_,rfl⟩;rw[ho];have HO:=hy' ho;clear h h2 hX hxn hn ap aj hpk HP ho hS ok;unfold zBd at HF ⊢;cases is
 rotate_left
 · have af:o=true:=by
    rw[←HO.o];unfold zAo;rw[ar.o];rfl
   have ag:=hy' af;clear af HF aa;go_enter func91,ntmps91;go_wp2_with fail;refine hp.mono ?_;rintro e w0 ⟨rfl,rfl⟩;go_wp2_with fail;go_ret;exact⟨by rw[ag.o];rfl,HB.o⟩
 go_enter func91,ntmps91;go_wp2_with fail;refine hp.mono ?_;rintro e w0 ⟨rfl,rfl⟩;go_wp2_with fail;refine HF.o.mono ?_;rintro e w1 ⟨a,rfl,ak,aq⟩;have ah:=hy' (HB.o.trans (aq.mono HB.o.size));have ae:=ax.o.below aq;have ay:=hy' ae;have k0:=ae.cell 0 rfl;have k1:=ae.cell 1 rfl;have a1:=ae.lt;have ao:=hy' ak;clear aq ak z0 z1 hp ae HF;rcases hfi:Md.find T d with _|r
 · have hro:Md.rowOf T d=(0,0,[]):=by unfold Md.rowOf;rw[hfi];rfl
   have af:o=false:=by
    rw[←HO.o];unfold zAo;rw[ar.o,hfi];rfl
   have ag:=hy' af;rw[hro];clear hro hfi af;unfold zHD;go_wp2_with fail;go_ret;exact⟨by rw[ag.o];rfl,ah.o.alloc ah.o.size _⟩
 have hro:Md.rowOf T d=r:=by unfold Md.rowOf;rw[hfi];rfl
 rw[hro]at ao
 have af:o=zAc T (C.mem S) r:=by
  rw[←HO.o];unfold zAo;rw[ar.o,hfi];rfl
 have ag:=hy' af;have ai:Below w1.heap.size w1 (w1.alloc (.cells #[.int .i32 r.1,.int .i64 r.2.1,.slice a.1 r.2.2.length a.2] 109)):=(Zc _ _).alloc (Za _) _;have HC:=hy' (aa.o r a _ hfi (ah.o.trans (ai.mono ah.o.size)) (ao.o.below ai ai.size));have av:=hy' (ah.o.trans (ai.mono ah.o.size));rw[hro];obtain⟨cr,au⟩:∃b,zAc T (C.mem S) r=b:=⟨_,rfl⟩;rw[au]at HC ag;clear hro hfi af ai au ao aa;unfold zHD at HC ⊢;go_wp2_with fail;refine HC.o.mono ?_;rintro e wk ⟨rfl,aw⟩;have az:=hy' (av.o.trans (aw.mono av.o.size));clear aw;go_wp2_with fail;go_ret;exact⟨by rw[ag.o];rfl,az.o⟩
theorem zBq (c:Int) (w:World):Calls prog 39 #[.int .i32 c] w fun e w'=>e=.returned (.bool (C.isC c))∧w=w':=by
 have e:C.isC c=(decide (0≤c)&&decide (c≤1114111)&&(decide (c<55296)||decide (57343<c))):=by
  unfold C.isC;rw[Yg];simp;omega
 rw[e];clear e
 by_cases h1:0≤c <;> by_cases h2:c≤1114111 <;> by_cases h3:c<55296 <;> by_cases h4:57343<c
 all_goals
  first
   | (exfalso;omega)
   | (go_enter func39,ntmps39
      go_wp2;go_ret;exact⟨by simp[h1,h2,h3,h4],rfl⟩)
def zB9:Nat→ByteArray
 | 0=>⟨#[]⟩
 | 1=>⟨#[114,111,119]⟩
 | 2=>⟨#[104,97,110,103,117,108]⟩
 | 3=>⟨#[116,97,114,103,101,116]⟩
 | 4=>⟨#[102,117,108,108]⟩
 | _=>⟨#[112,97,105,114]⟩
def zGI (r:Rw.Row) (k:Nat):Bool:=(r.1::r.2.2.take k).any fun c=>decide (zA2 c≠0)
def zKl (r:Rw.Row) (k:Nat):Bool:=(r.2.2.take k).any fun c=>!C.isC c
theorem zOK (r:Rw.Row):zGI r 0=decide (zA2 r.1≠0):=by simp[zGI]
theorem zOL {r:Rw.Row} {k:Nat} {x:Int} (h:r.2.2[k]?=some x):zGI r (k+1)=(zGI r k||decide (zA2 x≠0)):=by
 unfold zGI;rw[ZA,h,←Zo,Qu];simp
theorem zOM {r:Rw.Row} {k:Nat} {x:Int} (h:r.2.2[k]?=some x):zKl r (k+1)=(zKl r k||!C.isC x):=by
 unfold zKl;rw[ZA,h,Qu];simp
theorem zQ0 (last:Int) (r:Rw.Row):Md.bad last r=if (!C.isC r.1||decide (r.1≤last)||decide (r.2.1<0)||decide (254<r.2.1)||decide (2<r.2.2.length))=true then 1
 else if zGI r r.2.2.length=true then 2 else if zKl r r.2.2.length=true then 3 else 0:=by
 unfold Md.bad zGI zKl;rw[QR]
theorem Md.row_any (r:Rw.Row) (aA:Option Addr) (ac:Nat) (last:Int) (w:World) (hr : -2147483648≤r.1∧r.1≤2147483647) (bl : -2147483648≤last∧last≤2147483647) (hm:∀c∈r.2.2,-2147483648≤c∧c≤2147483647) (hl:r.2.2.length≤1000000) (hM:Sl w w.heap.size aA (r.2.2.map (Value.int .i32))) :
 Calls prog 128 #[zHD r (aA,ac),.int .i32 last] w fun e w'=>e=.returned (.string (zB9 (Md.bad last r)))∧Below w.heap.size w w':=by
 rw[zQ0];obtain⟨ml,ar⟩:∃k,r.2.2.length=k:=⟨_,rfl⟩;have ah:=zOK r;obtain⟨bk,h0⟩:∃b,zGI r 0=b:=⟨_,rfl⟩;unfold zHD;rw[ar]at hl ⊢;have aq:=hy' ar;obtain⟨res,ae⟩:∃n,(if (!C.isC r.1||decide (r.1≤last)||decide (r.2.1<0)||decide (254<r.2.1)||decide (2<ml))=true then 1 else if zGI r ml=true then 2 else if zKl r ml=true then 3 else 0)=n:=⟨_,rfl⟩;rw[ae];have aa:=hy' ae;clear ae;have ak:Below w.heap.size w (w.alloc (.cells #[.int .i32 r.1,.int .i64 r.2.1,.slice aA ml ac] 109)):=(Zc _ _).alloc (Za _) _;have ai:Rw.At (w.alloc (.cells #[.int .i32 r.1,.int .i64 r.2.1,.slice aA ml ac] 109)) w.heap.size 109 [.int .i32 r.1,.int .i64 r.2.1,.slice aA ml ac]:=Rw.At.new w 109 [.int .i32 r.1,.int .i64 r.2.1,.slice aA ml ac];have bi:=hy' ai;have HB:=hy' ak;have av:=hM.below ak ak.size;have HS:=hy' av;have bg:=hy' hm;have bc:=hy' ah;obtain⟨c0,c1,c2,_,_,_⟩:=ai.three;obtain⟨wa,au⟩:∃wa,w.alloc (.cells #[.int .i32 r.1,.int .i64 r.2.1,.slice aA ml ac] 109)=wa:=⟨_,rfl⟩;have a1:=Hg.of_any r.1 wa hr.1 hr.2;have hU:=zBq r.1 wa;rw[au]at c0 c1 c2 ai;have bj:=ai.lt;have aj:=hy' au;have bf:=hr.1;have bb:=hr.2;obtain⟨a7,ag⟩:∃k,zA2 r.1=k:=⟨_,rfl⟩;rw[ag]at a1
 have aw:zGI r 0=!(a7 == 0):=by
  rw[ah,ag,Yg];simp
 have bh:=hy' aw;clear ar ah ai ak av hM hm h0 hr au ag aw;go_enter func128,ntmps128;go_upto_region 1 with (fail)
 rw[aj.o];go_wp2_with fail;refine a1.mono ?_;rintro e w0 ⟨rfl,rfl⟩;go_wp2_with fail;go_loop [5,6,16] (fun v5 v6 i=>∃k:Nat,k≤ml∧i=.int .i64 k∧v5=.bool (zGI r k)∧v6=.bool (zKl r k)) (fun _ _ i=>ml-(intOf i).toNat)
 case atStart=>exact⟨0,ZG _,rfl,by rw[bh.o];rfl,rfl⟩
 obtain⟨k,hk,rfl,rfl,rfl⟩:=hrel
 by_cases hlt':k<ml
 · obtain⟨x,hx⟩:∃x,r.2.2[k]?=some x:=⟨_,Zb (by rw[aq.o];exact hlt')⟩;have hxb:=bg.o x (Zk hx);obtain⟨ab,ao,hA,a8,ax⟩:=HS.o (by rw[Ze,aq.o];omega);have hc:=ax k (by rw[Ze,aq.o];exact hlt');rw[Zw,hx,Zx,aj.o]at hc;rw[aj.o]at a8;have h1:=zOL hx;have h2:=zOM hx;have hO:=Hg.of_any x wa hxb.1 hxb.2;have hI:=zBq x wa;obtain⟨ox,ay⟩:∃k,zA2 x=k:=⟨_,rfl⟩;obtain⟨ix,az⟩:∃k,C.isC x=k:=⟨_,rfl⟩;obtain⟨t,ht⟩:∃b,zGI r k=b:=⟨_,rfl⟩;obtain⟨s,hs⟩:∃b,zKl r k=b:=⟨_,rfl⟩;rw[ay]at hO h1;rw[az]at hI h2;rw[ht]at h1 ⊢;rw[hs]at h2 ⊢;have hd:decide (ox≠0)=!(ox == 0):=by rw[Yg];simp
   rw[hd]at h1;have H1:=hy' h1;have H2:=hy' h2;subst hA;clear hx ax ay az ht hs h1 h2 hd;have ba:(k:Int)<ml:=by omega
   cases t <;> cases s
   all_goals
    go_wp2_with (first|(go_at_call 77;refine hO.mono ?_;rintro e w' ⟨rfl,rfl⟩)|(go_at_call 39;refine hI.mono ?_;rintro e w' ⟨rfl,rfl⟩)|fail);go_round
    case rel=>exact⟨k+1,by omega,by go_num,by rw[H1.o];rfl,by rw[H2.o];rfl⟩
    simp[intOf];omega
 obtain rfl:k=ml:=by omega
 have a6:Below w.heap.size w wa:=by rw[←aj.o];exact HB.o
 have af:=hy' a6;obtain⟨t,ht⟩:∃b,zGI r k=b:=⟨_,rfl⟩;obtain⟨s,hs⟩:∃b,zKl r k=b:=⟨_,rfl⟩;obtain⟨ic,ap⟩:∃b,C.isC r.1=b:=⟨_,rfl⟩;rw[ht,hs];rw[ap]at hU;have ae:=aa.o;rw[ht,hs,ap]at ae;clear aa;have aa:=hy' ae;clear a6 ht hs ap ae;cases ic
 · have he:1=res:=aa.o;subst he;go_wp2_with (first|(go_at_call 39;refine hU.mono ?_;rintro e w' ⟨rfl,rfl⟩)|fail);go_ret;exact⟨rfl,af.o⟩
 rcases hb2:decide (r.1≤last) with _|_
 rotate_left
 · have he:1=res:=by rw[←aa.o,hb2];rfl
   subst he;go_wp2_with (first|(go_at_call 39;refine hU.mono ?_;rintro e w' ⟨rfl,rfl⟩)|fail);go_ret;exact⟨rfl,af.o⟩
 rcases hb3:decide (r.2.1<0) with _|_
 rotate_left
 · have he:1=res:=by rw[←aa.o,hb2,hb3];rfl
   subst he;go_wp2_with (first|(go_at_call 39;refine hU.mono ?_;rintro e w' ⟨rfl,rfl⟩)|fail);go_ret;exact⟨rfl,af.o⟩
 rcases hb4:decide (254<r.2.1) with _|_
 · rcases hb5:decide (2<(k:Int)) with _|_
   · have h5:decide (2<k)=false:=by simp at hb5 ⊢;omega
     cases t
     · cases s
       · have he:0=res:=by rw[←aa.o,hb2,hb3,hb4,h5];rfl
         subst he;clear h5;go_wp2_with (first|(go_at_call 39;refine hU.mono ?_;rintro e w' ⟨rfl,rfl⟩)|fail);go_ret;exact⟨rfl,af.o⟩
       have he:3=res:=by rw[←aa.o,hb2,hb3,hb4,h5];rfl
       subst he;clear h5;go_wp2_with (first|(go_at_call 39;refine hU.mono ?_;rintro e w' ⟨rfl,rfl⟩)|fail);go_ret;exact⟨rfl,af.o⟩
     have he:2=res:=by rw[←aa.o,hb2,hb3,hb4,h5];rfl
     subst he;clear h5;go_wp2_with (first|(go_at_call 39;refine hU.mono ?_;rintro e w' ⟨rfl,rfl⟩)|fail);go_ret;exact⟨rfl,af.o⟩
   have h5:decide (2<k)=true:=by simp at hb5 ⊢;omega
   have he:1=res:=by rw[←aa.o,hb2,hb3,hb4,h5];rfl
   subst he;clear h5;go_wp2_with (first|(go_at_call 39;refine hU.mono ?_;rintro e w' ⟨rfl,rfl⟩)|fail);go_ret;exact⟨rfl,af.o⟩
 have he:1=res:=by rw[←aa.o,hb2,hb3,hb4];rfl
 subst he;go_wp2_with (first|(go_at_call 39;refine hU.mono ?_;rintro e w' ⟨rfl,rfl⟩)|fail);go_ret;exact⟨rfl,af.o⟩
end
section
open Go.RowKit Go.Stop
def F.Ch (w:World) (B:Nat):List (Nat × Int × Int × ByteArray)→Value→Prop
 | [],v=>v=.nilIface
 | (b,c,n,s)::t,v=>v=.iface 162 (.pointer (some ⟨b,0,none⟩))∧b<B∧∃e,w.heap[b]?=some (.cells #[.int .i64 c,.int .i64 n,.string s,e] 164 (0,0))∧F.Ch w B t e
theorem F.Ch.below {w w':World} {B B0 B':Nat} (hb:Below B0 w w') (h0:B≤B0) (h1:B≤B'):∀{q:List (Nat × Int × Int × ByteArray)} {v:Value},F.Ch w B q v→F.Ch w' B' q v
 | [],v,h=>h
 | (b,c,n,s)::t,v,h=>by
  obtain⟨h2,h3,e,h4,h5⟩:=h;exact⟨h2,by omega,e,(hb.block b (by omega)).trans h4,F.Ch.below hb h0 h1 h5⟩
def F.lk (q:List (Nat × Int × Int × ByteArray)):List (Int × Int × ByteArray):=q.map (·.2)
def zFI (l:List (Int × Int × ByteArray)) (w:World) (e:Ending) (w':World):Prop :=
 ∃q v,e=.returned v∧F.lk q=l∧F.Ch w' w'.heap.size q v∧Below w.heap.size w w'
theorem zO5 (c n:Int) (s:ByteArray) (w:World) :
 Calls prog 63 #[.int .i64 c,.int .i64 n,.string s] w (zFI (if c=0 then [] else [(c,n,s)]) w):=by
 by_cases hc:c=0
 · rw[Zl hc];subst hc;go_enter func63,ntmps63;go_wp2;go_ret;exact⟨[],.nilIface,rfl,rfl,rfl,Zc _ _⟩
 rw[Zj hc];go_enter func63,ntmps63;go_wp2;go_ret;have hn:=ZV w (.cells #[.int .i64 c,.int .i64 n,.string s,.nilIface] 164);have hs:w.heap.size<(w.alloc (.cells #[.int .i64 c,.int .i64 n,.string s,.nilIface] 164)).heap.size:=by simp
 have aa:Below w.heap.size w (w.alloc (.cells #[.int .i64 c,.int .i64 n,.string s,.nilIface] 164)):=(Zc _ _).alloc (Za _) _;exact⟨[(w.heap.size,c,n,s)],_,rfl,rfl,⟨rfl,hs,.nilIface,hn,rfl⟩,aa⟩
theorem F.of_any (c:Int) (w:World) :
 Calls prog 30 #[.int .i64 c] w (zFI (if c=0 then [] else [(c,0,⟨#[]⟩)]) w):=by
 have HA:=hy' (zO5 c 0 ⟨#[]⟩ w);obtain⟨l,aa⟩:∃l,(if c=0 then [] else [(c,(0:Int),(⟨#[]⟩:ByteArray))])=l:=⟨_,rfl⟩;rw[aa]at HA ⊢;clear aa;go_enter func30,ntmps30;go_wp2_with fail;refine HA.o.mono ?_;rintro e w1 ⟨q,v,rfl,hl,hq,hb⟩;go_wp2;go_ret;exact⟨q,v,rfl,hl,hq,hb⟩
end
end Go.Proofs.YthngjlllojiacaaGreatDoor
