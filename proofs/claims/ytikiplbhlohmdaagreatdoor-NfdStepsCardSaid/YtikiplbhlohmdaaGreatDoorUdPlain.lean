/- The layer cpset in plain Lean: sets as rising lists of places. No program in sight. -/
import Derived.Test.YtikiplbhlohmdaaGreatDoorMdFull
set_option linter.unusedVariables false
set_option linter.unusedSimpArgs false
namespace Go.Proofs.YtikiplbhlohmdaaGreatDoor
def C.srt (l:List Int):Prop:=l.Pairwise (· < ·)
def C.mem:List Int→Int→Bool
 | [],_=>false
 | x::l,c=>decide (x≤c)&&!C.mem l c
theorem C.mem_cons (x:Int) (l:List Int) (c:Int):C.mem (x::l) c=(decide (x≤c)&&!C.mem l c):=rfl
theorem C.mem_low {l:List Int} {c:Int} (h:∀y∈l,c<y):C.mem l c=false:=by
 cases l with
 | nil=>rfl
 | cons x l=>rw[C.mem_cons,Zo (by have:=h x (by simp);omega)];rfl
theorem C.srt_tail {x:Int} {l:List Int} (h:C.srt (x::l)):C.srt l:=(List.pairwise_cons.1 h).2
theorem C.srt_head {x:Int} {l:List Int} (h:C.srt (x::l)):∀y∈l,x<y:=(List.pairwise_cons.1 h).1
theorem C.mem_low' {x:Int} {l:List Int} (h:C.srt (x::l)) {c:Int} (hc:c≤x):C.mem l c=false :=
 C.mem_low fun y hy=>by have:=C.srt_head h y hy;omega
theorem C.canon:∀(l l':List Int),C.srt l→C.srt l'→(∀c,C.mem l c=C.mem l' c)→l=l'
 | [],[],_,_,_=>rfl
 | [],x::l',_,h',h=>by
   have:=h x
   rw[C.mem_cons,C.mem_low' h' (YQ _)]at this
   simp[C.mem]at this
 | x::l,[],h1,_,h=>by
   have:=h x
   rw[C.mem_cons,C.mem_low' h1 (YQ _)]at this
   simp[C.mem]at this
 | x::l,y::l',h1,h2,h=>by
   have hx:=h x
   have hy:=h y
   rw[C.mem_cons,C.mem_cons,C.mem_low' h1 (YQ _)]at hx
   rw[C.mem_cons,C.mem_cons,C.mem_low' h2 (YQ _)]at hy
   have e:x=y:=by
    rcases Int.lt_trichotomy x y with aa|he|hgt
    · rw[Zo (show ¬y≤x by omega)]at hx;simp at hx
    · exact he
    · rw[Zo (show ¬x≤y by omega)]at hy;simp at hy
   subst e
   rw[C.canon l l' (C.srt_tail h1) (C.srt_tail h2)]
   intro c
   by_cases hc:x≤c
   · have:=h c
     rw[C.mem_cons,C.mem_cons,Zn hc]at this
     simpa using this
   · rw[C.mem_low' h1 (by omega),C.mem_low' h2 (by omega)]
def C.ok (l:List Int):Prop:=C.srt l∧(∀x∈l,0≤x∧x≤1114112)∧l.length%2=0
def C.rngs:List Int→List (Int × Int)
 | x::y::t=>(x,y-1)::C.rngs t
 | _=>[]
def C.count:List Int→Int
 | x::y::t=>y-x+C.count t
 | _=>0
def C.idx:List Int→Int→Int
 | x::y::t,c=>(if x<c then min c y-x else 0)+C.idx t c
 | _,_=>0
def C.cnt (p:Int→Bool):Nat→Nat
 | 0=>0
 | n+1=>C.cnt p n+(if p n then 1 else 0)
theorem C.cnt_succ (p:Int→Bool) (n:Nat):C.cnt p (n+1)=C.cnt p n+(if p n then 1 else 0):=rfl
theorem C.idx_step:∀(l:List Int),C.srt l→l.length%2=0→∀c:Int,C.idx l (c+1)=C.idx l c+(if C.mem l c then 1 else 0)
 | [],_,_,_=>rfl
 | [x],_,h,_=>by simp at h
 | x::y::t,hs,hl,c=>by
   have ht:=C.srt_tail (C.srt_tail hs)
   have aa:=C.srt_head hs y (by simp)
   have ih:=C.idx_step t ht (by simp at hl;omega) c
   show (if x<c+1 then min (c+1) y-x else 0)+C.idx t (c+1)=(if x<c then min c y-x else 0)+C.idx t c+_
   rw[ih,C.mem_cons,C.mem_cons]
   by_cases h1:x≤c
   · by_cases h2:y≤c
     · rw[Zn h1,Zn h2]
       rw[Zp (show x<c+1 by omega)]
       by_cases h3:x<c
       · rw[Zp h3];simp only[YU,Bool.not_not];omega
       · omega
     · have hm:C.mem t c=false:=C.mem_low' (C.srt_tail hs) (by omega)
       rw[Zn h1,Zo h2,hm,Zp (show x<c+1 by omega)]
       by_cases h3:x<c
       · rw[Zp h3];simp;omega
       · rw[Zl h3];simp;omega
   · have hm:C.mem t c=false:=C.mem_low' (C.srt_tail hs) (by omega)
     rw[Zo h1,hm,Zl (show ¬x<c+1 by omega),Zl (show ¬x<c by omega)]
     simp
theorem C.idx_low:∀(l:List Int) (c:Int),(∀x∈l,c≤x)→C.idx l c=0
 | [],_,_=>rfl
 | [x],_,_=>rfl
 | x::y::t,c,h=>by
   show (if x<c then min c y-x else 0)+C.idx t c=0
   rw[Zl (by have:=h x (by simp);omega),C.idx_low t c (fun z hz=>h z (by simp[hz]))]
   rfl
theorem C.idx_cnt {l:List Int} (h:C.ok l) (n:Nat):C.idx l (n:Int)=C.cnt (C.mem l) n:=by
 induction n with
 | zero=>exact C.idx_low l 0 (fun x hx=>(h.2.1 x hx).1)
 | succ n ih =>
   rw[show ((n+1:Nat):Int)=(n:Int)+1 by omega,C.idx_step l h.1 h.2.2,ih,C.cnt_succ]
   split <;> simp
theorem C.idx_count:∀(l:List Int) (c:Int),C.srt l→(∀x∈l,x≤c)→C.idx l c=C.count l
 | [],_,_,_=>rfl
 | [x],_,_,_=>rfl
 | x::y::t,c,hs,h=>by
   have aa:=C.srt_head hs y (by simp)
   have hy:=h y (by simp)
   show (if x<c then min c y-x else 0)+C.idx t c=y-x+C.count t
   rw[Zp (by omega),C.idx_count t c (C.srt_tail (C.srt_tail hs)) (fun z hz=>h z (by simp[hz]))]
   omega
theorem C.count_cnt {l:List Int} (h:C.ok l):C.count l=C.cnt (C.mem l) 1114112:=by
 rw[←C.idx_cnt h]
 exact (C.idx_count l _ h.1 (fun x hx=>(h.2.1 x hx).2)).symm
theorem C.cnt_le (p:Int→Bool) (n:Nat):C.cnt p n≤n:=by
 induction n with
 | zero=>exact Zb _
 | succ n ih=>rw[C.cnt_succ];split <;> omega
theorem C.count_bd {l:List Int} (h:C.ok l):0≤C.count l∧C.count l≤1114112:=by
 rw[C.count_cnt h]
 have:=C.cnt_le (C.mem l) 1114112
 omega
theorem C.rngs_len:∀l:List Int,(C.rngs l).length=l.length/2
 | []=>rfl
 | [x]=>by simp[C.rngs]
 | x::y::t=>by
   show (C.rngs t).length+1=(t.length+1+1)/2
   rw[C.rngs_len t];omega
theorem C.rngs_get:∀(l:List Int) (k:Nat) (hk:2*k+1<l.length),(C.rngs l)[k]?=some (l[2*k]'(by omega),l[2*k+1]'hk-1)
 | [],k,hk=>by simp at hk
 | [x],k,hk=>by simp at hk
 | x::y::t,0,hk=>rfl
 | x::y::t,k+1,hk=>by
   have:=C.rngs_get t k (by simp at hk;omega)
   show (C.rngs t)[k]?=_
   rw[this]
   simp only[show 2*(k+1)=2*k+1+1 by omega,show 2*(k+1)+1=(2*k+1)+1+1 by omega,List.getElem_cons_succ]
def C.isC (c:Int):Bool:=decide (0≤c∧c≤1114111∧(c<55296∨57343<c))
def Md.find (T:List Rw.Row) (c:Int):Option Rw.Row:=T.find? fun r=>decide (r.1=c)
def Md.cls (T:List Rw.Row) (c:Int):Int:=((Md.find T c).map fun r=>r.2.1).getD 0
def Md.rmp (T:List Rw.Row) (c:Int):List Int:=((Md.find T c).map fun r=>r.2.2).getD []
def Md.mp (T:List Rw.Row) (c:Int):List Int:=if (Hg.pairK c).2.2=true then [(Hg.pairK c).1,(Hg.pairK c).2.1] else Md.rmp T c
def Md.full (T:List Rw.Row) (c:Int):Option (List Int):=Md.exp (Md.mp T) (T.length+3) [] c
def Md.comp (T:List Rw.Row) (X:Int→Bool) (r:Rw.Row):Bool:=decide (r.2.1=0)&&(decide (r.2.2.length=2)&&(decide (Md.cls T (r.2.2.headD 0)=0)&&!X r.1))
def Md.prim (T:List Rw.Row) (X:Int→Bool) (c:Int):Bool:=(Hg.pairK c).2.2||((Md.find T c).map (Md.comp T X)).getD false
def Md.bad (last:Int) (r:Rw.Row):Nat :=
 if (!C.isC r.1||decide (r.1≤last)||decide (r.2.1<0)||decide (254<r.2.1)||decide (2<r.2.2.length))=true then 1
 else if ((r.1::r.2.2).any fun c=>decide (Hg.ofK c≠0))=true then 2
 else if (r.2.2.any fun c=>!C.isC c)=true then 3 else 0
def Md.rowsBad:Int→List Rw.Row→Nat
 | _,[]=>0
 | last,r::l=>if Md.bad last r=0 then Md.rowsBad r.1 l else Md.bad last r
def Md.fullBad (T:List Rw.Row):Bool:=T.any fun r=>(Md.full T r.1).isNone
def Md.twice (T:List Rw.Row) (X:Int→Bool):List (List Int)→List Rw.Row→Bool
 | _,[]=>false
 | seen,r::l=>if Md.comp T X r=true then (seen.contains r.2.2||Md.twice T X (seen++[r.2.2]) l) else Md.twice T X seen l
def Md.chk (T:List Rw.Row) (X:Int→Bool):Nat :=
 if Md.rowsBad (-1) T≠0 then Md.rowsBad (-1) T else if Md.fullBad T=true then 4 else if Md.twice T X [] T=true then 5 else 0
theorem Md.bad_le (last:Int) (r:Rw.Row):Md.bad last r≤3:=by
 unfold Md.bad
 repeat' split
 all_goals omega
def Md.good (r:Rw.Row):Prop:=C.isC r.1=true∧0≤r.2.1∧r.2.1≤254∧r.2.2.length≤2∧Hg.ofK r.1=0∧∀c∈r.2.2,C.isC c=true∧Hg.ofK c=0
theorem Md.bad_zero {last:Int} {r:Rw.Row} (h:Md.bad last r=0):Md.good r∧last<r.1:=by
 unfold Md.bad at h
 split at h
 · cases h
 · rename_i h1
   split at h
   · cases h
   · rename_i h2
     split at h
     · cases h
     · rename_i h3
       simp only[XS,Xm,Zm,not_or,Bool.not_eq_false,Int.not_le,Int.not_lt,Nat.not_lt]at h1
       obtain⟨⟨⟨⟨a1,a2⟩,a3⟩,a4⟩,a5⟩:=h1
       simp only[YB,Zm,not_exists,not_and,Decidable.not_not]at h2
       simp only[YB,Xm,not_exists,not_and,Bool.not_eq_false]at h3
       exact⟨⟨a1,a3,a4,a5,h2 r.1 Zv,fun c hc=>⟨h3 c hc,h2 c (Zx _ hc)⟩⟩,a2⟩
def Md.rises (T:List Rw.Row):Prop:=T.Pairwise fun r q=>r.1<q.1
theorem Md.rowsBad_zero:∀(l:List Rw.Row) (last:Int),Md.rowsBad last l=0→(∀r∈l,Md.good r∧last<r.1)∧Md.rises l
 | [],_,_=>⟨fun r hr=>absurd hr YS,List.Pairwise.nil⟩
 | r::l,last,h=>by
   unfold Md.rowsBad at h
   by_cases hb:Md.bad last r=0
   · rw[Zp hb]at h
     obtain⟨h1,h2⟩:=Md.bad_zero hb
     obtain⟨h3,h4⟩:=Md.rowsBad_zero l r.1 h
     refine⟨fun q hq=>?_,List.Pairwise.cons (fun q hq=>(h3 q hq).2) h4⟩
     rcases List.mem_cons.1 hq with rfl|hq
     · exact⟨h1,h2⟩
     · exact⟨(h3 q hq).1,by have:=(h3 q hq).2;omega⟩
   · rw[Zl hb]at h
     exact absurd h hb
theorem Md.rises_get {T:List Rw.Row} (h:Md.rises T) {i j:Nat} {r q:Rw.Row} (hi:T[i]?=some r) (hj:T[j]?=some q) (hij:i<j):r.1<q.1:=by
 obtain⟨a1,rfl⟩:=List.getElem?_eq_some_iff.1 hi
 obtain⟨a2,rfl⟩:=List.getElem?_eq_some_iff.1 hj
 exact List.pairwise_iff_getElem.1 h i j a1 a2 hij
theorem Md.find_mem {T:List Rw.Row} (h:Md.rises T) {r:Rw.Row} (hr:r∈T):Md.find T r.1=some r:=by
 induction T with
 | nil=>cases hr
 | cons q l ih =>
   unfold Md.rises at h
   rw[Xx]at h
   unfold Md.find
   rw[List.find?_cons]
   rcases List.mem_cons.1 hr with rfl|hr
   · simp
   · rw[Zo (by have:=h.1 r hr;omega)]
     exact ih h.2 hr
theorem Md.find_at {T:List Rw.Row} (h:Md.rises T) {i:Nat} {r:Rw.Row} (hi:T[i]?=some r):Md.find T r.1=some r:=Md.find_mem h (Zk hi)
theorem Md.find_none {T:List Rw.Row} {c:Int} (h:∀r∈T,r.1≠c):Md.find T c=none:=by
 unfold Md.find
 rw[List.find?_eq_none]
 intro r hr
 simpa using h r hr
theorem Md.find_some {T:List Rw.Row} {c:Int} {r:Rw.Row} (h:Md.find T c=some r):r∈T∧r.1=c:=by
 unfold Md.find at h
 exact⟨List.mem_of_find?_eq_some h,by simpa using List.find?_some h⟩
theorem Md.find_cut {T:List Rw.Row} (h:Md.rises T) (c:Int) (i:Nat) (h1:∀t r,t<i→T[t]?=some r→r.1<c) (h2:∀t r,i≤t→T[t]?=some r→c≤r.1) :
 Md.find T c=(T[i]?).bind fun r=>if r.1=c then some r else none:=by
 cases hi:T[i]? with
 | none =>
   refine Md.find_none fun r hr=>?_
   obtain⟨t,ht⟩:=List.mem_iff_getElem?.1 hr
   have hlen:=List.getElem?_eq_none_iff.1 hi
   obtain⟨a1,_⟩:=List.getElem?_eq_some_iff.1 ht
   have:=h1 t r (by omega) ht
   omega
 | some r =>
   rw[Zr]
   by_cases hc:r.1=c
   · rw[Zp hc,←hc,Md.find_at h hi]
   · rw[Zl hc]
     refine Md.find_none fun q hq=>?_
     obtain⟨t,ht⟩:=List.mem_iff_getElem?.1 hq
     have:=h2 i r (Zb _) hi
     by_cases a:t<i
     · have:=h1 t q a ht;omega
     · by_cases b:t=i
       · subst b;rw[hi]at ht;cases ht;exact hc
       · have:=Md.rises_get h hi ht (by omega)
         omega
theorem Md.pair_bd' (c:Int):0≤(Hg.pairK c).1∧(Hg.pairK c).1≤60000∧0≤(Hg.pairK c).2.1∧(Hg.pairK c).2.1≤60000:=by
 have key:Hg.ofK c=4∨Hg.ofK c=5→44032≤c∧c<55204:=by
  unfold Hg.ofK
  grind
 unfold Hg.pairK
 split
 · rename_i h
   have:=key (.inl h)
   simp only
   omega
 · split
   · rename_i h
     have:=key (.inr h)
     simp only
     omega
   · simp
def Md.bd (T:List Rw.Row):Prop:=∀r∈T,(-2147483648≤r.1∧r.1≤2147483647)∧∀c∈r.2.2,-2147483648≤c∧c≤2147483647
theorem Md.mp_bd {T:List Rw.Row} (h:Md.bd T) (c:Int):∀d∈Md.mp T c,-2147483648≤d∧d≤2147483647:=by
 intro d hd
 unfold Md.mp at hd
 split at hd
 · have:=Md.pair_bd' c
   simp only[Xd,YS,or_false]at hd
   rcases hd with rfl|rfl <;> omega
 · unfold Md.rmp at hd
   cases hf:Md.find T c with
   | none=>rw[hf]at hd;cases hd
   | some r =>
     rw[hf]at hd
     exact (h r (Md.find_some hf).1).2 d hd
theorem Md.pairK_zero {c:Int} (h:Hg.ofK c=0):(Hg.pairK c).2.2=false:=by
 unfold Hg.pairK
 rw[Zl (by omega),Zl (by omega)]
theorem Md.prim_row {T:List Rw.Row} {X:Int→Bool} (hr:Md.rises T) {r:Rw.Row} (hm:r∈T) (hg:Md.good r):Md.prim T X r.1=Md.comp T X r:=by
 unfold Md.prim
 rw[Md.pairK_zero hg.2.2.2.2.1,Md.find_mem hr hm,YV]
 rfl
def Md.ahead (T:List Rw.Row) (X:Int→Bool) (pre:List Rw.Row) (r:Rw.Row):Bool:=pre.any fun q=>Md.comp T X r&&(Md.comp T X q&&decide (q.2.2=r.2.2))
def Md.docTwice (T:List Rw.Row) (X:Int→Bool):List Rw.Row→List Rw.Row→Bool
 | _,[]=>false
 | pre,r::l=>Md.ahead T X pre r||Md.docTwice T X (pre++[r]) l
theorem Md.any_map {α β:Type} [BEq β] [LawfulBEq β] (p:α→Bool) (f:α→β) (y:β):∀(l:List α),((l.filter p).map f).contains y=l.any fun q=>p q&&(f q == y)
 | []=>rfl
 | q::l=>by
   rw[Yo,List.any_cons]
   by_cases h:p q=true
   · rw[Zp h,ZT,List.contains_cons,Md.any_map p f y l,h,YU]
     congr 1
     exact Bool.eq_iff_iff.2 ⟨fun e=>by simp at e;simp[e],fun e=>by simp at e;simp[e]⟩
   · rw[Zl h,Md.any_map p f y l]
     simp[h]
theorem Md.twice_doc (T:List Rw.Row) (X:Int→Bool):∀(l pre:List Rw.Row),Md.twice T X ((pre.filter (Md.comp T X)).map fun r=>r.2.2) l=Md.docTwice T X pre l
 | [],_=>rfl
 | r::l,pre=>by
   rw[Md.twice,Md.docTwice]
   by_cases hc:Md.comp T X r=true
   · have e:((pre.filter (Md.comp T X)).map fun r=>r.2.2)++[r.2.2]=(((pre++[r]).filter (Md.comp T X)).map fun r=>r.2.2):=by
      rw[Yj,ZM,Yo,Zp hc]
      rfl
     rw[Zp hc,e,Md.twice_doc T X l (pre++[r]),Md.any_map]
     congr 1
     unfold Md.ahead
     congr 1
     funext q
     rw[hc,YU]
     congr 1
     exact Bool.eq_iff_iff.2 (by simp)
   · have e:((pre.filter (Md.comp T X)).map fun r=>r.2.2)=(((pre++[r]).filter (Md.comp T X)).map fun r=>r.2.2):=by
      rw[Yj,Yo,Zl hc]
      simp
     rw[Zl hc,e,Md.twice_doc T X l (pre++[r])]
     have:Md.ahead T X pre r=false:=by
      unfold Md.ahead
      rw[List.any_eq_false]
      intro q _
      simp[hc]
     rw[this,YV]
theorem Md.chk_none {T:List Rw.Row} {X:Int→Bool} (h:Md.chk T X=0):(∀r∈T,Md.good r)∧Md.rises T∧(∀r∈T,∃l,Md.full T r.1=some l)∧Md.twice T X [] T=false:=by
 unfold Md.chk at h
 by_cases h1:Md.rowsBad (-1) T=0
 · rw[Zl (by simp[h1])]at h
   obtain⟨g1,g2⟩:=Md.rowsBad_zero T (-1) h1
   cases h2:Md.fullBad T with
   | true=>rw[Zp h2]at h;cases h
   | false =>
     rw[Zl (by simp[h2])]at h
     refine⟨fun r hr=>(g1 r hr).1,g2,fun r hr=>?_,?_⟩
     · unfold Md.fullBad at h2
       have:=List.any_eq_false.1 h2 r hr
       cases hf:Md.full T r.1 with
       | none=>simp[hf]at this
       | some l=>exact⟨l,rfl⟩
     · cases h3:Md.twice T X [] T with
       | true=>rw[Zp h3]at h;cases h
       | false=>rfl
 · rw[Zp h1]at h
   exact absurd h h1
theorem Md.rmp_kind {T:List Rw.Row} (h:∀r∈T,Md.good r) {x:Int} (hx:Hg.ofK x≠0):Md.rmp T x=[]:=by
 unfold Md.rmp
 rw[Md.find_none fun r hr he=>hx (by rw[←he];exact (h r hr).2.2.2.2.1)]
 rfl
theorem Md.mp_kind {T:List Rw.Row} (h:∀r∈T,Md.good r) {x:Int} (hx:Hg.ofK x=1∨Hg.ofK x=2∨Hg.ofK x=3):Md.mp T x=[]:=by
 unfold Md.mp
 rw[Hg.pairK_none x (by omega) (by omega)]
 simp only[ZJ,Ye]
 exact Md.rmp_kind h (by omega)
theorem Md.lv_two (mp:Int→List Int) (k:Nat) {c x y:Int} (hc:mp c=[x,y]) (hx:mp x=[]) (hy:mp y=[]):Md.lv mp (k+1) c=some [x,y]:=by
 unfold Md.lv
 rw[Zl (by rw[hc];simp),hc]
 simp[Md.lvL,Md.lv_plain mp k hx,Md.lv_plain mp k hy]
theorem Md.full_some {T:List Rw.Row} {X:Int→Bool} (h:Md.chk T X=0) (a:Int):∃l,Md.full T a=some l:=by
 obtain⟨hg,hr,hf,_⟩:=Md.chk_none h
 cases hfa:Md.find T a with
 | some r =>
   obtain⟨h1,h2⟩:=Md.find_some hfa
   rw[←h2]
   exact hf r h1
 | none =>
   have ae:Md.rmp T a=[]:=by unfold Md.rmp;rw[hfa];rfl
   unfold Md.full
   by_cases h4:Hg.ofK a=4
   · have hs:=Hg.ofK_syl a (.inl h4)
     have hm:Md.mp T a=[4352+(a-44032)/588,4449+(a-44032)%588/28]:=by
      unfold Md.mp;rw[Hg.pairK_four a h4];simp
     have hl:Hg.ofK (4352+(a-44032)/588)=1:=by unfold Hg.ofK;grind
     have hv:Hg.ofK (4449+(a-44032)%588/28)=2:=by unfold Hg.ofK;grind
     rw[Md.exp_lv _ _ _ _ (by simp),show T.length+3=(T.length+2)+1 from rfl,Md.lv_two _ _ hm (Md.mp_kind hg (by omega)) (Md.mp_kind hg (by omega))]
     exact⟨_,rfl⟩
   · by_cases h5:Hg.ofK a=5
     · have hs:=Hg.ofK_syl a (.inr h5)
       have hm:Md.mp T a=[a-(a-44032)%28,4519+(a-44032)%28]:=by
        unfold Md.mp;rw[Hg.pairK_five a h5];simp
       have aa:Md.mp T (a-(a-44032)%28)=[4352+(a-44032)/588,4449+(a-44032)%588/28]:=by
        unfold Md.mp;rw[Hg.two_of a hs.1 hs.2];simp
       have af:(a-44032)%28≠0:=fun e=>by rw[Hg.ofK_four a hs.1 hs.2 e]at h5;omega
       have hl:Hg.ofK (4352+(a-44032)/588)=1:=by unfold Hg.ofK;grind
       have hv:Hg.ofK (4449+(a-44032)%588/28)=2:=by unfold Hg.ofK;grind
       have ht:Hg.ofK (4519+(a-44032)%28)=3:=by unfold Hg.ofK;grind
       rw[Md.exp_lv _ _ _ _ (by simp),show T.length+3=(T.length+2)+1 from rfl]
       have e1:Md.lv (Md.mp T) (T.length+2+1) a=some [4352+(a-44032)/588,4449+(a-44032)%588/28,4519+(a-44032)%28]:=by
        unfold Md.lv
        rw[Zl (by rw[hm];simp),hm]
        simp[Md.lvL,Md.lv_plain _ (T.length+2) (Md.mp_kind hg (.inr (.inr ht))),show T.length+2=(T.length+1)+1 from rfl,Md.lv_two _ (T.length+1) aa (Md.mp_kind hg (.inl hl)) (Md.mp_kind hg (.inr (.inl hv)))]
       rw[e1]
       exact⟨_,rfl⟩
     · have hm:Md.mp T a=[]:=by
        unfold Md.mp
        rw[Hg.pairK_none a h4 h5]
        simpa using ae
       exact⟨_,Md.exp_plain _ hm⟩
theorem Md.full_none {T:List Rw.Row} {a:Int} {l:List Int} (h:Md.full T a=some l):(∀y∈l,Md.mp T y=[]∧Md.full T y=some [y])∧1≤l.length∧l.length≤32∧(3<Hg.ofK a→2≤l.length):=by
 obtain⟨h1,h2,h3,h4⟩:=Md.exp_none h
 refine⟨fun y hy=>⟨h1 y hy,Md.exp_plain _ (h1 y hy)⟩,h2,h4,fun hk=>?_⟩
 have hm:(Md.mp T a).length=2:=by
  unfold Md.mp
  by_cases h4:Hg.ofK a=4
  · rw[Hg.pairK_four a h4];simp
  · have h5:Hg.ofK a=5:=by unfold Hg.ofK at hk h4 ⊢;grind
    rw[Hg.pairK_five a h5];simp
 omega
theorem Md.lvL_all {Q:Int→Prop} {f:Int→Option (List Int)} (hf:∀c l,f c=some l→Q c→∀d∈l,Q d):∀(L l:List Int),Md.lvL f L=some l→(∀c∈L,Q c)→∀d∈l,Q d
 | [],l,h,_,d,hd=>by
   simp only[Md.lvL,Zi]at h
   subst h
   cases hd
 | e::r,l,h,hL,d,hd=>by
   simp only[Md.lvL]at h
   cases he:f e with
   | none=>rw[he]at h;cases h
   | some a =>
     rw[he,Zr]at h
     cases hr:Md.lvL f r with
     | none=>rw[hr]at h;cases h
     | some b =>
       rw[hr,Zt]at h
       cases h
       rcases List.mem_append.1 hd with h1|h1
       · exact hf e a he (hL e Zv) d h1
       · exact Md.lvL_all hf r b hr (fun c hc=>hL c (Zx _ hc)) d h1
theorem Md.lv_all {Q:Int→Prop} {mp:Int→List Int} (hm:∀c,∀d∈mp c,Q d):∀(k:Nat) (c:Int) (l:List Int),Md.lv mp k c=some l→Q c→∀d∈l,Q d
 | 0,c,l,h,hc,d,hd=>by
   unfold Md.lv at h
   split at h
   · cases h
     rw[ZA]at hd
     rw[hd];exact hc
   · cases h
 | k+1,c,l,h,hc,d,hd=>by
   unfold Md.lv at h
   split at h
   · cases h
     rw[ZA]at hd
     rw[hd];exact hc
   · exact Md.lvL_all (Md.lv_all hm k) _ _ h (hm c) d hd
theorem Md.full_bd {T:List Rw.Row} (hT:Md.bd T) {a:Int} (ha : -2147483648≤a∧a≤2147483647) {l:List Int} (h:Md.full T a=some l):∀y∈l,-2147483648≤y∧y≤2147483647:=by
 unfold Md.full at h
 rw[Md.exp_lv _ _ _ _ (by simp)]at h
 cases hl:Md.lv (Md.mp T) (T.length+3) a with
 | none=>rw[hl]at h;cases h
 | some b =>
   rw[hl,Zr]at h
   unfold Md.fit at h
   split at h
   · cases h
     rw[Z2]
     exact Md.lv_all (Md.mp_bd hT) _ a b hl ha
   · cases h
def Pg.last (L:List (Int × Int)) (c:Int):Int:=L.foldl (fun a x=>if x.1=c then x.2 else a) 0
def Pg.blk (f:Int→Int) (n:Nat):List Int:=(List.range 256).map fun i:Nat=>f (256*(n:Int)+(i:Int))
def Pg.zeros:List Int:=List.replicate 256 0
def Pg.add (bl:List (List Int)) (b:List Int):List (List Int):=if b∈bl then bl else bl++[b]
def Pg.bls (f:Int→Int):Nat→List (List Int)
 | 0=>[Pg.zeros]
 | m+1=>Pg.add (Pg.bls f m) (Pg.blk f m)
def Pg.at (bl:List (List Int)) (b:List Int):Nat:=bl.idxOf b
theorem Pg.blk_len (f:Int→Int) (n:Nat):(Pg.blk f n).length=256:=by unfold Pg.blk;simp
theorem Pg.blk_get (f:Int→Int) (n:Nat) {i:Nat} (hi:i<256):(Pg.blk f n)[i]?=some (f (256*(n:Int)+(i:Int))):=by
 unfold Pg.blk
 rw[Zu,XN hi]
 rfl
theorem Pg.add_mem {bl:List (List Int)} {b x:List Int}:x∈Pg.add bl b↔x∈bl∨x=b:=by
 unfold Pg.add
 split
 · rename_i h
   constructor
   · exact Or.inl
   · rintro (h'|rfl)
     · exact h'
     · exact h
 · simp
theorem Pg.add_at {bl:List (List Int)} {b x:List Int} (h:x∈bl):Pg.at (Pg.add bl b) x=Pg.at bl x:=by
 unfold Pg.add Pg.at
 split
 · rfl
 · rw[List.idxOf_append,Zp h]
theorem Pg.bls_mem (f:Int→Int):∀(m:Nat) (x:List Int),x∈Pg.bls f m↔x=Pg.zeros∨∃n,n<m∧x=Pg.blk f n
 | 0,x=>by simp[Pg.bls]
 | m+1,x=>by
   rw[Pg.bls,Pg.add_mem,Pg.bls_mem f m x]
   constructor
   · rintro ((h|⟨n,hn,h⟩)|h)
     · exact .inl h
     · exact .inr ⟨n,by omega,h⟩
     · exact .inr ⟨m,by omega,h⟩
   · rintro (h|⟨n,hn,h⟩)
     · exact .inl (.inl h)
     · by_cases hm:n=m
       · subst hm;exact .inr h
       · exact .inl (.inr ⟨n,by omega,h⟩)
theorem Pg.bls_len256 (f:Int→Int) (m:Nat):∀b∈Pg.bls f m,b.length=256:=by
 intro b hb
 rcases (Pg.bls_mem f m b).1 hb with rfl|⟨n,_,rfl⟩
 · unfold Pg.zeros;exact List.length_replicate
 · exact Pg.blk_len f n
theorem Pg.bls_len (f:Int→Int):∀m,(Pg.bls f m).length≤m+1
 | 0=>by simp[Pg.bls]
 | m+1=>by
   have:=Pg.bls_len f m
   rw[Pg.bls]
   unfold Pg.add
   split
   · omega
   · simp;omega
def Pg.idx (f:Int→Int) (m:Nat):List Int:=(List.range m).map fun n=>(Pg.at (Pg.bls f m) (Pg.blk f n):Int)
theorem Pg.idx_len (f:Int→Int) (m:Nat):(Pg.idx f m).length=m:=by unfold Pg.idx;simp
theorem Pg.idx_get (f:Int→Int) (m:Nat) {n:Nat} (hn:n<m):(Pg.idx f m)[n]?=some (Pg.at (Pg.bls f m) (Pg.blk f n):Int):=by
 unfold Pg.idx
 rw[Zu,XN hn]
 rfl
theorem Pg.at_lt {bl:List (List Int)} {b:List Int} (h:b∈bl):Pg.at bl b<bl.length:=List.idxOf_lt_length_of_mem h
theorem Pg.at_get {bl:List (List Int)} {b:List Int} (h:b∈bl):bl[Pg.at bl b]?=some b:=by
 unfold Pg.at
 rw[Zc (List.idxOf_lt_length_of_mem h),List.getElem_idxOf]
theorem Pg.idx_succ (f:Int→Int) (m:Nat):Pg.idx f (m+1)=Pg.idx f m++[(Pg.at (Pg.bls f (m+1)) (Pg.blk f m):Int)]:=by
 unfold Pg.idx
 rw[List.range_succ,ZM]
 congr 1
 refine Y0 fun n hn=>?_
 have hn:=List.mem_range.1 hn
 rw[Pg.bls,Pg.add_at ((Pg.bls_mem f m _).2 (.inr ⟨n,hn,rfl⟩))]
theorem Pg.flat_get:∀(bl:List (List Int)) (k i:Nat) (b:List Int),(∀b∈bl,b.length=256)→bl[k]?=some b→i<256→bl.flatten[k*256+i]?=b[i]?
 | [],k,i,b,_,h,_=>by simp at h
 | x::l,0,i,b,hl,h,hi=>by
   simp at h
   subst h
   rw[List.flatten_cons,Nat.zero_mul,Z1,ZW (by rw[hl x (by simp)];exact hi)]
 | x::l,k+1,i,b,hl,h,hi=>by
   simp at h
   have hx:=hl x (by simp)
   rw[List.flatten_cons,ZL (by rw[hx];omega),hx]
   rw[show (k+1)*256+i-256=k*256+i by omega]
   exact Pg.flat_get l k i b (fun b hb=>hl b (by simp[hb])) h hi
theorem Pg.flat_len:∀(bl:List (List Int)),(∀b∈bl,b.length=256)→bl.flatten.length=bl.length*256
 | [],_=>rfl
 | x::l,h=>by
   rw[List.flatten_cons,Ze,h x (by simp),Pg.flat_len l (fun b hb=>h b (by simp[hb])),ZI]
   omega
theorem Pg.bls_head (f:Int→Int):∀m,(Pg.bls f m)[0]?=some Pg.zeros
 | 0=>rfl
 | m+1=>by
   have:=Pg.bls_head f m
   rw[Pg.bls]
   unfold Pg.add
   split
   · exact this
   · rw[ZW (List.getElem?_eq_some_iff.1 this).1]
     exact this
def Pg.fl:List (Int × Int)→List Value
 | []=>[]
 | r::l=>.int .i32 r.1::.int .u16 r.2::Pg.fl l
theorem Pg.fl_app:∀(a b:List (Int × Int)),Pg.fl (a++b)=Pg.fl a++Pg.fl b
 | [],b=>rfl
 | r::a,b=>by simp[Pg.fl,Pg.fl_app a b]
theorem Pg.fl_len:∀(a:List (Int × Int)),(Pg.fl a).length=a.length*2
 | []=>rfl
 | r::a=>by simp[Pg.fl,Pg.fl_len a];omega
theorem Pg.fl_get:∀(a:List (Int × Int)) (i:Nat) (r:Int × Int),a[i]?=some r→(Pg.fl a)[i*2]?=some (.int .i32 r.1)∧(Pg.fl a)[i*2+1]?=some (.int .u16 r.2)
 | [],i,r,h=>by simp at h
 | q::a,0,r,h=>by simp at h;subst h;exact⟨rfl,rfl⟩
 | q::a,i+1,r,h=>by
   have:=Pg.fl_get a i r (by simpa using h)
   rw[show (i+1)*2=i*2+2 by omega,show i*2+2+1=i*2+1+2 by omega]
   exact this
def Ud.says (r:Rw.Row):Bool:=decide (0<r.2.1)||decide (0<r.2.2.length)
def Ud.keep (R:List Rw.Row):List Rw.Row:=R.filter Ud.says
def Ud.mr (R:List Rw.Row):List Rw.Row:=R.filter fun r=>decide (0<r.2.2.length)
def Ud.full (T:List Rw.Row) (c:Int):List Int:=(Md.full T c).getD []
def Ud.cl (R:List Rw.Row):List (Int × Int):=(Ud.keep R).map fun r=>(r.1,r.2.1)
def Ud.plG:Nat→List Rw.Row→List (Int × Int)
 | _,[]=>[]
 | k,r::l=>(r.1,(k:Int)+1)::Ud.plG (k+1) l
def Ud.pl (R:List Rw.Row):List (Int × Int):=Ud.plG 0 (Ud.mr R)
def Ud.inn (T R:List Rw.Row):List Int:=(Ud.mr R).flatMap fun r=>(Ud.full T r.1).drop 1
def Ud.mpd (R:List Rw.Row):List Int:=(Ud.mr R).map (·.1)
def Ud.prs (T:List Rw.Row) (X:Int→Bool) (R:List Rw.Row):List Rw.Row:=(Ud.mr R).filter fun r=>Md.prim T X r.1
def Ud.sec (T:List Rw.Row) (X:Int→Bool) (R:List Rw.Row):List Int:=(Ud.prs T X R).map fun r=>r.2.2.getD 1 0
def Ud.beg (T R:List Rw.Row) (c:Int):List Int:=((Ud.mr R).filter fun r=>decide ((Ud.full T r.1).headD 0=c)).map (·.1)
def Ud.joi (T:List Rw.Row) (X:Int→Bool) (R:List Rw.Row) (a b:Int):Option Int:=(Ud.prs T X R).foldl (fun o r=>if r.2.2.getD 0 0=a∧r.2.2.getD 1 0=b then some r.1 else o) none
theorem Ud.plG_app (l:List Rw.Row) (r:Rw.Row):∀k,Ud.plG k (l++[r])=Ud.plG k l++[(r.1,((k+l.length:Nat):Int)+1)]:=by
 induction l with
 | nil=>intro k;simp[Ud.plG]
 | cons q l ih =>
   intro k
   rw[ZQ]
   unfold Ud.plG
   rw[ih (k+1),ZQ]
   congr 3
   simp
   omega
theorem Ud.add_none {T R:List Rw.Row} {X:Int→Bool} {r:Rw.Row} (h:Ud.says r=false):Ud.keep (R++[r])=Ud.keep R∧Ud.mr (R++[r])=Ud.mr R:=by
 have h2:¬0<r.2.2.length:=by
  unfold Ud.says at h
  simp only[Bool.or_eq_false_iff,ZY]at h
  exact h.2
 constructor
 · unfold Ud.keep
   rw[Yj,Yo,Zl (by rw[h];simp),List.filter_nil,Yc]
 · unfold Ud.mr
   rw[List.filter_append,List.filter_cons,if_neg (by simpa using h2),List.filter_nil,List.append_nil]
theorem Ud.add_keep {R:List Rw.Row} {r:Rw.Row} (h:Ud.says r=true):Ud.keep (R++[r])=Ud.keep R++[r]:=by
 unfold Ud.keep
 simp[Yj,h]
theorem Ud.add_plain {R:List Rw.Row} {r:Rw.Row} (h:r.2.2=[]):Ud.mr (R++[r])=Ud.mr R:=by
 unfold Ud.mr
 simp[Yj,h]
theorem Ud.add_map {R:List Rw.Row} {r:Rw.Row} (h:0<r.2.2.length):Ud.mr (R++[r])=Ud.mr R++[r]:=by
 unfold Ud.mr
 rw[Yj,Yo,Zp (Zn h)]
 rfl
theorem Ud.last_go (c:Int):∀(L:List (Int × Int)) (a:Int),(L.Pairwise fun x y=>x.1≠y.1)→L.foldl (fun a x=>if x.1=c then x.2 else a) a=((L.find? fun x=>decide (x.1=c)).map (·.2)).getD a
 | [],a,_=>rfl
 | x::L,a,h=>by
   rw[Xx]at h
   rw[Y9,List.find?_cons,Ud.last_go c L _ h.2]
   by_cases hx:x.1=c
   · rw[Zp hx,Zn hx]
     have:(L.find? fun x=>decide (x.1=c))=none:=by
      rw[List.find?_eq_none]
      intro y hy
      have:=h.1 y hy
      simp only[Zm]
      omega
     rw[this]
     rfl
   · rw[Zl hx,Zo hx]
theorem Ud.keep_rises {T:List Rw.Row} (h:Md.rises T):Md.rises (Ud.keep T):=List.Pairwise.sublist List.filter_sublist h
theorem Ud.mr_rises {T:List Rw.Row} (h:Md.rises T):Md.rises (Ud.mr T):=List.Pairwise.sublist List.filter_sublist h
theorem Ud.mem_mr {T:List Rw.Row} {r:Rw.Row}:r∈Ud.mr T↔r∈T∧0<r.2.2.length:=by unfold Ud.mr;rw[List.mem_filter,decide_eq_true_eq]
theorem Ud.mem_keep {T:List Rw.Row} {r:Rw.Row}:r∈Ud.keep T↔r∈T∧Ud.says r=true:=by unfold Ud.keep;rw[List.mem_filter]
theorem Ud.cls_last {T:List Rw.Row} (h:Md.rises T) (h0:∀r∈T,0≤r.2.1) (c:Int):Pg.last (Ud.cl T) c=Md.cls T c:=by
 have hp:(Ud.cl T).Pairwise fun x y=>x.1≠y.1:=by
  unfold Ud.cl
  rw[List.pairwise_map]
  exact (Ud.keep_rises h).imp fun ae=>by omega
 unfold Pg.last
 rw[Ud.last_go c _ _ hp]
 cases hf:(Ud.cl T).find? fun x=>decide (x.1=c) with
 | some x =>
   have h1:=List.mem_of_find?_eq_some hf
   have h2:=List.find?_some hf
   simp only[Zm]at h2
   unfold Ud.cl at h1
   obtain⟨r,hr,rfl⟩:=List.mem_map.1 h1
   have aa:=(Ud.mem_keep.1 hr).1
   unfold Md.cls
   rw[←h2,Md.find_mem h aa]
   rfl
 | none =>
   have hn:=List.find?_eq_none.1 hf
   unfold Md.cls
   cases hm:Md.find T c with
   | none=>rfl
   | some r =>
     obtain⟨h1,h2⟩:=Md.find_some hm
     have hs:Ud.says r=false:=by
      cases hs:Ud.says r with
      | false=>rfl
      | true =>
        have:=hn (r.1,r.2.1) (List.mem_map.2 ⟨r,Ud.mem_keep.2 ⟨h1,hs⟩,rfl⟩)
        simp only[Zm]at this
        exact absurd h2 this
     unfold Ud.says at hs
     simp only[Bool.or_eq_false_iff,ZY]at hs
     have:=h0 r h1
     simp
     omega
theorem Ud.plG_get:∀(l:List Rw.Row) (k i:Nat),(Ud.plG k l)[i]?=(l[i]?).map fun r=>(r.1,((k+i:Nat):Int)+1)
 | [],k,i=>by simp[Ud.plG]
 | r::l,k,i=>by
   unfold Ud.plG
   cases i with
   | zero=>simp
   | succ i =>
     rw[YR,YR,Ud.plG_get l (k+1) i]
     rw[show k+1+i=k+(i+1) by omega]
theorem Ud.pl_pair {T:List Rw.Row} (h:Md.rises T):(Ud.pl T).Pairwise fun x y=>x.1≠y.1:=by
 rw[List.pairwise_iff_getElem]
 intro i j hi hj hij
 have e1:=Zc hi
 have e2:=Zc hj
 unfold Ud.pl at e1 e2
 rw[Ud.plG_get]at e1 e2
 cases hr:(Ud.mr T)[i]? with
 | none=>rw[hr]at e1;cases e1
 | some r =>
   cases hq:(Ud.mr T)[j]? with
   | none=>rw[hq]at e2;cases e2
   | some q =>
     rw[hr,Zt,Zi]at e1
     rw[hq,Zt,Zi]at e2
     have:=Md.rises_get (Ud.mr_rises h) hr hq hij
     unfold Ud.pl
     rw[←e1,←e2]
     simp only
     omega
theorem Ud.place_at {T:List Rw.Row} (h:Md.rises T) {i:Nat} {r:Rw.Row} (hr:(Ud.mr T)[i]?=some r):Pg.last (Ud.pl T) r.1=(i:Int)+1:=by
 unfold Pg.last
 rw[Ud.last_go _ _ _ (Ud.pl_pair h)]
 have hi:(Ud.pl T)[i]?=some (r.1,(i:Int)+1):=by
  unfold Ud.pl
  rw[Ud.plG_get,hr,Zt,Z1]
 have hf:((Ud.pl T).find? fun x=>decide (x.1=r.1))=some (r.1,(i:Int)+1):=by
  cases hf:(Ud.pl T).find? fun x=>decide (x.1=r.1) with
  | none =>
    have:=List.find?_eq_none.1 hf _ (Zk hi)
    simp at this
  | some x =>
    have h1:=List.mem_of_find?_eq_some hf
    have h2:=List.find?_some hf
    simp only[Zm]at h2
    obtain⟨j,hj⟩:=List.mem_iff_getElem?.1 h1
    have hij:i=j:=by
     obtain⟨a1,b1⟩:=List.getElem?_eq_some_iff.1 hi
     obtain⟨a2,b2⟩:=List.getElem?_eq_some_iff.1 hj
     have hp:=List.pairwise_iff_getElem.1 (Ud.pl_pair h)
     rcases Nat.lt_trichotomy i j with hl|hl|hl
     · have:=hp i j a1 a2 hl
       rw[b1,b2]at this
       exact absurd h2.symm this
     · exact hl
     · have:=hp j i a2 a1 hl
       rw[b1,b2]at this
       exact absurd h2 this
    rw[←hij,hi]at hj
    exact hj.symm
 rw[hf]
 rfl
theorem Ud.place_no {T:List Rw.Row} {c:Int} (h:∀r∈Ud.mr T,r.1≠c):Pg.last (Ud.pl T) c=0:=by
 have:∀(l:List Rw.Row) (k:Nat),(∀r∈l,r.1≠c)→(Ud.plG k l).foldl (fun (a:Int) x=>if x.1=c then x.2 else a) 0=0:=by
  intro l
  induction l with
  | nil=>intro k _;rfl
  | cons r l ih =>
    intro k hl
    unfold Ud.plG
    rw[Y9,Zl (hl r Zv)]
    exact ih (k+1) fun q hq=>hl q (Zx _ hq)
 exact this _ 0 h
theorem Ud.mr_find {T:List Rw.Row} (h:Md.rises T) (c:Int):(∃(i:Nat) (r:Rw.Row),(Ud.mr T)[i]?=some r∧r.1=c∧Md.find T c=some r∧0<r.2.2.length)∨((∀r∈Ud.mr T,r.1≠c)∧Md.rmp T c=[]):=by
 cases hf:Md.find T c with
 | none =>
   refine .inr ⟨fun r hr e=>?_,by unfold Md.rmp;rw[hf];rfl⟩
   have:=Md.find_mem h (Ud.mem_mr.1 hr).1
   rw[e,hf]at this
   cases this
 | some r =>
   obtain⟨h1,h2⟩:=Md.find_some hf
   by_cases hl:0<r.2.2.length
   · obtain⟨i,hi⟩:=List.mem_iff_getElem?.1 (Ud.mem_mr.2 ⟨h1,hl⟩)
     exact .inl ⟨i,r,hi,h2,rfl,hl⟩
   · refine .inr ⟨fun q hq e=>?_,?_⟩
     · obtain⟨g1,g2⟩:=Ud.mem_mr.1 hq
       have:=Md.find_mem h g1
       rw[e,hf]at this
       cases this
       exact hl g2
     · unfold Md.rmp
       rw[hf]
       have:r.2.2=[]:=Zy (by omega)
       simpa using this
theorem Ud.full_syl {T:List Rw.Row} (hg:∀r∈T,Md.good r) {a:Int} (h:Hg.ofK a=4∨Hg.ofK a=5):Md.full T a=some (Hg.splitK a):=by
 unfold Md.full Hg.splitK
 rcases h with h4|h5
 · have hs:=Hg.ofK_syl a (.inl h4)
   have hm:Md.mp T a=[4352+(a-44032)/588,4449+(a-44032)%588/28]:=by
    unfold Md.mp;rw[Hg.pairK_four a h4];simp
   have hl:Hg.ofK (4352+(a-44032)/588)=1:=by unfold Hg.ofK;grind
   have hv:Hg.ofK (4449+(a-44032)%588/28)=2:=by unfold Hg.ofK;grind
   rw[Zp h4,Md.exp_lv _ _ _ _ (by simp),show T.length+3=(T.length+2)+1 from rfl,Md.lv_two _ _ hm (Md.mp_kind hg (by omega)) (Md.mp_kind hg (by omega))]
   rfl
 · have hs:=Hg.ofK_syl a (.inr h5)
   have hm:Md.mp T a=[a-(a-44032)%28,4519+(a-44032)%28]:=by
    unfold Md.mp;rw[Hg.pairK_five a h5];simp
   have aa:Md.mp T (a-(a-44032)%28)=[4352+(a-44032)/588,4449+(a-44032)%588/28]:=by
    unfold Md.mp;rw[Hg.two_of a hs.1 hs.2];simp
   have ae:(a-44032)%28≠0:=fun e=>by rw[Hg.ofK_four a hs.1 hs.2 e]at h5;omega
   have hl:Hg.ofK (4352+(a-44032)/588)=1:=by unfold Hg.ofK;grind
   have hv:Hg.ofK (4449+(a-44032)%588/28)=2:=by unfold Hg.ofK;grind
   have ht:Hg.ofK (4519+(a-44032)%28)=3:=by unfold Hg.ofK;grind
   rw[Zl (by omega),Zp h5,Md.exp_lv _ _ _ _ (by simp),show T.length+3=(T.length+2)+1 from rfl]
   have e1:Md.lv (Md.mp T) (T.length+2+1) a=some [4352+(a-44032)/588,4449+(a-44032)%588/28,4519+(a-44032)%28]:=by
    unfold Md.lv
    rw[Zl (by rw[hm];simp),hm]
    simp[Md.lvL,Md.lv_plain _ (T.length+2) (Md.mp_kind hg (.inr (.inr ht))),show T.length+2=(T.length+1)+1 from rfl,Md.lv_two _ (T.length+1) aa (Md.mp_kind hg (.inl hl)) (Md.mp_kind hg (.inr (.inl hv)))]
   rw[e1]
   rfl
theorem Ud.pair_kind (c:Int):(Hg.pairK c).2.2=decide (4≤Hg.ofK c):=by
 by_cases h4:Hg.ofK c=4
 · rw[Hg.pairK_four c h4,h4];rfl
 · by_cases h5:Hg.ofK c=5
   · rw[Hg.pairK_five c h5,h5];rfl
   · rw[Hg.pairK_none c h4 h5]
     have:¬4≤Hg.ofK c:=by unfold Hg.ofK at *;grind
     rw[Zo this]
theorem Ud.kind_le (c:Int):0≤Hg.ofK c∧Hg.ofK c≤5:=by unfold Hg.ofK;grind
theorem Ud.none_mp {T:List Rw.Row} {c:Int} (hr:Md.rmp T c=[]) (hk:Hg.ofK c<4):Md.mp T c=[]∧Md.full T c=some [c]:=by
 have hm:Md.mp T c=[]:=by
  unfold Md.mp
  rw[Ud.pair_kind,Zo (by omega)]
  simpa using hr
 exact⟨hm,Md.exp_plain _ hm⟩
theorem Ud.prim_two {T:List Rw.Row} {X:Int→Bool} {r:Rw.Row} (hg:Md.good r) (hr:Md.rises T) (hm:r∈T) (hp:Md.prim T X r.1=true):∃a b,r.2.2=[a,b]:=by
 unfold Md.prim at hp
 rw[Ud.pair_kind,hg.2.2.2.2.1,Md.find_mem hr hm]at hp
 simp only[show ¬((4:Int)≤0) by decide,decide_false,YV,Zt,Option.getD_some]at hp
 unfold Md.comp at hp
 simp only[ZB,Zm]at hp
 have h2:=hp.2.1
 match h:r.2.2,h2 with
 | [a,b],_=>exact⟨a,b,rfl⟩
end Go.Proofs.YtikiplbhlohmdaaGreatDoor
