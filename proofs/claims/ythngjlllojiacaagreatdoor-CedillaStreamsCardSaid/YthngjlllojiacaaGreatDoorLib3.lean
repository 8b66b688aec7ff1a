/- The layer cpset in plain Lean: sets as rising lists of places. No program in sight. -/
import Derived.Test.YthngjlllojiacaaGreatDoorMdFull
import Derived.Deep.AppendLies
set_option linter.unusedVariables false
set_option linter.unusedSimpArgs false
namespace Go.Proofs.YthngjlllojiacaaGreatDoor
def C.srt (l:List Int):Prop:=l.Pairwise (· < ·)
def C.mem:List Int→Int→Bool
 | [],_=>false
 | x::l,c=>decide (x≤c)&&!C.mem l c
theorem C.mem_cons (x:Int) (l:List Int) (c:Int):C.mem (x::l) c=(decide (x≤c)&&!C.mem l c):=rfl
theorem zPH {l:List Int} {c:Int} (h:∀y∈l,c<y):C.mem l c=false:=by
 cases l with
 | nil=>rfl
 | cons x l=>rw[C.mem_cons,Zt (by have:=h x (by simp);omega)];rfl
theorem zAC {x:Int} {l:List Int} (h:C.srt (x::l)):C.srt l:=(List.pairwise_cons.1 h).2
theorem zBx {x:Int} {l:List Int} (h:C.srt (x::l)):∀y∈l,x<y:=(List.pairwise_cons.1 h).1
theorem zBe {x:Int} {l:List Int} (h:C.srt (x::l)) {c:Int} (hc:c≤x):C.mem l c=false :=
 zPH fun y hy=>by have:=zBx h y hy;omega
theorem zPI:∀(l l':List Int),C.srt l→C.srt l'→(∀c,C.mem l c=C.mem l' c)→l=l'
 | [],[],_,_,_=>rfl
 | [],x::l',_,h',h=>by
   have:=h x;rw[C.mem_cons,zBe h' (YC _)]at this;simp[C.mem]at this
 | x::l,[],h1,_,h=>by
   have:=h x;rw[C.mem_cons,zBe h1 (YC _)]at this;simp[C.mem]at this
 | x::l,y::l',h1,h2,h=>by
   have hx:=h x;have hy:=h y;rw[C.mem_cons,C.mem_cons,zBe h1 (YC _)]at hx;rw[C.mem_cons,C.mem_cons,zBe h2 (YC _)]at hy
   have e:x=y:=by
    rcases JQ x y with aa|he|hgt
    · rw[Zt (show ¬y≤x by omega)]at hx;simp at hx
    · exact he
    rw[Zt (show ¬x≤y by omega)]at hy;simp at hy
   subst e;rw[zPI l l' (zAC h1) (zAC h2)];intro c
   by_cases hc:x≤c
   · have:=h c;rw[C.mem_cons,C.mem_cons,Zu hc]at this;simpa using this
   rw[zBe h1 (by omega),zBe h2 (by omega)]
def C.ok (l:List Int):Prop:=C.srt l∧(∀x∈l,0≤x∧x≤1114112)∧l.length%2=0
def zAH:List Int→List (Int × Int)
 | x::y::t=>(x,y-1)::zAH t
 | _=>[]
def C.count:List Int→Int
 | x::y::t=>y-x+C.count t
 | _=>0
def C.idx:List Int→Int→Int
 | x::y::t,c=>(if x<c then min c y-x else 0)+C.idx t c
 | _,_=>0
def zOs (p:Int→Bool):Nat→Nat
 | 0=>0
 | n+1=>zOs p n+(if p n then 1 else 0)
theorem zJq (p:Int→Bool) (n:Nat):zOs p (n+1)=zOs p n+(if p n then 1 else 0):=rfl
theorem zJr:∀(l:List Int),C.srt l→l.length%2=0→∀c:Int,C.idx l (c+1)=C.idx l c+(if C.mem l c then 1 else 0)
 | [],_,_,_=>rfl
 | [x],_,h,_=>by simp at h
 | x::y::t,hs,hl,c=>by
   have ht:=zAC (zAC hs);have aa:=zBx hs y (by simp);have ih:=zJr t ht (by simp at hl;omega) c;show (if x<c+1 then min (c+1) y-x else 0)+C.idx t (c+1)=(if x<c then min c y-x else 0)+C.idx t c+_;rw[ih,C.mem_cons,C.mem_cons]
   by_cases h1:x≤c
   rotate_left
   · have hm:C.mem t c=false:=zBe (zAC hs) (by omega);rw[Zt h1,hm,Zj (show ¬x<c+1 by omega),Zj (show ¬x<c by omega)];simp
   by_cases h2:y≤c
   · rw[Zu h1,Zu h2];rw[Zl (show x<c+1 by omega)]
     by_cases h3:x<c
     · rw[Zl h3];simp only[Xe,Bool.not_not];omega
     omega
   have hm:C.mem t c=false:=zBe (zAC hs) (by omega);rw[Zu h1,Zt h2,hm,Zl (show x<c+1 by omega)]
   by_cases h3:x<c
   · rw[Zl h3];simp;omega
   rw[Zj h3];simp;omega
theorem zLm:∀(l:List Int) (c:Int),(∀x∈l,c≤x)→C.idx l c=0
 | [],_,_=>rfl
 | [x],_,_=>rfl
 | x::y::t,c,h=>by
   show (if x<c then min c y-x else 0)+C.idx t c=0;rw[Zj (by have:=h x (by simp);omega),zLm t c (fun z hz=>h z (by simp[hz]))];rfl
theorem zPJ {l:List Int} (h:C.ok l) (n:Nat):C.idx l (n:Int)=zOs (C.mem l) n:=by
 induction n with
 | zero=>exact zLm l 0 (fun x hx=>(h.2.1 x hx).1)
 | succ n ih =>
   rw[show ((n+1:Nat):Int)=(n:Int)+1 by omega,zJr l h.1 h.2.2,ih,zJq];split <;> simp
theorem zI9:∀(l:List Int) (c:Int),C.srt l→(∀x∈l,x≤c)→C.idx l c=C.count l
 | [],_,_,_=>rfl
 | [x],_,_,_=>rfl
 | x::y::t,c,hs,h=>by
   have aa:=zBx hs y (by simp);have hy:=h y (by simp);show (if x<c then min c y-x else 0)+C.idx t c=y-x+C.count t;rw[Zl (by omega),zI9 t c (zAC (zAC hs)) (fun z hz=>h z (by simp[hz]))];omega
theorem zMC {l:List Int} (h:C.ok l):C.count l=zOs (C.mem l) 1114112:=by
 rw[←zPJ h];exact (zI9 l _ h.1 (fun x hx=>(h.2.1 x hx).2)).symm
theorem zQK (p:Int→Bool) (n:Nat):zOs p n≤n:=by
 induction n with
 | zero=>exact Za _
 | succ n ih=>rw[zJq];split <;> omega
theorem zJs {l:List Int} (h:C.ok l):0≤C.count l∧C.count l≤1114112:=by
 rw[zMC h];have:=zQK (C.mem l) 1114112;omega
theorem zGy:∀l:List Int,(zAH l).length=l.length/2
 | []=>rfl
 | [x]=>by simp[zAH]
 | x::y::t=>by
   show (zAH t).length+1=(t.length+1+1)/2;rw[zGy t];omega
theorem zJt:∀(l:List Int) (k:Nat) (hk:2*k+1<l.length),(zAH l)[k]?=some (l[2*k]'(by omega),l[2*k+1]'hk-1)
 | [],k,hk=>by simp at hk
 | [x],k,hk=>by simp at hk
 | x::y::t,0,hk=>rfl
 | x::y::t,k+1,hk=>by
   have:=zJt t k (by simp at hk;omega);show (zAH t)[k]?=_;rw[this];simp only[show 2*(k+1)=2*k+1+1 by omega,show 2*(k+1)+1=(2*k+1)+1+1 by omega,List.getElem_cons_succ]
def C.all:List Int:=[0,55296,57344,1114112]
def C.isC (c:Int):Bool:=decide (0≤c∧c≤1114111∧(c<55296∨57343<c))
abbrev Rw.Row:=Int × Int × List Int
def Md.find (T:List Rw.Row) (c:Int):Option Rw.Row:=T.find? fun r=>decide (r.1=c)
def Md.cls (T:List Rw.Row) (c:Int):Int:=((Md.find T c).map fun r=>r.2.1).getD 0
def zAS (T:List Rw.Row) (c:Int):List Int:=((Md.find T c).map fun r=>r.2.2).getD []
def Md.mp (T:List Rw.Row) (c:Int):List Int:=if (zAg c).2.2=true then [(zAg c).1,(zAg c).2.1] else zAS T c
def Md.full (T:List Rw.Row) (c:Int):Option (List Int):=zBO (Md.mp T) (T.length+3) [] c
def zAc (T:List Rw.Row) (X:Int→Bool) (r:Rw.Row):Bool:=decide (r.2.1=0)&&(decide (r.2.2.length=2)&&(decide (Md.cls T (r.2.2.headD 0)=0)&&!X r.1))
def zAo (T:List Rw.Row) (X:Int→Bool) (c:Int):Bool:=(zAg c).2.2||((Md.find T c).map (zAc T X)).getD false
def Md.bad (last:Int) (r:Rw.Row):Nat :=
 if (!C.isC r.1||decide (r.1≤last)||decide (r.2.1<0)||decide (254<r.2.1)||decide (2<r.2.2.length))=true then 1
 else if ((r.1::r.2.2).any fun c=>decide (zA2 c≠0))=true then 2
 else if (r.2.2.any fun c=>!C.isC c)=true then 3 else 0
def zAu:Int→List Rw.Row→Nat
 | _,[]=>0
 | last,r::l=>if Md.bad last r=0 then zAu r.1 l else Md.bad last r
def zBf (T:List Rw.Row):Bool:=T.any fun r=>(Md.full T r.1).isNone
def zBA (T:List Rw.Row) (X:Int→Bool):List (List Int)→List Rw.Row→Bool
 | _,[]=>false
 | seen,r::l=>if zAc T X r=true then (seen.contains r.2.2||zBA T X (seen++[r.2.2]) l) else zBA T X seen l
def Md.chk (T:List Rw.Row) (X:Int→Bool):Nat :=
 if zAu (-1) T≠0 then zAu (-1) T else if zBf T=true then 4 else if zBA T X [] T=true then 5 else 0
theorem zPK (last:Int) (r:Rw.Row):Md.bad last r≤3:=by
 unfold Md.bad
 repeat' split
 all_goals omega
def Md.good (r:Rw.Row):Prop:=C.isC r.1=true∧0≤r.2.1∧r.2.1≤254∧r.2.2.length≤2∧zA2 r.1=0∧∀c∈r.2.2,C.isC c=true∧zA2 c=0
theorem zMD {last:Int} {r:Rw.Row} (h:Md.bad last r=0):Md.good r∧last<r.1:=by
 unfold Md.bad at h;split at h
 · cases h
 rename_i h1;split at h
 · cases h
 rename_i h2;split at h
 · cases h
 rename_i h3;simp only[Xn,Yr,Zm,not_or,JR,Int.not_le,Int.not_lt,Nat.not_lt]at h1;obtain⟨⟨⟨⟨a1,a2⟩,a3⟩,a4⟩,a5⟩:=h1;simp only[Yo,Zm,not_exists,not_and,Decidable.not_not]at h2;simp only[Yo,Yr,not_exists,not_and,JR]at h3;exact⟨⟨a1,a3,a4,a5,h2 r.1 Zq,fun c hc=>⟨h3 c hc,h2 c (Zv _ hc)⟩⟩,a2⟩
def Md.rises (T:List Rw.Row):Prop:=T.Pairwise fun r q=>r.1<q.1
theorem zC5:∀(l:List Rw.Row) (last:Int),zAu last l=0→(∀r∈l,Md.good r∧last<r.1)∧Md.rises l
 | [],_,_=>⟨fun r hr=>absurd hr Z6,List.Pairwise.nil⟩
 | r::l,last,h=>by
   unfold zAu at h
   by_cases hb:Md.bad last r=0
   · rw[Zl hb]at h;obtain⟨h1,h2⟩:=zMD hb;obtain⟨h3,h4⟩:=zC5 l r.1 h;refine⟨fun q hq=>?_,List.Pairwise.cons (fun q hq=>(h3 q hq).2) h4⟩;rcases List.mem_cons.1 hq with rfl|hq
     · exact⟨h1,h2⟩
     exact⟨(h3 q hq).1,by have:=(h3 q hq).2;omega⟩
   rw[Zj hb]at h;exact absurd h hb
theorem zDd {T:List Rw.Row} (h:Md.rises T) {i j:Nat} {r q:Rw.Row} (hi:T[i]?=some r) (hj:T[j]?=some q) (hij:i<j):r.1<q.1:=by
 obtain⟨a1,rfl⟩:=List.getElem?_eq_some_iff.1 hi;obtain⟨a2,rfl⟩:=List.getElem?_eq_some_iff.1 hj;exact List.pairwise_iff_getElem.1 h i j a1 a2 hij
theorem zBE {T:List Rw.Row} (h:Md.rises T) {r:Rw.Row} (hr:r∈T):Md.find T r.1=some r:=by
 induction T with
 | nil=>cases hr
 | cons q l ih =>
   unfold Md.rises at h;rw[Xy]at h;unfold Md.find;rw[Q7];rcases List.mem_cons.1 hr with rfl|hr
   · simp
   rw[Zt (by have:=h.1 r hr;omega)];exact ih h.2 hr
theorem zOt {T:List Rw.Row} (h:Md.rises T) {i:Nat} {r:Rw.Row} (hi:T[i]?=some r):Md.find T r.1=some r:=zBE h (Zk hi)
theorem zDe {T:List Rw.Row} {c:Int} (h:∀r∈T,r.1≠c):Md.find T c=none:=by
 unfold Md.find;rw[JG];intro r hr;simpa using h r hr
theorem zAq {T:List Rw.Row} {c:Int} {r:Rw.Row} (h:Md.find T c=some r):r∈T∧r.1=c:=by
 unfold Md.find at h;exact⟨List.mem_of_find?_eq_some h,by simpa using List.find?_some h⟩
theorem zME {T:List Rw.Row} (h:Md.rises T) (c:Int) (i:Nat) (h1:∀t r,t<i→T[t]?=some r→r.1<c) (h2:∀t r,i≤t→T[t]?=some r→c≤r.1) :
 Md.find T c=(T[i]?).bind fun r=>if r.1=c then some r else none:=by
 cases hi:T[i]? with
 | none =>
   refine zDe fun r hr=>?_
   obtain⟨t,ht⟩:=List.mem_iff_getElem?.1 hr;have hlen:=List.getElem?_eq_none_iff.1 hi;obtain⟨a1,_⟩:=List.getElem?_eq_some_iff.1 ht;have:=h1 t r (by omega) ht;omega
 | some r =>
   rw[Zy]
   by_cases hc:r.1=c
   · rw[Zl hc,←hc,zOt h hi]
   rw[Zj hc];refine zDe fun q hq=>?_
   obtain⟨t,ht⟩:=List.mem_iff_getElem?.1 hq;have:=h2 i r (Za _) hi
   by_cases a:t<i
   · have:=h1 t q a ht;omega
   by_cases b:t=i
   · subst b;rw[hi]at ht;cases ht;exact hc
   have:=zDd h hi ht (by omega);omega
theorem zMF (c:Int):0≤(zAg c).1∧(zAg c).1≤60000∧0≤(zAg c).2.1∧(zAg c).2.1≤60000:=by
 have key:zA2 c=4∨zA2 c=5→44032≤c∧c<55204:=by
  unfold zA2;grind
 unfold zAg;split
 · rename_i h;have:=key (.inl h);simp only;omega
 split
 · rename_i h;have:=key (.inr h);simp only;omega
 simp
def Md.bd (T:List Rw.Row):Prop:=∀r∈T,(-2147483648≤r.1∧r.1≤2147483647)∧∀c∈r.2.2,-2147483648≤c∧c≤2147483647
theorem zHO {T:List Rw.Row} (h:Md.bd T) (c:Int):∀d∈Md.mp T c,-2147483648≤d∧d≤2147483647:=by
 intro d hd;unfold Md.mp at hd;split at hd
 · have:=zMF c;simp only[Xd,Z6,QP]at hd;rcases hd with rfl|rfl <;> omega
 unfold zAS at hd;cases hf:Md.find T c with
 | none=>rw[hf]at hd;cases hd
 | some r =>
   rw[hf]at hd;exact (h r (zAq hf).1).2 d hd
theorem zG6 {c:Int} (h:zA2 c=0):(zAg c).2.2=false:=by
 unfold zAg;rw[Zj (by omega),Zj (by omega)]
theorem zCV {T:List Rw.Row} {X:Int→Bool} (hr:Md.rises T) {r:Rw.Row} (hm:r∈T) (hg:Md.good r):zAo T X r.1=zAc T X r:=by
 unfold zAo;rw[zG6 hg.2.2.2.2.1,zBE hr hm,Y5];rfl
theorem zPL {T:List Rw.Row} (hr:Md.rises T) {r:Rw.Row} (hm:r∈T) (hg:Md.good r):Md.mp T r.1=r.2.2:=by
 unfold Md.mp zAS;rw[zG6 hg.2.2.2.2.1,Zj (by simp),zBE hr hm];rfl
theorem zOu {T:List Rw.Row} (hr:Md.rises T) {r:Rw.Row} (hm:r∈T):Md.cls T r.1=r.2.1:=by
 unfold Md.cls;rw[zBE hr hm];rfl
def Md.ahead (T:List Rw.Row) (X:Int→Bool) (pre:List Rw.Row) (r:Rw.Row):Bool:=pre.any fun q=>zAc T X r&&(zAc T X q&&decide (q.2.2=r.2.2))
def zAZ (T:List Rw.Row) (X:Int→Bool):List Rw.Row→List Rw.Row→Bool
 | _,[]=>false
 | pre,r::l=>Md.ahead T X pre r||zAZ T X (pre++[r]) l
theorem zGz {α β:Type} [BEq β] [LawfulBEq β] (p:α→Bool) (f:α→β) (y:β):∀(l:List α),((l.filter p).map f).contains y=l.any fun q=>p q&&(f q == y)
 | []=>rfl
 | q::l=>by
   rw[Yp,Kh]
   by_cases h:p q=true
   · rw[Zl h,ZX,List.contains_cons,zGz p f y l,h,Xe];congr 1;exact Bool.eq_iff_iff.2 ⟨fun e=>by simp at e;simp[e],fun e=>by simp at e;simp[e]⟩
   rw[Zj h,zGz p f y l];simp[h]
theorem zDf (T:List Rw.Row) (X:Int→Bool):∀(l pre:List Rw.Row),zBA T X ((pre.filter (zAc T X)).map fun r=>r.2.2) l=zAZ T X pre l
 | [],_=>rfl
 | r::l,pre=>by
   rw[zBA,zAZ]
   by_cases hc:zAc T X r=true
   · have e:((pre.filter (zAc T X)).map fun r=>r.2.2)++[r.2.2]=(((pre++[r]).filter (zAc T X)).map fun r=>r.2.2):=by
      rw[Yh,ZO,Yp,Zl hc];rfl
     rw[Zl hc,e,zDf T X l (pre++[r]),zGz];congr 1;unfold Md.ahead;congr 1;funext q
     rw[hc,Xe];congr 1;exact Bool.eq_iff_iff.2 (by simp)
   have e:((pre.filter (zAc T X)).map fun r=>r.2.2)=(((pre++[r]).filter (zAc T X)).map fun r=>r.2.2):=by
    rw[Yh,Yp,Zj hc];simp
   rw[Zj hc,e,zDf T X l (pre++[r])]
   have:Md.ahead T X pre r=false:=by
    unfold Md.ahead;rw[XK];intro q _;simp[hc]
   rw[this,Y5]
theorem zDX {T:List Rw.Row} {X:Int→Bool} (h:Md.chk T X=0):(∀r∈T,Md.good r)∧Md.rises T∧(∀r∈T,∃l,Md.full T r.1=some l)∧zBA T X [] T=false:=by
 unfold Md.chk at h
 by_cases h1:zAu (-1) T=0
 rotate_left
 · rw[Zl h1]at h;exact absurd h h1
 rw[Zj (by simp[h1])]at h;obtain⟨g1,g2⟩:=zC5 T (-1) h1;cases h2:zBf T with
 | true=>rw[Zl h2]at h;cases h
 | false =>
   rw[Zj (by simp[h2])]at h;refine⟨fun r hr=>(g1 r hr).1,g2,fun r hr=>?_,?_⟩
   · unfold zBf at h2;have:=List.any_eq_false.1 h2 r hr;cases hf:Md.full T r.1 with
     | none=>simp[hf]at this
     | some l=>exact⟨l,rfl⟩
   cases h3:zBA T X [] T with
   | true=>rw[Zl h3]at h;cases h
   | false=>rfl
theorem zMG {T:List Rw.Row} (h:∀r∈T,Md.good r) {x:Int} (hx:zA2 x≠0):zAS T x=[]:=by
 unfold zAS;rw[zDe fun r hr he=>hx (by rw[←he];exact (h r hr).2.2.2.2.1)];rfl
theorem zBy {T:List Rw.Row} (h:∀r∈T,Md.good r) {x:Int} (hx:zA2 x=1∨zA2 x=2∨zA2 x=3):Md.mp T x=[]:=by
 unfold Md.mp;rw[zBI x (by omega) (by omega)];simp only[ZL,Yc];exact zMG h (by omega)
theorem zG7 (mp:Int→List Int) (k:Nat) {c x y:Int} (hc:mp c=[x,y]) (hx:mp x=[]) (hy:mp y=[]):Md.lv mp (k+1) c=some [x,y]:=by
 unfold Md.lv;rw[Zj (by rw[hc];simp),hc];simp[zAp,zBo mp k hx,zBo mp k hy]
theorem zDg {T:List Rw.Row} {X:Int→Bool} (h:Md.chk T X=0) (a:Int):∃l,Md.full T a=some l:=by
 obtain⟨hg,hr,hf,_⟩:=zDX h;cases hfa:Md.find T a with
 | some r =>
   obtain⟨h1,h2⟩:=zAq hfa;rw[←h2];exact hf r h1
 | none =>
   have aa:zAS T a=[]:=by unfold zAS;rw[hfa];rfl
   unfold Md.full
   by_cases h4:zA2 a=4
   · have hs:=zAt a (.inl h4)
     have hm:Md.mp T a=[4352+(a-44032)/588,4449+(a-44032)%588/28]:=by
      unfold Md.mp;rw[zAN a h4];simp
     have hl:zA2 (4352+(a-44032)/588)=1:=by unfold zA2;grind
     have hv:zA2 (4449+(a-44032)%588/28)=2:=by unfold zA2;grind
     rw[zBv _ _ _ _ (by simp),show T.length+3=(T.length+2)+1 from rfl,zG7 _ _ hm (zBy hg (by omega)) (zBy hg (by omega))];exact⟨_,rfl⟩
   by_cases h5:zA2 a=5
   rotate_left
   · have hm:Md.mp T a=[]:=by
      unfold Md.mp;rw[zBI a h4 h5];simpa using aa
     exact⟨_,zEw _ hm⟩
   have hs:=zAt a (.inr h5)
   have hm:Md.mp T a=[a-(a-44032)%28,4519+(a-44032)%28]:=by
    unfold Md.mp;rw[zAT a h5];simp
   have ae:Md.mp T (a-(a-44032)%28)=[4352+(a-44032)/588,4449+(a-44032)%588/28]:=by
    unfold Md.mp;rw[zI4 a hs.1 hs.2];simp
   have af:(a-44032)%28≠0:=fun e=>by rw[zCU a hs.1 hs.2 e]at h5;omega
   have hl:zA2 (4352+(a-44032)/588)=1:=by unfold zA2;grind
   have hv:zA2 (4449+(a-44032)%588/28)=2:=by unfold zA2;grind
   have ht:zA2 (4519+(a-44032)%28)=3:=by unfold zA2;grind
   rw[zBv _ _ _ _ (by simp),show T.length+3=(T.length+2)+1 from rfl]
   have e1:Md.lv (Md.mp T) (T.length+2+1) a=some [4352+(a-44032)/588,4449+(a-44032)%588/28,4519+(a-44032)%28]:=by
    unfold Md.lv;rw[Zj (by rw[hm];simp),hm];simp[zAp,zBo _ (T.length+2) (zBy hg (.inr (.inr ht))),show T.length+2=(T.length+1)+1 from rfl,zG7 _ (T.length+1) ae (zBy hg (.inl hl)) (zBy hg (.inr (.inl hv)))]
   rw[e1];exact⟨_,rfl⟩
theorem zCr {T:List Rw.Row} {a:Int} {l:List Int} (h:Md.full T a=some l):(∀y∈l,Md.mp T y=[]∧Md.full T y=some [y])∧1≤l.length∧l.length≤32∧(3<zA2 a→2≤l.length):=by
 obtain⟨h1,h2,h3,h4⟩:=zMB h;refine⟨fun y hy=>⟨h1 y hy,zEw _ (h1 y hy)⟩,h2,h4,fun hk=>?_⟩
 have hm:(Md.mp T a).length=2:=by
  unfold Md.mp
  by_cases h4:zA2 a=4
  · rw[zAN a h4];simp
  have h5:zA2 a=5:=by unfold zA2 at hk h4 ⊢;grind
  rw[zAT a h5];simp
 omega
theorem zJu {Q:Int→Prop} {f:Int→Option (List Int)} (hf:∀c l,f c=some l→Q c→∀d∈l,Q d):∀(L l:List Int),zAp f L=some l→(∀c∈L,Q c)→∀d∈l,Q d
 | [],l,h,_,d,hd=>by
   simp only[zAp,Zg]at h;subst h;cases hd
 | e::r,l,h,hL,d,hd=>by
   simp only[zAp]at h;cases he:f e with
   | none=>rw[he]at h;cases h
   | some a =>
     rw[he,Zy]at h;cases hr:zAp f r with
     | none=>rw[hr]at h;cases h
     | some b =>
       rw[hr,Zx]at h;cases h
       rcases List.mem_append.1 hd with h1|h1
       · exact hf e a he (hL e Zq) d h1
       exact zJu hf r b hr (fun c hc=>hL c (Zv _ hc)) d h1
theorem zIa {Q:Int→Prop} {mp:Int→List Int} (hm:∀c,∀d∈mp c,Q d):∀(k:Nat) (c:Int) (l:List Int),Md.lv mp k c=some l→Q c→∀d∈l,Q d
 | 0,c,l,h,hc,d,hd=>by
   unfold Md.lv at h;split at h
   · cases h
     rw[Zp]at hd;rw[hd];exact hc
   cases h
 | k+1,c,l,h,hc,d,hd=>by
   unfold Md.lv at h;split at h
   · cases h
     rw[Zp]at hd;rw[hd];exact hc
   exact zJu (zIa hm k) _ _ h (hm c) d hd
theorem zOv {T:List Rw.Row} (hT:Md.bd T) {a:Int} (ha : -2147483648≤a∧a≤2147483647) {l:List Int} (h:Md.full T a=some l):∀y∈l,-2147483648≤y∧y≤2147483647:=by
 unfold Md.full at h;rw[zBv _ _ _ _ (by simp)]at h;cases hl:Md.lv (Md.mp T) (T.length+3) a with
 | none=>rw[hl]at h;cases h
 | some b =>
   rw[hl,Zy]at h;unfold Md.fit at h;split at h
   · cases h
     rw[ZH];exact zIa (zHO hT) _ a b hl ha
   cases h
section
open Go.RowKit
theorem zOw (w:World) (u:Value) (e:TypeId) (g:Nat) (hg:w.heap.size=g):(w.alloc (.cells #[u] e)).drew.cell? ⟨g,0,none⟩=some u:=by
 subst hg;show (w.alloc (.cells #[u] e)).cell? ⟨w.heap.size,0,none⟩=some u;have h:(w.alloc (.cells #[u] e)).heap[w.heap.size]?=some (.cells #[u] e (0,0)):=ZV _ _;simp only[World.cell?,h];rfl
theorem zDY (w:World) (o:Obj):(w.alloc o).heap.size=w.heap.size+1:=by simp
section
variable {P:Program}
theorem zKe {o:Oper} {a:Act} {K:Act→World→Prop} {Q:Exit→Act→World→Prop} (w:World) (s x:Operand) (t:TypeId)
 (ho:o.op=.call { callee:=.builtin .append,args := #[s,x],argTypes := #[t,t] })
 (base:Nat) (e:TypeId) (i:TypeInfo) (z:Value) (bytes:Nat) (ht:P.underlying t=some (.slice e)) (hi:P.info? e=some i) (hz:i.zero=some z)
 (af:i.size=1) (ah:i.bytes=bytes) (aj:z.cells.size=1)
 (v:Value) (n:Nat) (xs:List Value) (hs:a.eval s=v) (ag:w.ownsRow base e 1 v n xs)
 (u:Value) (h1:u.oneCell'=true) (g:Nat) (hx:a.eval x=.slice (some ⟨g,0,none⟩) 1 1) (hcell:w.cell? ⟨g,0,none⟩=some u)
 (ai:n+1≤maxLen) (ae:(n+1)*bytes≤140737488355328) (aa:base≤w.heap.size)
 (h:∀v' w',w'.ownsRow base e 1 v' (n+1) (xs++[u])→Below base w w'→w.grownBy w' v.ownBlock→K (a.put o.dst v') w') :
 o.wp P a w K Q:=by
 refine wp_append_own (P:=P) w s x t ho base e i z 1 bytes ht hi hz af ah aj (by omega) v n xs hs ag ⟨g,0,none⟩ 1 1 [u] hx rfl ?_ ?_ ai ae aa ?_
 · intro j q hq;rcases j with _|j
   · simp only[Y4,Zg]at hq;subst hq;simpa [Addr.add] using hcell
   simp at hq
 · intro q hq;simp only[Zp]at hq;subst hq;exact h1
 intro v' w' h2 h3 _;refine h v' w' h2 ?_ h3;refine (Zc _ _).grown h3 aa ?_;intro k hk;exact (ag.lt k hk).1
theorem zCH {ops:Array Oper} {o:Oper} {a:Act} {K:Act→World→Prop} {Q:Exit→Act→World→Prop} {E:Prop} (w:World) (ai:o.guard=none) (s x:Operand) (t:TypeId)
 (ho:o.op=.call { callee:=.builtin .append,args := #[s,x],argTypes := #[t,t] })
 (base:Nat) (e:TypeId) (i:TypeInfo) (z:Value) (bytes:Nat) (ht:P.underlying t=some (.slice e)) (hi:P.info? e=some i) (hz:i.zero=some z)
 (af:i.size=1) (ah:i.bytes=bytes) (ak:z.cells.size=1)
 (v:Value) (n:Nat) (xs:List Value) (hs:a.eval s=v) (ag:w.ownsRow base e 1 v n xs)
 (u:Value) (h1:u.oneCell'=true) (g:Nat) (hx:a.eval x=.slice (some ⟨g,0,none⟩) 1 1) (hcell:w.cell? ⟨g,0,none⟩=some u)
 (aj:n+1≤maxLen) (aa:(n+1)*bytes≤140737488355328) (ae:base≤w.heap.size)
 (h:∀v' w',w'.ownsRow base e 1 v' (n+1) (xs++[u])→Below base w w'→w.grownBy w' v.ownBlock→K (a.put o.dst v') w') :
 if Region.wanted o (yielded ops a.tmps)=true then Oper.wp P o a w K Q else E:=by
 have hw:Region.wanted o (yielded ops a.tmps)=true:=by simp[Region.wanted,ai]
 rw[Zl hw];exact zKe w s x t ho base e i z bytes ht hi hz af ah ak v n xs hs ag u h1 g hx hcell aj aa ae h
end
def IsRow (k:IntKind) (w:World) (a:Option Addr) (len cap:Nat) (zs:List Int):Prop :=
 (a=none∧len=0∧cap=0∧zs=[]) ∨
 ∃x,a=some x∧len≤cap∧cap≤maxLen∧zs.length=cap∧(∀i,i<zs.length→w.cell? (x.add i)=some (.int k (zs.getD i 0)))∧∀n∈zs,(Lit.int k n).wf=true
theorem IsRow.len_le {k:IntKind} {w:World} {a:Option Addr} {len cap:Nat} {zs:List Int} (h:IsRow k w a len cap zs):len≤cap∧cap≤maxLen∧zs.length=cap:=by
 rcases h with ⟨rfl,rfl,rfl,rfl⟩|⟨x,rfl,h1,h2,h3,_⟩
 · exact⟨Za _,by decide,rfl⟩
 exact⟨h1,h2,h3⟩
theorem IsRow.wf {k:IntKind} {w:World} {a:Option Addr} {len cap:Nat} {zs:List Int} (h:IsRow k w a len cap zs):∀n∈zs,(Lit.int k n).wf=true:=by
 rcases h with ⟨rfl,rfl,rfl,rfl⟩|⟨x,rfl,h1,h2,h3,h4,h5⟩
 · simp
 exact h5
theorem IsRow.sl {k:IntKind} {w:World} {a:Option Addr} {len cap:Nat} {zs:List Int} (h:IsRow k w a len cap zs) (m:Nat) (hm:m≤len):Sl w w.heap.size a ((zs.take m).map (Value.int k)):=by
 rcases h with ⟨rfl,rfl,rfl,rfl⟩|⟨x,rfl,h1,h2,h3,h4,h5⟩
 · simpa using Sl.nil w w.heap.size none
 intro hx;rw[Ze,Zr]at hx;obtain⟨b,off,spot⟩:=x;have af:=h4 0 (by omega);have ae:spot=none:=by simpa [Addr.add] using World.cell?_spot af
 subst ae
 have aa:∀i,(⟨b,off,none⟩:Addr).add i=⟨b,off+i,none⟩:=by
  intro i;unfold Addr.add;split <;> simp_all
 refine⟨b,off,rfl,?_,?_⟩
 · rw[aa]at af;exact YN w _ af
 intro i hi;rw[Ze,Zr]at hi;rw[←aa,h4 i (by omega),Zw,Yk,Zl (by omega),Zb (by omega)];simp[List.getD,show i<zs.length by omega]
end
end Go.Proofs.YthngjlllojiacaaGreatDoor
