/- A text that comes piece by piece (plain): what is kept of it, byte by byte. -/
import Derived.Test.YtdbpjmfflofadaaGreatDoorSmMay
import Derived.Test.YtdbpjmfflofadaaGreatDoorUtfD
set_option linter.unusedVariables false
set_option linter.unusedSimpArgs false
namespace Go.Proofs.YtdbpjmfflofadaaGreatDoor
structure Sm.St where
 z:List Int
 k:Nat
 g:List UInt8
 n:Nat
 e:Int
def Sm.bad (e:Int):Sm.St:=⟨[],0,[],0,e⟩
def Sm.sum (fl:Int→Nat) (l:List Int):Nat:=(l.map fl).sum
theorem zCX (fl:Int→Nat) (a b:List Int):Sm.sum fl (a++b)=Sm.sum fl a+Sm.sum fl b:=by unfold Sm.sum;rw[List.map_append,List.sum_append]
theorem zHt (fl:Int→Nat) (c:Int):Sm.sum fl [c]=fl c:=by simp[Sm.sum]
section
variable (p:Int→Bool) (fl:Int→Nat)
def Sm.char (s:Sm.St) (c:Int):Sm.St:=if 1024<s.n+fl c then Sm.bad 7 else ⟨s.z++[c],if p c=true then s.z.length else s.k,[],s.n+fl c,0⟩
def Sm.byte (s:Sm.St) (b:UInt8):Sm.St:=match zAe (s.g++[b]) with
 | some (c,_)=>Sm.char p fl s c
 | none=>if zDe (s.g++[b])=true then ⟨s.z,s.k,s.g++[b],s.n,0⟩ else Sm.bad 6
def Sm.feed (s:Sm.St) (l:List UInt8):Sm.St:=l.foldl (fun s b=>if s.e=0 then Sm.byte p fl s b else s) s
end
structure Sm.Ok (fl:Int→Nat) (s:Sm.St):Prop where
 e:s.e=0
 z:∀c∈s.z,U.isC c=true
 k:s.k≤s.z.length
 g:zAe s.g=none
 gl:s.g.length≤3
 n:s.n≤1024
 zn:Sm.sum fl s.z≤s.n
section
variable {p:Int→Bool} {fl:Int→Nat}
theorem zJq {s:List UInt8} {b:UInt8} {c:Int} {m:Nat} (hs:zAe s=none) (h:zAe (s++[b])=some (c,m)):m=s.length+1∧U.isC c=true:=by
 obtain⟨h1,h2,h3,h4,h5,_⟩:=zEd _ _ _ h;rw[Zc,Z8]at h3;refine⟨?_,h4⟩;rcases Z3 s.length m with hn|hn
 · omega
 have:=zIK s c m hn h4 (by rw[h5,Yp hn]);rw[hs]at this;cases this
theorem zOq {s:Sm.St} {c:Int} (h:(Sm.char p fl s c).e≠0):Sm.char p fl s c=Sm.bad 7:=by
 unfold Sm.char at h ⊢;split
 · rfl
 rename_i hh;rw[Zk hh]at h;exact absurd rfl h
theorem Sm.Ok.char {s:Sm.St} (h:Sm.Ok fl s) {c:Int} (hc:U.isC c=true) (he:(Sm.char p fl s c).e=0):Sm.Ok fl (Sm.char p fl s c):=by
 unfold Sm.char at he ⊢;split
 · rename_i hh;rw[Zl hh]at he;cases he
 rename_i hh;refine⟨rfl,fun d hd=>?_,?_,rfl,by simp,by show s.n+fl c≤1024;omega,?_⟩
 · rcases List.mem_append.1 hd with h1|h1
   · exact h.z d h1
   rw[ZE]at h1;rw[h1];exact hc
 · show (if p c=true then s.z.length else s.k)≤(s.z++[c]).length;have:=h.k;rw[Zc];split <;> simp <;> omega
 show Sm.sum fl (s.z++[c])≤s.n+fl c;rw[zCX,zHt];have:=h.zn;omega
theorem Sm.Ok.byte {s:Sm.St} (h:Sm.Ok fl s) {b:UInt8} (he:(Sm.byte p fl s b).e=0):Sm.Ok fl (Sm.byte p fl s b):=by
 cases hn:zAe (s.g++[b]) with
 | some q =>
   obtain⟨c,m⟩:=q;have e1:Sm.byte p fl s b=Sm.char p fl s c:=by unfold Sm.byte;rw[hn]
   rw[e1]at he ⊢;exact h.char (zJq h.g hn).2 he
 | none =>
   have e1:Sm.byte p fl s b=if zDe (s.g++[b])=true then ⟨s.z,s.k,s.g++[b],s.n,0⟩ else Sm.bad 6:=by unfold Sm.byte;rw[hn]
   rw[e1]at he ⊢;split
   · rename_i hm;obtain⟨c,t,hc,ht,hh⟩:=(zJp (by simp) hn).1 hm;refine⟨rfl,h.z,h.k,hn,?_,h.n,h.zn⟩;have h1:=ZR List.length hh;rw[zDS c hc,Zc]at h1;have h2:=zCN c;have h3:0<t.length:=List.length_pos_iff.2 ht;show (s.g++[b]).length≤3;omega
   rename_i hm;rw[Zk hm]at he;cases he
theorem zOr {s:Sm.St} {b:UInt8} (h:(Sm.byte p fl s b).e≠0):Sm.byte p fl s b=Sm.bad (Sm.byte p fl s b).e∧((Sm.byte p fl s b).e=6∨(Sm.byte p fl s b).e=7):=by
 cases hn:zAe (s.g++[b]) with
 | some q =>
   have e1:Sm.byte p fl s b=Sm.char p fl s q.1:=by unfold Sm.byte;rw[hn]
   rw[e1]at h ⊢;rw[zOq h];exact⟨rfl,.inr rfl⟩
 | none =>
   have e1:Sm.byte p fl s b=if zDe (s.g++[b])=true then ⟨s.z,s.k,s.g++[b],s.n,0⟩ else Sm.bad 6:=by unfold Sm.byte;rw[hn]
   rw[e1]at h ⊢;split
   · rename_i hm;rw[Zl hm]at h;exact absurd rfl h
   exact⟨rfl,.inl rfl⟩
theorem zN0 (s:Sm.St) (l:List UInt8) (b:UInt8):Sm.feed p fl s (l++[b])=if (Sm.feed p fl s l).e=0 then Sm.byte p fl (Sm.feed p fl s l) b else Sm.feed p fl s l:=by
 unfold Sm.feed;rw[Y4];rfl
theorem zGg (s:Sm.St) (l m:List UInt8):Sm.feed p fl s (l++m)=Sm.feed p fl (Sm.feed p fl s l) m:=by
 unfold Sm.feed;rw[Y4]
theorem zDE {s:Sm.St} (h:s.e≠0):∀l:List UInt8,Sm.feed p fl s l=s
 | []=>rfl
 | b::l=>by
   show Sm.feed p fl (if s.e=0 then Sm.byte p fl s b else s) l=s;rw[Zk h];exact zDE h l
theorem Sm.Ok.feed:∀(l:List UInt8) {s:Sm.St},Sm.Ok fl s→(Sm.feed p fl s l).e=0→Sm.Ok fl (Sm.feed p fl s l)
 | [],_,h,_=>h
 | b::l,s,h,he=>by
   have e1:Sm.feed p fl s (b::l)=Sm.feed p fl (Sm.byte p fl s b) l:=by
    show Sm.feed p fl (if s.e=0 then Sm.byte p fl s b else s) l=_;rw[Zl h.e]
   rw[e1]at he ⊢
   by_cases hb:(Sm.byte p fl s b).e=0
   · exact Sm.Ok.feed l (h.byte hb) he
   rw[zDE hb]at he;exact absurd he hb
theorem zI1 {c:Int} {g t:List UInt8} (hc:U.isC c=true) (ht:t≠[]) (h:zAp c=g++t):zAe g=none:=by
 cases hg:zAe g with
 | none=>rfl
 | some q =>
   obtain⟨d,m⟩:=q;obtain⟨h1,h2,h3,h4,h5,_⟩:=zEd _ _ _ hg;have e1:=zCl d h4 (g.drop m++t);rw[←Zz,h5,Zu,←h,Zn,Jm h3]at e1;have e2:=zCl c hc [];rw[ZC,e1]at e2
   have e3:m=(zAp c).length:=by
    have:=Z6 e2;exact (Prod.mk.inj this).2
   have h6:0<t.length:=List.length_pos_iff.2 ht;rw[h,Zc]at e3;omega
end
def zFU (p:Int→Bool):Nat→Nat→List Int→Nat
 | _,j,[]=>j
 | i,j,c::l=>zFU p (i+1) (if p c=true then i else j) l
def zAF (p:Int→Bool) (a:List Int):Nat:=zFU p 0 0 a
theorem zJr (p:Int→Bool) (c:Int):∀(a:List Int) (i j:Nat),zFU p i j (a++[c])=if p c=true then i+a.length else zFU p i j a
 | [],i,j=>rfl
 | d::a,i,j=>by
   show zFU p (i+1) (if p d=true then i else j) (a++[c])=if p c=true then i+(a.length+1) else zFU p (i+1) (if p d=true then i else j) a
   rw[zJr p c a];split
   · omega
   rfl
theorem zE3 (p:Int→Bool) (a:List Int) (c:Int):zAF p (a++[c])=if p c=true then a.length else zAF p a:=by
 unfold zAF;rw[zJr,Z4]
theorem zN1 (p:Int→Bool):∀(a:List Int) (i j:Nat),zFU p i j a=j∨∃m x,zFU p i j a=i+m∧a[m]?=some x∧p x=true
 | [],i,j=>.inl rfl
 | d::a,i,j=>by
   show zFU p (i+1) (if p d=true then i else j) a=j∨∃m x,zFU p (i+1) (if p d=true then i else j) a=i+m∧_;rcases zN1 p a (i+1) (if p d=true then i else j) with h|⟨m,x,h1,h2,h3⟩
   · by_cases hd:p d=true
     · rw[Zl hd]at h;exact .inr ⟨0,d,by rw[Zl hd,h];rfl,rfl,hd⟩
     rw[Zk hd]at h;exact .inl (by rw[Zk hd,h])
   exact .inr ⟨m+1,x,by rw[h1];omega,by simpa using h2,h3⟩
theorem zLy (p:Int→Bool) (a:List Int):zAF p a=0∨∃x,a[zAF p a]?=some x∧p x=true:=by
 rcases zN1 p a 0 0 with h|⟨m,x,h1,h2,h3⟩
 · exact .inl h
 refine .inr ⟨x,?_,h3⟩;unfold zAF;rw[h1,Z4];exact h2
theorem zGN (p:Int→Bool) (a:List Int):zAF p a≤a.length:=by
 rcases zLy p a with h|⟨x,h,_⟩
 · omega
 have:=(List.getElem?_eq_some_iff.1 h).1;omega
theorem zRA {p:Int→Bool} {F:List Int→List Int} (h0:F []=[]) (hF:∀a c b,p c=true→F (a++c::b)=F a++F (c::b)) (a b:List Int):F (a.take (zAF p a))++F (a.drop (zAF p a)++b)=F (a++b):=by
 rcases zLy p a with h|⟨x,h,hx⟩
 · rw[h,X3,Xg,h0,ZV]
 obtain⟨h1,h2⟩:=List.getElem?_eq_some_iff.1 h;have h3:a.drop (zAF p a)=x::a.drop (zAF p a+1):=by rw[ZJ h1,h2]
 conv=>rhs;rw[←Zu (zAF p a) a,h3,Zz,ZN]
 rw[hF _ x _ hx,h3,ZN]
section
variable (p:Int→Bool) (fl:Int→Nat)
def Sm.mid (j0:Nat) (a:List Int) (g:List UInt8):Sm.St:=⟨a.drop j0,zAF p a-j0,g,Sm.sum fl a,0⟩
def zN2 (a:List Int) (g:List UInt8):Sm.St:=⟨a.drop (zAF p a),0,g,Sm.sum fl a,0⟩
end
section
variable {p:Int→Bool} {fl:Int→Nat}
theorem zCY (a:List Int) (g:List UInt8):zN2 p fl a g=Sm.mid p fl (zAF p a) a g:=by
 unfold zN2 Sm.mid;rw[Yu]
def zBs (b:List Int) (g:List UInt8):Prop:=g=[]∨∃c b' t,b=c::b'∧t≠[]∧zAp c=g++t
theorem zI2 {b:List Int} {g:List UInt8} (hb:∀c∈b,U.isC c=true) (h:zBs b g):zAe g=none∧g.length≤3:=by
 rcases h with rfl|⟨c,b',t,rfl,ht,h⟩
 · exact⟨rfl,by simp⟩
 have hc:=hb c ZI;refine⟨zI1 hc ht h,?_⟩;have h1:=ZR List.length h;rw[zDS c hc,Zc]at h1;have h2:=zCN c;have h3:0<t.length:=List.length_pos_iff.2 ht;omega
theorem zGO {j0:Nat} {a b:List Int} {g:List UInt8} (ha:∀c∈a++b,U.isC c=true) (hn:Sm.sum fl (a++b)≤1024) (hf:zBs b g) (hj:j0≤zAF p a):Sm.Ok fl (Sm.mid p fl j0 a g):=by
 have hg:=zI2 (fun c hc=>ha c (Xq _ hc)) hf;rw[zCX]at hn;refine⟨rfl,fun c hc=>ha c (YZ _ (Xh hc)),?_,hg.1,hg.2,by show Sm.sum fl a≤1024;omega,?_⟩
 · show zAF p a-j0≤(a.drop j0).length;have:=zGN p a;rw[ZH];omega
 show Sm.sum fl (a.drop j0)≤Sm.sum fl a
 conv=>rhs;rw[←Zu j0 a,zCX]
 omega
theorem zOs {j0:Nat} {a b:List Int} {g:List UInt8} {β:UInt8} {R:List UInt8} (ha:∀c∈a++b,U.isC c=true) (hn:Sm.sum fl (a++b)≤1024) (hf:zBs b g) (hR:zA4 b=g++β::R) (hj:j0≤zAF p a) :
 ∃d b' g',b=d++b'∧zBs b' g'∧zA4 b'=g'++R∧j0≤zAF p (a++d)∧Sm.byte p fl (Sm.mid p fl j0 a g) β=Sm.mid p fl j0 (a++d) g':=by
 cases b with
 | nil =>
   have:=ZR List.length hR;rw[Zc,ZB]at this;rw[show zA4 []=[] from rfl,ZY]at this;omega
 | cons c b =>
   have hc:U.isC c=true:=ha c (by simp)
   obtain⟨t,ht,he⟩:∃t,t≠[]∧zAp c=g++t:=by
    rcases hf with rfl|⟨c',b',t,hb,ht,h⟩
    · exact⟨zAp c,(fun e=>by have:=(zCf c).1;rw[e]at this;exact absurd this (by decide)),rfl⟩
    obtain⟨rfl,rfl⟩:=Qe hb;exact⟨t,ht,h⟩
   rw[zAW,he,Zz]at hR;have af:=XD hR;cases t with
   | nil=>exact absurd rfl ht
   | cons β' t =>
     rw[ZN]at af;obtain⟨rfl,ag⟩:=Qe af;have ah:=zI2 (b:=c::b) (fun d hd=>ha d (Xq _ hd)) (.inr ⟨c,b,β'::t,rfl,ht,he⟩);rw[zCX,show c::b=[c]++b from rfl,zCX,zHt]at hn;cases t with
     | nil =>
       have aa:zAe (g++[β'])=some (c,(zAp c).length):=by
        have:=zCl c hc [];rw[ZC]at this;rw[←he];exact this
       refine⟨[c],b,[],rfl,.inl rfl,by simpa using ag,?_,?_⟩
       · rw[zE3];split
         · exact Zh hj (zGN p a)
         exact hj
       have e1:Sm.byte p fl (Sm.mid p fl j0 a g) β'=Sm.char p fl (Sm.mid p fl j0 a g) c:=by
        unfold Sm.byte;rw[show (Sm.mid p fl j0 a g).g=g from rfl,aa]
       rw[e1];unfold Sm.char;rw[show (Sm.mid p fl j0 a g).n=Sm.sum fl a from rfl,Zk (by omega)];have hl:=zGN p a;unfold Sm.mid;rw[zE3,zCX,zHt,QC (by omega)];congr 1;split
       · rw[ZH]
       rfl
     | cons β2 t =>
       have ae:zAp c=(g++[β'])++β2::t:=by rw[he];simp
       have aa:zAe (g++[β'])=none:=zI1 hc (by simp) ae;refine⟨[],c::b,g++[β'],rfl,.inr ⟨c,b,β2::t,rfl,by simp,ae⟩,?_,by rw[ZC];exact hj,?_⟩
       · rw[zAW,ae,Zz];congr 1
       have e1:Sm.byte p fl (Sm.mid p fl j0 a g) β'=if zDe (g++[β'])=true then ⟨a.drop j0,zAF p a-j0,g++[β'],Sm.sum fl a,0⟩ else Sm.bad 6:=by
        unfold Sm.byte;rw[show (Sm.mid p fl j0 a g).g=g from rfl,aa];rfl
       rw[e1,Zl ((zJp (by simp) aa).2 ⟨c,β2::t,hc,by simp,ae⟩),ZC];rfl
theorem zGh {j0:Nat}:∀(P:List UInt8) {a b:List Int} {g R:List UInt8},(∀c∈a++b,U.isC c=true)→Sm.sum fl (a++b)≤1024→zBs b g→zA4 b=g++(P++R)→j0≤zAF p a →
 ∃d b' g',b=d++b'∧zBs b' g'∧zA4 b'=g'++R∧j0≤zAF p (a++d)∧Sm.feed p fl (Sm.mid p fl j0 a g) P=Sm.mid p fl j0 (a++d) g'
 | [],a,b,g,R,_,_,hf,hR,hj=>⟨[],b,g,rfl,hf,hR,by rw[ZC];exact hj,by rw[ZC];rfl⟩
 | β::P,a,b,g,R,ha,hn,hf,hR,hj=>by
   obtain⟨d1,b1,g1,e1,f1,r1,j1,s1⟩:=zOs (R:=P++R) ha hn hf (by simpa using hR) hj;subst e1;obtain⟨d2,b2,g2,e2,f2,r2,j2,s2⟩:=zGh P (by rw[Zz];exact ha) (by rw[Zz];exact hn) f1 r1 j1;rw[Zz]at j2 s2;refine⟨d1++d2,b2,g2,by rw[e2,Zz],f2,r2,j2,?_⟩;rw[←s2,←s1];show Sm.feed p fl (if (Sm.mid p fl j0 a g).e=0 then Sm.byte p fl (Sm.mid p fl j0 a g) β else Sm.mid p fl j0 a g) P=_;rw[Zl (show (Sm.mid p fl j0 a g).e=0 from rfl)]
theorem zJs {b:List Int} {g:List UInt8} (hb:∀c∈b,U.isC c=true) (h:zBs b g) (he:zA4 b=g):b=[]∧g=[]:=by
 rcases h with rfl|⟨c,b',t,rfl,ht,h⟩
 · cases b with
   | nil=>exact⟨rfl,rfl⟩
   | cons c b =>
     rw[zAW]at he;have:=ZR List.length he;rw[Zc,ZY]at this;have:=(zCf c).1;omega
 rw[zAW,h]at he;have:=ZR List.length he;rw[Zc,Zc]at this;have h3:0<t.length:=List.length_pos_iff.2 ht;omega
end
def Sm.out (s:Sm.St):List Int:=s.z.take s.k
def zLz (s:Sm.St):Sm.St:=⟨s.z.drop s.k,0,s.g,s.n,s.e⟩
theorem zKN {p:Int→Bool} {fl:Int→Nat} {j0:Nat} {a:List Int} {g:List UInt8} (hj:j0≤zAF p a):zLz (Sm.mid p fl j0 a g)=zN2 p fl a g∧a.take j0++Sm.out (Sm.mid p fl j0 a g)=a.take (zAF p a):=by
 constructor
 · unfold zLz Sm.mid zN2;rw[X0,show j0+(zAF p a-j0)=zAF p a by omega]
 unfold Sm.out Sm.mid;rw[←XQ,show j0+(zAF p a-j0)=zAF p a by omega]
theorem zN3 {p:Int→Bool} {fl:Int→Nat} {F:List Int→List Int} (h0:F []=[]) (hF:∀a c b,p c=true→F (a++c::b)=F a++F (c::b)) (a d:List Int) (g:List UInt8) (hj:zAF p a≤zAF p (a++d)):F (a.take (zAF p a))++F (Sm.out (Sm.mid p fl (zAF p a) (a++d) g))=F ((a++d).take (zAF p (a++d))):=by
 have h1:=(zKN (p:=p) (fl:=fl) (g:=g) hj).2;rw[Yp (zGN p a)]at h1;rw[←h1];rcases zLy p a with h|⟨x,hx,hp⟩
 · rw[h,X3,h0,ZV,ZV]
 cases ho:Sm.out (Sm.mid p fl (zAF p a) (a++d) g) with
 | nil=>rw[h0,ZC,ZC]
 | cons y o =>
   have hy:y=x:=by
    obtain⟨h2,h3⟩:=List.getElem?_eq_some_iff.1 hx
    have h4:(a++d).drop (zAF p a)=x::(a++d).drop (zAF p a+1):=by
     rw[ZJ (by rw[Zc];omega),List.getElem_append_left h2,h3]
    unfold Sm.out Sm.mid at ho;rw[show (⟨(a++d).drop (zAF p a),zAF p (a++d)-zAF p a,g,Sm.sum fl (a++d),0⟩:Sm.St).z=(a++d).drop (zAF p a) from rfl,h4]at ho;cases hk:zAF p (a++d)-zAF p a with
    | zero=>rw[hk]at ho;cases ho
    | succ m=>rw[hk]at ho;simp only[Xl]at ho;exact (Qe ho).1.symm
   rw[hy,←hF _ x _ hp]
end Go.Proofs.YtdbpjmfflofadaaGreatDoor
