/- A text that comes piece by piece (plain): what is kept of it, byte by byte. -/
import Derived.Test.YthngjlllojiacaaGreatDoorSmMay
import Derived.Test.YthngjlllojiacaaGreatDoorUtfD
set_option linter.unusedSectionVars false
namespace Go.Proofs.YthngjlllojiacaaGreatDoor
structure Sm.St where
 z:List Int
 k:Nat
 g:List UInt8
 n:Nat
 e:Int
def Sm.bad (e:Int):Sm.St:=⟨[],0,[],0,e⟩
def Sm.sum (fl:Int→Nat) (l:List Int):Nat:=(l.map fl).sum
theorem Sm.sum_app (fl:Int→Nat) (a b:List Int):Sm.sum fl (a++b)=Sm.sum fl a+Sm.sum fl b:=by unfold Sm.sum;rw[List.map_append,List.sum_append]
theorem Sm.sum_one (fl:Int→Nat) (c:Int):Sm.sum fl [c]=fl c:=by simp[Sm.sum]
section
variable (p:Int→Bool) (fl:Int→Nat)
def Sm.char (s:Sm.St) (c:Int):Sm.St:=if 1024<s.n+fl c then Sm.bad 7 else ⟨s.z++[c],if p c=true then s.z.length else s.k,[],s.n+fl c,0⟩
def Sm.byte (s:Sm.St) (b:UInt8):Sm.St:=match zAa (s.g++[b]) with
 | some (c,_)=>Sm.char p fl s c
 | none=>if Sm.mayP (s.g++[b])=true then ⟨s.z,s.k,s.g++[b],s.n,0⟩ else Sm.bad 6
def Sm.feed (s:Sm.St) (l:List UInt8):Sm.St:=l.foldl (fun s b=>if s.e=0 then Sm.byte p fl s b else s) s
end
structure Sm.Ok (fl:Int→Nat) (s:Sm.St):Prop where
 e:s.e=0
 z:∀c∈s.z,U.isC c=true
 k:s.k≤s.z.length
 g:zAa s.g=none
 gl:s.g.length≤3
 n:s.n≤1024
 zn:Sm.sum fl s.z≤s.n
section
variable {p:Int→Bool} {fl:Int→Nat}
theorem Sm.next_len {s:List UInt8} {b:UInt8} {c:Int} {m:Nat} (hs:zAa s=none) (h:zAa (s++[b])=some (c,m)):m=s.length+1∧U.isC c=true:=by
 obtain⟨h1,h2,h3,h4,h5,_⟩:=zBl _ _ _ h;rw[List.length_append,List.length_singleton]at h3;refine⟨?_,h4⟩;rcases Nat.lt_or_ge s.length m with hn|hn
 · omega
 have:=zFz s c m hn h4 (by rw[h5,List.take_append_of_le_length hn]);rw[hs]at this;cases this
theorem Sm.char_bad {s:Sm.St} {c:Int} (h:(Sm.char p fl s c).e≠0):Sm.char p fl s c=Sm.bad 7:=by
 unfold Sm.char at h ⊢;split
 · rfl
 rename_i hh;rw[if_neg hh]at h;exact absurd rfl h
theorem Sm.Ok.char {s:Sm.St} (h:Sm.Ok fl s) {c:Int} (hc:U.isC c=true) (he:(Sm.char p fl s c).e=0):Sm.Ok fl (Sm.char p fl s c):=by
 unfold Sm.char at he ⊢;split
 · rename_i hh;rw[if_pos hh]at he;cases he
 rename_i hh;refine⟨rfl,fun d hd=>?_,?_,rfl,by simp,by show s.n+fl c≤1024;omega,?_⟩
 · rcases List.mem_append.1 hd with h1|h1
   · exact h.z d h1
   rw[List.mem_singleton]at h1;rw[h1];exact hc
 · show (if p c=true then s.z.length else s.k)≤(s.z++[c]).length;have:=h.k;rw[List.length_append];split <;> simp <;> omega
 show Sm.sum fl (s.z++[c])≤s.n+fl c;rw[Sm.sum_app,Sm.sum_one];have:=h.zn;omega
theorem Sm.Ok.byte {s:Sm.St} (h:Sm.Ok fl s) {b:UInt8} (he:(Sm.byte p fl s b).e=0):Sm.Ok fl (Sm.byte p fl s b):=by
 cases hn:zAa (s.g++[b]) with
 | some q =>
   obtain⟨c,m⟩:=q;have e1:Sm.byte p fl s b=Sm.char p fl s c:=by unfold Sm.byte;rw[hn]
   rw[e1]at he ⊢;exact h.char (Sm.next_len h.g hn).2 he
 | none =>
   have e1:Sm.byte p fl s b=if Sm.mayP (s.g++[b])=true then ⟨s.z,s.k,s.g++[b],s.n,0⟩ else Sm.bad 6:=by unfold Sm.byte;rw[hn]
   rw[e1]at he ⊢;split
   rotate_left
   · rename_i hm;rw[if_neg hm]at he;cases he
   rename_i hm;obtain⟨c,t,hc,ht,hh⟩:=(Sm.mayP_iff (by simp) hn).1 hm;refine⟨rfl,h.z,h.k,hn,?_,h.n,h.zn⟩;have h1:=congrArg List.length hh;rw[zDw c hc,List.length_append]at h1;have h2:=zCF c;have h3:0<t.length:=List.length_pos_iff.2 ht;show (s.g++[b]).length≤3;omega
theorem Sm.byte_bad {s:Sm.St} {b:UInt8} (h:(Sm.byte p fl s b).e≠0):Sm.byte p fl s b=Sm.bad (Sm.byte p fl s b).e∧((Sm.byte p fl s b).e=6∨(Sm.byte p fl s b).e=7):=by
 cases hn:zAa (s.g++[b]) with
 | some q =>
   have e1:Sm.byte p fl s b=Sm.char p fl s q.1:=by unfold Sm.byte;rw[hn]
   rw[e1]at h ⊢;rw[Sm.char_bad h];exact⟨rfl,.inr rfl⟩
 | none =>
   have e1:Sm.byte p fl s b=if Sm.mayP (s.g++[b])=true then ⟨s.z,s.k,s.g++[b],s.n,0⟩ else Sm.bad 6:=by unfold Sm.byte;rw[hn]
   rw[e1]at h ⊢;split
   · rename_i hm;rw[if_pos hm]at h;exact absurd rfl h
   exact⟨rfl,.inl rfl⟩
theorem Sm.feed_nil (s:Sm.St):Sm.feed p fl s []=s:=rfl
theorem Sm.feed_snoc (s:Sm.St) (l:List UInt8) (b:UInt8):Sm.feed p fl s (l++[b])=if (Sm.feed p fl s l).e=0 then Sm.byte p fl (Sm.feed p fl s l) b else Sm.feed p fl s l:=by
 unfold Sm.feed;rw[List.foldl_append];rfl
theorem Sm.feed_app (s:Sm.St) (l m:List UInt8):Sm.feed p fl s (l++m)=Sm.feed p fl (Sm.feed p fl s l) m:=by
 unfold Sm.feed;rw[List.foldl_append]
theorem Sm.feed_stop {s:Sm.St} (h:s.e≠0):∀l:List UInt8,Sm.feed p fl s l=s
 | []=>rfl
 | b::l=>by
   show Sm.feed p fl (if s.e=0 then Sm.byte p fl s b else s) l=s;rw[if_neg h];exact Sm.feed_stop h l
theorem Sm.Ok.feed:∀(l:List UInt8) {s:Sm.St},Sm.Ok fl s→(Sm.feed p fl s l).e=0→Sm.Ok fl (Sm.feed p fl s l)
 | [],_,h,_=>h
 | b::l,s,h,he=>by
   have e1:Sm.feed p fl s (b::l)=Sm.feed p fl (Sm.byte p fl s b) l:=by
    show Sm.feed p fl (if s.e=0 then Sm.byte p fl s b else s) l=_;rw[if_pos h.e]
   rw[e1]at he ⊢
   by_cases hb:(Sm.byte p fl s b).e=0
   · exact Sm.Ok.feed l (h.byte hb) he
   rw[Sm.feed_stop hb]at he;exact absurd he hb
theorem Sm.feed_bad:∀(l:List UInt8) {s:Sm.St},Sm.Ok fl s→(Sm.feed p fl s l).e≠0→Sm.feed p fl s l=Sm.bad (Sm.feed p fl s l).e∧((Sm.feed p fl s l).e=6∨(Sm.feed p fl s l).e=7)
 | [],s,h,he=>absurd h.e he
 | b::l,s,h,he=>by
   have e1:Sm.feed p fl s (b::l)=Sm.feed p fl (Sm.byte p fl s b) l:=by
    show Sm.feed p fl (if s.e=0 then Sm.byte p fl s b else s) l=_;rw[if_pos h.e]
   rw[e1]at he ⊢
   by_cases hb:(Sm.byte p fl s b).e=0
   · exact Sm.feed_bad l (h.byte hb) he
   rw[Sm.feed_stop hb];exact Sm.byte_bad hb
theorem Sm.next_none {c:Int} {g t:List UInt8} (hc:U.isC c=true) (ht:t≠[]) (h:zAk c=g++t):zAa g=none:=by
 cases hg:zAa g with
 | none=>rfl
 | some q =>
   obtain⟨d,m⟩:=q;obtain⟨h1,h2,h3,h4,h5,_⟩:=zBl _ _ _ hg;have e1:=zBX d h4 (g.drop m++t);rw[←List.append_assoc,h5,List.take_append_drop,←h,List.length_take,Nat.min_eq_left h3]at e1;have e2:=zBX c hc [];rw[List.append_nil,e1]at e2
   have e3:m=(zAk c).length:=by
    have:=Option.some.inj e2;exact (Prod.mk.inj this).2
   have h6:0<t.length:=List.length_pos_iff.2 ht;rw[h,List.length_append]at e3;omega
end
def Sm.lsG (p:Int→Bool):Nat→Nat→List Int→Nat
 | _,j,[]=>j
 | i,j,c::l=>Sm.lsG p (i+1) (if p c=true then i else j) l
def Sm.ls (p:Int→Bool) (a:List Int):Nat:=Sm.lsG p 0 0 a
theorem Sm.lsG_snoc (p:Int→Bool) (c:Int):∀(a:List Int) (i j:Nat),Sm.lsG p i j (a++[c])=if p c=true then i+a.length else Sm.lsG p i j a
 | [],i,j=>rfl
 | d::a,i,j=>by
   show Sm.lsG p (i+1) (if p d=true then i else j) (a++[c])=if p c=true then i+(a.length+1) else Sm.lsG p (i+1) (if p d=true then i else j) a
   rw[Sm.lsG_snoc p c a];split
   · omega
   rfl
theorem Sm.ls_snoc (p:Int→Bool) (a:List Int) (c:Int):Sm.ls p (a++[c])=if p c=true then a.length else Sm.ls p a:=by
 unfold Sm.ls;rw[Sm.lsG_snoc,Nat.zero_add]
theorem Sm.lsG_at (p:Int→Bool):∀(a:List Int) (i j:Nat),Sm.lsG p i j a=j∨∃m x,Sm.lsG p i j a=i+m∧a[m]?=some x∧p x=true
 | [],i,j=>.inl rfl
 | d::a,i,j=>by
   show Sm.lsG p (i+1) (if p d=true then i else j) a=j∨∃m x,Sm.lsG p (i+1) (if p d=true then i else j) a=i+m∧_;rcases Sm.lsG_at p a (i+1) (if p d=true then i else j) with h|⟨m,x,h1,h2,h3⟩
   · by_cases hd:p d=true
     · rw[if_pos hd]at h;exact .inr ⟨0,d,by rw[if_pos hd,h];rfl,rfl,hd⟩
     rw[if_neg hd]at h;exact .inl (by rw[if_neg hd,h])
   exact .inr ⟨m+1,x,by rw[h1];omega,by simpa using h2,h3⟩
theorem Sm.ls_at (p:Int→Bool) (a:List Int):Sm.ls p a=0∨∃x,a[Sm.ls p a]?=some x∧p x=true:=by
 rcases Sm.lsG_at p a 0 0 with h|⟨m,x,h1,h2,h3⟩
 · exact .inl h
 refine .inr ⟨x,?_,h3⟩;unfold Sm.ls;rw[h1,Nat.zero_add];exact h2
theorem Sm.ls_le (p:Int→Bool) (a:List Int):Sm.ls p a≤a.length:=by
 rcases Sm.ls_at p a with h|⟨x,h,_⟩
 · omega
 have:=(List.getElem?_eq_some_iff.1 h).1;omega
theorem Sm.ls_cut {p:Int→Bool} {F:List Int→List Int} (h0:F []=[]) (hF:∀a c b,p c=true→F (a++c::b)=F a++F (c::b)) (a b:List Int):F (a.take (Sm.ls p a))++F (a.drop (Sm.ls p a)++b)=F (a++b):=by
 rcases Sm.ls_at p a with h|⟨x,h,hx⟩
 · rw[h,List.take_zero,List.drop_zero,h0,List.nil_append]
 obtain⟨h1,h2⟩:=List.getElem?_eq_some_iff.1 h;have h3:a.drop (Sm.ls p a)=x::a.drop (Sm.ls p a+1):=by rw[List.drop_eq_getElem_cons h1,h2]
 conv=>rhs;rw[←List.take_append_drop (Sm.ls p a) a,h3,List.append_assoc,List.cons_append]
 rw[hF _ x _ hx,h3,List.cons_append]
section
variable (p:Int→Bool) (fl:Int→Nat)
def Sm.mid (j0:Nat) (a:List Int) (g:List UInt8):Sm.St:=⟨a.drop j0,Sm.ls p a-j0,g,Sm.sum fl a,0⟩
def Sm.can (a:List Int) (g:List UInt8):Sm.St:=⟨a.drop (Sm.ls p a),0,g,Sm.sum fl a,0⟩
end
section
variable {p:Int→Bool} {fl:Int→Nat}
theorem Sm.can_mid (a:List Int) (g:List UInt8):Sm.can p fl a g=Sm.mid p fl (Sm.ls p a) a g:=by
 unfold Sm.can Sm.mid;rw[Nat.sub_self]
def Sm.fits (b:List Int) (g:List UInt8):Prop:=g=[]∨∃c b' t,b=c::b'∧t≠[]∧zAk c=g++t
theorem Sm.fits_none {b:List Int} {g:List UInt8} (hb:∀c∈b,U.isC c=true) (h:Sm.fits b g):zAa g=none∧g.length≤3:=by
 rcases h with rfl|⟨c,b',t,rfl,ht,h⟩
 · exact⟨rfl,by simp⟩
 have hc:=hb c List.mem_cons_self;refine⟨Sm.next_none hc ht h,?_⟩;have h1:=congrArg List.length h;rw[zDw c hc,List.length_append]at h1;have h2:=zCF c;have h3:0<t.length:=List.length_pos_iff.2 ht;omega
theorem Sm.mid_ok {j0:Nat} {a b:List Int} {g:List UInt8} (ha:∀c∈a++b,U.isC c=true) (hn:Sm.sum fl (a++b)≤1024) (hf:Sm.fits b g) (hj:j0≤Sm.ls p a):Sm.Ok fl (Sm.mid p fl j0 a g):=by
 have hg:=Sm.fits_none (fun c hc=>ha c (List.mem_append_right _ hc)) hf;rw[Sm.sum_app]at hn;refine⟨rfl,fun c hc=>ha c (List.mem_append_left _ (List.mem_of_mem_drop hc)),?_,hg.1,hg.2,by show Sm.sum fl a≤1024;omega,?_⟩
 · show Sm.ls p a-j0≤(a.drop j0).length;have:=Sm.ls_le p a;rw[List.length_drop];omega
 show Sm.sum fl (a.drop j0)≤Sm.sum fl a
 conv=>rhs;rw[←List.take_append_drop j0 a,Sm.sum_app]
 omega
theorem Sm.byte_mid {j0:Nat} {a b:List Int} {g:List UInt8} {β:UInt8} {R:List UInt8} (ha:∀c∈a++b,U.isC c=true) (hn:Sm.sum fl (a++b)≤1024) (hf:Sm.fits b g) (hR:zAx b=g++β::R) (hj:j0≤Sm.ls p a) :
 ∃d b' g',b=d++b'∧Sm.fits b' g'∧zAx b'=g'++R∧j0≤Sm.ls p (a++d)∧Sm.byte p fl (Sm.mid p fl j0 a g) β=Sm.mid p fl j0 (a++d) g':=by
 cases b with
 | nil =>
   have:=congrArg List.length hR;rw[List.length_append,List.length_cons]at this;rw[show zAx []=[] from rfl,List.length_nil]at this;omega
 | cons c b =>
   have hc:U.isC c=true:=ha c (by simp)
   obtain⟨t,ht,he⟩:∃t,t≠[]∧zAk c=g++t:=by
    rcases hf with rfl|⟨c',b',t,hb,ht,h⟩
    · exact⟨zAk c,(fun e=>by have:=(zCq c).1;rw[e]at this;exact absurd this (by decide)),rfl⟩
    obtain⟨rfl,rfl⟩:=List.cons.inj hb;exact⟨t,ht,h⟩
   rw[zAA,he,List.append_assoc]at hR;have hR2:=List.append_cancel_left hR;cases t with
   | nil=>exact absurd rfl ht
   | cons β' t =>
     rw[List.cons_append]at hR2;obtain⟨rfl,hR3⟩:=List.cons.inj hR2;have hgn:=Sm.fits_none (b:=c::b) (fun d hd=>ha d (List.mem_append_right _ hd)) (.inr ⟨c,b,β'::t,rfl,ht,he⟩);rw[Sm.sum_app,show c::b=[c]++b from rfl,Sm.sum_app,Sm.sum_one]at hn;cases t with
     | nil =>
       have hnx:zAa (g++[β'])=some (c,(zAk c).length):=by
        have:=zBX c hc [];rw[List.append_nil]at this;rw[←he];exact this
       refine⟨[c],b,[],rfl,.inl rfl,by simpa using hR3,?_,?_⟩
       · rw[Sm.ls_snoc];split
         · exact Nat.le_trans hj (Sm.ls_le p a)
         exact hj
       have e1:Sm.byte p fl (Sm.mid p fl j0 a g) β'=Sm.char p fl (Sm.mid p fl j0 a g) c:=by
        unfold Sm.byte;rw[show (Sm.mid p fl j0 a g).g=g from rfl,hnx]
       rw[e1];unfold Sm.char;rw[show (Sm.mid p fl j0 a g).n=Sm.sum fl a from rfl,if_neg (by omega)];have hl:=Sm.ls_le p a;unfold Sm.mid;rw[Sm.ls_snoc,Sm.sum_app,Sm.sum_one,List.drop_append_of_le_length (by omega)];congr 1;split
       · rw[List.length_drop]
       rfl
     | cons β2 t =>
       have he2:zAk c=(g++[β'])++β2::t:=by rw[he];simp
       have hnx:zAa (g++[β'])=none:=Sm.next_none hc (by simp) he2;refine⟨[],c::b,g++[β'],rfl,.inr ⟨c,b,β2::t,rfl,by simp,he2⟩,?_,by rw[List.append_nil];exact hj,?_⟩
       · rw[zAA,he2,List.append_assoc];congr 1
       have e1:Sm.byte p fl (Sm.mid p fl j0 a g) β'=if Sm.mayP (g++[β'])=true then ⟨a.drop j0,Sm.ls p a-j0,g++[β'],Sm.sum fl a,0⟩ else Sm.bad 6:=by
        unfold Sm.byte;rw[show (Sm.mid p fl j0 a g).g=g from rfl,hnx];rfl
       rw[e1,if_pos ((Sm.mayP_iff (by simp) hnx).2 ⟨c,β2::t,hc,by simp,he2⟩),List.append_nil];rfl
theorem Sm.feed_mid {j0:Nat}:∀(P:List UInt8) {a b:List Int} {g R:List UInt8},(∀c∈a++b,U.isC c=true)→Sm.sum fl (a++b)≤1024→Sm.fits b g→zAx b=g++(P++R)→j0≤Sm.ls p a →
 ∃d b' g',b=d++b'∧Sm.fits b' g'∧zAx b'=g'++R∧j0≤Sm.ls p (a++d)∧Sm.feed p fl (Sm.mid p fl j0 a g) P=Sm.mid p fl j0 (a++d) g'
 | [],a,b,g,R,_,_,hf,hR,hj=>⟨[],b,g,rfl,hf,hR,by rw[List.append_nil];exact hj,by rw[List.append_nil];rfl⟩
 | β::P,a,b,g,R,ha,hn,hf,hR,hj=>by
   obtain⟨d1,b1,g1,e1,f1,r1,j1,s1⟩:=Sm.byte_mid (R:=P++R) ha hn hf (by simpa using hR) hj;subst e1;obtain⟨d2,b2,g2,e2,f2,r2,j2,s2⟩:=Sm.feed_mid P (by rw[List.append_assoc];exact ha) (by rw[List.append_assoc];exact hn) f1 r1 j1;rw[List.append_assoc]at j2 s2;refine⟨d1++d2,b2,g2,by rw[e2,List.append_assoc],f2,r2,j2,?_⟩;rw[←s2,←s1];show Sm.feed p fl (if (Sm.mid p fl j0 a g).e=0 then Sm.byte p fl (Sm.mid p fl j0 a g) β else Sm.mid p fl j0 a g) P=_;rw[if_pos (show (Sm.mid p fl j0 a g).e=0 from rfl)]
theorem Sm.fits_end {b:List Int} {g:List UInt8} (hb:∀c∈b,U.isC c=true) (h:Sm.fits b g) (he:zAx b=g):b=[]∧g=[]:=by
 rcases h with rfl|⟨c,b',t,rfl,ht,h⟩
 · cases b with
   | nil=>exact⟨rfl,rfl⟩
   | cons c b =>
     rw[zAA]at he;have:=congrArg List.length he;rw[List.length_append,List.length_nil]at this;have:=(zCq c).1;omega
 rw[zAA,h]at he;have:=congrArg List.length he;rw[List.length_append,List.length_append]at this;have h3:0<t.length:=List.length_pos_iff.2 ht;omega
end
def Sm.out (s:Sm.St):List Int:=s.z.take s.k
def Sm.rest (s:Sm.St):Sm.St:=⟨s.z.drop s.k,0,s.g,s.n,s.e⟩
theorem Sm.mid_out {p:Int→Bool} {fl:Int→Nat} {j0:Nat} {a:List Int} {g:List UInt8} (hj:j0≤Sm.ls p a):Sm.rest (Sm.mid p fl j0 a g)=Sm.can p fl a g∧a.take j0++Sm.out (Sm.mid p fl j0 a g)=a.take (Sm.ls p a):=by
 constructor
 · unfold Sm.rest Sm.mid Sm.can;rw[List.drop_drop,show j0+(Sm.ls p a-j0)=Sm.ls p a by omega]
 unfold Sm.out Sm.mid;rw[←List.take_add,show j0+(Sm.ls p a-j0)=Sm.ls p a by omega]
theorem Sm.out_total {p:Int→Bool} {fl:Int→Nat} {F:List Int→List Int} (h0:F []=[]) (hF:∀a c b,p c=true→F (a++c::b)=F a++F (c::b)) (a d:List Int) (g:List UInt8) (hj:Sm.ls p a≤Sm.ls p (a++d)):F (a.take (Sm.ls p a))++F (Sm.out (Sm.mid p fl (Sm.ls p a) (a++d) g))=F ((a++d).take (Sm.ls p (a++d))):=by
 have h1:=(Sm.mid_out (p:=p) (fl:=fl) (g:=g) hj).2;rw[List.take_append_of_le_length (Sm.ls_le p a)]at h1;rw[←h1];rcases Sm.ls_at p a with h|⟨x,hx,hp⟩
 · rw[h,List.take_zero,h0,List.nil_append,List.nil_append]
 cases ho:Sm.out (Sm.mid p fl (Sm.ls p a) (a++d) g) with
 | nil=>rw[h0,List.append_nil,List.append_nil]
 | cons y o =>
   have hy:y=x:=by
    obtain⟨h2,h3⟩:=List.getElem?_eq_some_iff.1 hx
    have h4:(a++d).drop (Sm.ls p a)=x::(a++d).drop (Sm.ls p a+1):=by
     rw[List.drop_eq_getElem_cons (by rw[List.length_append];omega),List.getElem_append_left h2,h3]
    unfold Sm.out Sm.mid at ho;rw[show (⟨(a++d).drop (Sm.ls p a),Sm.ls p (a++d)-Sm.ls p a,g,Sm.sum fl (a++d),0⟩:Sm.St).z=(a++d).drop (Sm.ls p a) from rfl,h4]at ho;cases hk:Sm.ls p (a++d)-Sm.ls p a with
    | zero=>rw[hk]at ho;cases ho
    | succ m=>rw[hk]at ho;simp only[List.take_succ_cons]at ho;exact (List.cons.inj ho).1.symm
   rw[hy,←hF _ x _ hp]
end Go.Proofs.YthngjlllojiacaaGreatDoor
