/- Characters put together, in plain words: what is joined is the same, taken apart. -/
import Derived.Test.YthngjlllojiacaaGreatDoorOrEq
set_option maxHeartbeats 1000000
set_option linter.unusedVariables false
set_option linter.unusedSimpArgs false
namespace Go.Proofs.YthngjlllojiacaaGreatDoor
open Go.Proofs.Tryz
def zBZ (f:Int→Int) (B:List Int):Int:=B.foldl (fun m x=>max m (f x)) (-1)
theorem zFA (f:Int→Int) (B:List Int) (c:Int):zBZ f (B++[c])=max (zBZ f B) (f c):=by unfold zBZ;rw[List.foldl_append];rfl
theorem zLh (f:Int→Int):∀(B:List Int) (m n:Int),B.foldl (fun m x=>max m (f x)) m<n↔m<n∧∀x∈B,f x<n
 | [],m,n=>by simp
 | y::B,m,n=>by
   rw[Yz,zLh f B];simp only[Xd,forall_eq_or_imp,Int.max_lt,and_assoc]
theorem zI0 (f:Int→Int) (B:List Int) (n:Int):zBZ f B<n ↔ -1<n∧∀x∈B,f x<n:=zLh f B (-1) n
structure Nc.St where
 pre:List Int
 b:Option Int
 B:List Int
def Nc.St.out (s:Nc.St):List Int:=s.pre++(s.b.toList++s.B)
def Nc.app (f:Int→Int) (s:Nc.St) (c:Int):Nc.St:=if f c=0 then ⟨s.out,some c,[]⟩ else ⟨s.pre,s.b,s.B++[c]⟩
def Nc.hit (f:Int→Int) (j:Int→Int→Option Int) (s:Nc.St) (c:Int):Option Int:=if zBZ f s.B<f c then s.b.bind fun x=>j x c else none
def Nc.put (f:Int→Int) (j:Int→Int→Option Int) (s:Nc.St) (c:Int):Nc.St:=match Nc.hit f j s c with
 | some p=>⟨s.pre,some p,s.B⟩
 | none=>Nc.app f s c
def Nc.s0:Nc.St:=⟨[],none,[]⟩
def Nc.run (f:Int→Int) (j:Int→Int→Option Int) (s:Nc.St) (l:List Int):Nc.St:=l.foldl (Nc.put f j) s
def Nc.join (f:Int→Int) (j:Int→Int→Option Int) (l:List Int):List Int:=(Nc.run f j Nc.s0 l).out
section
variable {f:Int→Int} {j:Int→Int→Option Int}
theorem zAl (s:Nc.St) (c:Int):(Nc.app f s c).out=s.out++[c]:=by
 unfold Nc.app;split
 · simp[Nc.St.out]
 simp[Nc.St.out]
theorem zBC {s:Nc.St} {c p:Int} (h:Nc.hit f j s c=some p):∃x,s.b=some x∧j x c=some p∧zBZ f s.B<f c:=by
 unfold Nc.hit at h;split at h
 · rename_i hl;obtain⟨x,h1,h2⟩:=Option.bind_eq_some_iff.1 h;exact⟨x,h1,h2,hl⟩
 cases h
theorem Nc.run_app (s:Nc.St) (l m:List Int):Nc.run f j s (l++m)=Nc.run f j (Nc.run f j s l) m:=YJ ..
theorem zOo (s:Nc.St) (c:Int):(Nc.put f j s c).out.length=s.out.length∧0<s.out.length∨(Nc.put f j s c).out.length=s.out.length+1:=by
 unfold Nc.put;cases h:Nc.hit f j s c with
 | some p =>
   obtain⟨x,hb,_,_⟩:=zBC h;left
   simp[Nc.St.out,hb];omega
 | none=>right;simp[zAl]
theorem Nc.run_len:∀(l:List Int) (s:Nc.St),s.out.length≤(Nc.run f j s l).out.length∧(Nc.run f j s l).out.length≤s.out.length+l.length∧(l≠[]→0<(Nc.run f j s l).out.length)
 | [],s=>by simp[Nc.run]
 | c::l,s=>by
   have h1:=Nc.run_len l (Nc.put f j s c);have h2:=zOo (f:=f) (j:=j) s c;have e:Nc.run f j s (c::l)=Nc.run f j (Nc.put f j s c) l:=rfl;rw[e];simp only[ZF];refine⟨by omega,by omega,fun _=>by omega⟩
theorem zI1 (l:List Int):(Nc.join f j l).length≤l.length∧(l≠[]→0<(Nc.join f j l).length):=by
 have:=Nc.run_len (f:=f) (j:=j) l Nc.s0;unfold Nc.join;exact⟨by have h:=this.2.1;simpa [Nc.s0,Nc.St.out] using h,this.2.2⟩
def Nc.ahead (P:List Int) (s:Nc.St):Nc.St:=⟨P++s.pre,s.b,s.B⟩
theorem zH2 (P:List Int) (s:Nc.St):(Nc.ahead P s).out=P++s.out:=by simp[Nc.ahead,Nc.St.out]
theorem zLi (P:List Int) (s:Nc.St) (c:Int):Nc.put f j (Nc.ahead P s) c=Nc.ahead P (Nc.put f j s c):=by
 have e:Nc.hit f j (Nc.ahead P s) c=Nc.hit f j s c:=rfl;unfold Nc.put;rw[e];cases Nc.hit f j s c with
 | some p=>rfl
 | none =>
   show Nc.app f (Nc.ahead P s) c=Nc.ahead P (Nc.app f s c);unfold Nc.app
   by_cases h:f c=0
   · rw[Zl h,Zl h,zH2];rfl
   rw[Zj h,Zj h];simp[Nc.ahead]
theorem zH3 (P:List Int):∀(l:List Int) (s:Nc.St),Nc.run f j (Nc.ahead P s) l=Nc.ahead P (Nc.run f j s l)
 | [],s=>rfl
 | c::l,s=>by
   show Nc.run f j (Nc.put f j (Nc.ahead P s) c) l=_;rw[zLi,zH3 P l];rfl
theorem zI2 {s:Nc.St} {c:Int} (h:∀x,j x c=none):Nc.put f j s c=Nc.app f s c:=by
 unfold Nc.put;cases hh:Nc.hit f j s c with
 | none=>rfl
 | some p =>
   obtain⟨x,_,h2,_⟩:=zBC hh;rw[h x]at h2;cases h2
theorem zMy {c:Int} (hc:f c=0) (h:∀x,j x c=none) (l m:List Int):Nc.join f j (l++c::m)=Nc.join f j l++Nc.join f j (c::m):=by
 have e0:Nc.run f j Nc.s0 (c::m)=Nc.run f j ⟨[],some c,[]⟩ m:=by
  show Nc.run f j (Nc.put f j Nc.s0 c) m=_;rw[zI2 h];unfold Nc.app;rw[Zl hc];rfl
 unfold Nc.join;rw[Nc.run_app,e0];show (Nc.run f j (Nc.put f j (Nc.run f j Nc.s0 l) c) m).out=_;rw[zI2 h];unfold Nc.app;rw[Zl hc,←zH2,←zH3];simp[Nc.ahead]
theorem zMz (c:Int):Nc.join f j [c]=[c]:=by
 unfold Nc.join;show (Nc.put f j Nc.s0 c).out=_;have:Nc.hit f j Nc.s0 c=none:=by unfold Nc.hit;split <;> rfl
 unfold Nc.put;rw[this];show (Nc.app f Nc.s0 c).out=_;rw[zAl];rfl
structure Nc.Fit (f:Int→Int) (j:Int→Int→Option Int) (full:Int→List Int):Prop where
 nn:∀x,0≤f x
 cls:∀x c p,j x c=some p→f p=0
 full:∀x c p,full c=[c]→j x c=some p→full p=full x++[c]
variable {full:Int→List Int}
def Nc.fl (full:Int→List Int) (l:List Int):List Int:=l.flatMap full
theorem Nc.fl_app (l m:List Int):Nc.fl full (l++m)=Nc.fl full l++Nc.fl full m:=YG
theorem zMA {l:List Int} (h:∀c∈l,full c=[c]):Nc.fl full l=l:=by
 induction l with
 | nil=>rfl
 | cons c l ih =>
   show full c++Nc.fl full l=_;rw[h c Zq,ih fun x hx=>h x (Zv _ hx)];rfl
structure Nc.Ok (f:Int→Int) (full:Int→List Int) (s:Nc.St):Prop where
 bz:∀x,s.b=some x→f x=0
 pos:∀x∈s.B,0<f x
 plain:∀x∈s.B,full x=[x]
theorem zLj (H:Nc.Fit f j full) {s:Nc.St} (h:Nc.Ok f full s) {c:Int} (hc:full c=[c]):Nc.Ok f full (Nc.put f j s c):=by
 unfold Nc.put;cases hh:Nc.hit f j s c with
 | some p =>
   obtain⟨x,h1,h2,h3⟩:=zBC hh;exact⟨fun y hy=>(by cases hy;exact H.cls _ _ _ h2),h.pos,h.plain⟩
 | none =>
   unfold Nc.app;dsimp only;split
   · rename_i h0;exact⟨fun y hy=>(by cases hy;exact h0),fun x hx=>absurd hx Z6,fun x hx=>absurd hx Z6⟩
   rename_i h0;have:=H.nn c;refine⟨h.bz,fun x hx=>?_,fun x hx=>?_⟩
   · rcases List.mem_append.1 hx with h1|h1
     · exact h.pos x h1
     rw[Zp]at h1;subst h1;omega
   rcases List.mem_append.1 hx with h1|h1
   · exact h.plain x h1
   rw[Zp]at h1;subst h1;exact hc
theorem zQJ (H:Nc.Fit f j full) {s:Nc.St} (h:Nc.Ok f full s) {c:Int} (hc:full c=[c]):Or.Q f (Nc.fl full s.out++[c]) (Nc.fl full (Nc.put f j s c).out):=by
 unfold Nc.put;cases hh:Nc.hit f j s c with
 | some p =>
   obtain⟨x,h1,h2,h3⟩:=zBC hh;rw[zI0]at h3;have e1:s.out=s.pre++([x]++s.B):=by unfold Nc.St.out;rw[h1];rfl
   have e2:Nc.fl full [x]=full x:=by simp[Nc.fl]
   have e3:Nc.fl full [p]=full x++[c]:=by rw[show Nc.fl full [p]=full p by simp[Nc.fl],H.full x c p hc h2]
   have eB:Nc.fl full s.B=s.B:=zMA h.plain;show Or.Q f _ (Nc.fl full (s.pre++([p]++s.B)));rw[e1,Nc.fl_app,Nc.fl_app,Nc.fl_app,Nc.fl_app,e2,e3,eB]
   have hq:Or.Q f (s.B++[c]) ([c]++s.B):=by
    cases hB:s.B with
    | nil=>exact Or.Q.refl _ _
    | cons y B =>
      rw[←hB];have hy:y∈s.B:=by rw[hB];exact Zq
      have h4:=h3.2 y hy;have h5:=H.nn y;refine Or.Q.flip h.pos (fun z hz=>by rw[Zp]at hz;subst hz;omega) fun a ha b hb=>?_
      rw[Zp]at hb;subst hb;have:=h3.2 a ha;omega
   have:=(Or.Q.refl f (Nc.fl full s.pre++full x)).app hq;simpa using this
 | none =>
   show Or.Q f _ (Nc.fl full (Nc.app f s c).out);rw[zAl,Nc.fl_app,show Nc.fl full [c]=[c] by simp[Nc.fl,hc]];exact Or.Q.refl _ _
theorem zNZ (H:Nc.Fit f j full):∀(l:List Int) (s:Nc.St),Nc.Ok f full s→(∀c∈l,full c=[c])→Nc.Ok f full (Nc.run f j s l)∧Or.Q f (Nc.fl full s.out++l) (Nc.fl full (Nc.run f j s l).out)
 | [],s,h,_=>⟨h,by rw[Z3];exact Or.Q.refl _ _⟩
 | c::l,s,h,hl=>by
   have hc:=hl c Zq;obtain⟨h1,h2⟩:=zNZ H l (Nc.put f j s c) (zLj H h hc) fun x hx=>hl x (Zv _ hx)
   refine⟨h1,?_⟩;have h3:=(zQJ H h hc).app (Or.Q.refl f l);rw[Zz]at h3;exact h3.trans h2
theorem zO0:Nc.Ok f full Nc.s0:=⟨fun x h=>(by cases h),fun x h=>absurd h Z6,fun x h=>absurd h Z6⟩
theorem zPF (H:Nc.Fit f j full) {d:List Int} (hd:∀c∈d,full c=[c]):Or.Q f d (Nc.fl full (Nc.join f j d)):=(zNZ H d Nc.s0 zO0 hd).2
end
section
variable {f:Int→Int} {j:Int→Int→Option Int} {full:Int→List Int}
def Nc.g (f:Int→Int) (l:List Int):Int:=(l.getLast?.map f).getD 0
theorem zC4 (l:List Int) (c:Int):Nc.g f (l++[c])=f c:=by simp[Nc.g]
theorem zKd (l m:List Int) (h:m≠[]):Nc.g f (l++m)=Nc.g f m:=by
 unfold Nc.g;rw[Qp];cases hm:m.getLast? with
 | none=>exact absurd (List.getLast?_eq_none_iff.1 hm) h
 | some x=>rfl
theorem zI3:∀(l:List Int) (last c:Int),Or.inB f last (l++[c])=(Or.inB f last l&&!(decide (0<f c)&&decide (f c<if l=[] then last else Nc.g f l)))
 | [],last,c=>by
   show (if 0<f c∧f c<last then false else true)=(true&&_)
   by_cases h:0<f c∧f c<last
   · simp[h.1,h.2]
   rw[Zj h];simp;omega
 | y::l,last,c=>by
   have ih:=zI3 l (f y) c;rw[Zo];show (if 0<f y∧f y<last then false else Or.inB f (f y) (l++[c]))=((if 0<f y∧f y<last then false else Or.inB f (f y) l)&&_);split
   · rfl
   rw[ih];congr 4;rw[Zj (List.cons_ne_nil y l)]
   by_cases hl:l=[]
   · subst hl;rfl
   rw[Zj hl];rw[show Nc.g f (y::l)=Nc.g f l from zKd [y] l hl]
theorem zGx (l:List Int) (c:Int):Or.inB f 0 (l++[c])=true↔Or.inB f 0 l=true∧(0<f c→Nc.g f l≤f c):=by
 rw[zI3]
 have:(if l=[] then (0:Int) else Nc.g f l)=Nc.g f l:=by
  split
  · rename_i h;subst h;rfl
  rfl
 rw[this,Zs];simp;omega
structure Nc.Inv (f:Int→Int) (j:Int→Int→Option Int) (full:Int→List Int) (d:List Int) (s:Nc.St):Prop where
 ok:Nc.Ok f full s
 sorted:Or.inB f 0 s.out=true
 le:Nc.g f s.out≤Nc.g f d
 base:∀x,s.b=some x→Or.inB f 0 (full x)=true∧Nc.g f (full x)≤Nc.g f d∧Nc.run f j Nc.s0 (full x)=⟨[],some x,[]⟩
 done:∀x∈s.out,Or.inB f 0 (full x)=true∧Nc.join f j (full x)=[x]∧(x∈d∨(f x=0∧∃a M,full x=a::M∧f a=0))
 head:∀x,s.b=some x→∃a M,full x=a::M∧f a=0
theorem Nc.Inv.nil:Nc.Inv f j full [] Nc.s0 where
 ok:=zO0
 sorted:=rfl
 le:=YC _
 base:=fun x h=>by cases h
 done:=fun x h=>by simp[Nc.s0,Nc.St.out]at h
 head:=fun x h=>by cases h
theorem zOp:zBZ f [] = -1:=rfl
theorem zJl (c:Int) (h:0≤f c):Or.inB f 0 [c]=true:=by
 unfold Or.inB;rw[Zj (by omega)];rfl
theorem zJm (s:Nc.St) (x:Int) (hx:f x=0):Or.inB f 0 (s.pre++([x]++s.B))=(Or.inB f 0 s.pre&&Or.inB f 0 s.B):=by
 have:=zDz (f:=f) (c:=x) (by omega) s.B s.pre 0;rw[hx]at this;exact this
theorem Nc.Inv.step (H:Nc.Fit f j full) {d:List Int} {s:Nc.St} (h:Nc.Inv f j full d s) {c:Int} (hc:full c=[c]) (hd:0<f c→Nc.g f d≤f c):Nc.Inv f j full (d++[c]) (Nc.put f j s c):=by
 have aa:=zLj H h.ok hc;have ae:=H.nn c;have ak:0<f c→Nc.g f s.out≤f c:=fun h0=>by have:=hd h0;have:=h.le;omega
 cases hh:Nc.hit f j s c with
 | some p =>
   have e:Nc.put f j s c=⟨s.pre,some p,s.B⟩:=by unfold Nc.put;rw[hh]
   rw[e]at aa ⊢;obtain⟨x,h1,h2,h3⟩:=zBC hh;have hx:=h.ok.bz x h1;have hp:=H.cls _ _ _ h2;have hf:=H.full x c p hc h2;obtain⟨b1,b2,b3⟩:=h.base x h1;obtain⟨a,M,ag,aj⟩:=h.head x h1;have eo:s.out=s.pre++([x]++s.B):=by unfold Nc.St.out;rw[h1];rfl
   have ai:=h.sorted;rw[eo,zJm s x hx]at ai
   have af:Or.inB f 0 (full p)=true:=by
    rw[hf,zGx];exact⟨b1,fun h0=>by have:=hd h0;omega⟩
   have ah:Nc.run f j Nc.s0 (full p)=⟨[],some p,[]⟩:=by
    rw[hf,Nc.run_app,b3];show Nc.put f j ⟨[],some x,[]⟩ c=_;unfold Nc.put Nc.hit;rw[Zl (by rw[zOp];omega)];simp[h2]
   refine⟨aa,?_,?_,?_,?_,?_⟩
   · show Or.inB f 0 (s.pre++([p]++s.B))=true;rw[zJm s p hp];exact ai
   · show Nc.g f (s.pre++([p]++s.B))≤_;rw[zC4]
     by_cases hB:s.B=[]
     · rw[hB,Z3,zC4];omega
     rw[zKd _ _ (by simp),zKd _ _ hB];rw[zI0]at h3;unfold Nc.g;cases hl:s.B.getLast? with
     | none=>simp;omega
     | some y =>
       have:=h3.2 y (Qq hl);simp;omega
   · intro y hy;cases hy
     exact⟨af,by rw[hf,zC4,zC4];exact YC _,ah⟩
   · intro y hy;have hy':y∈s.pre++([p]++s.B):=hy;simp only[Xb,Zp]at hy';rcases hy' with h4|rfl|h4
     · obtain⟨k1,k2,k3⟩:=h.done y (by rw[eo];simp[h4]);exact⟨k1,k2,k3.imp (fun h=>YO _ h) id⟩
     · exact⟨af,by unfold Nc.join;rw[ah];rfl,.inr ⟨hp,a,M++[c],by rw[hf,ag];rfl,aj⟩⟩
     obtain⟨k1,k2,k3⟩:=h.done y (by rw[eo];simp[h4]);exact⟨k1,k2,k3.imp (fun h=>YO _ h) id⟩
   intro y hy;cases hy
   exact⟨a,M++[c],by rw[hf,ag];rfl,aj⟩
 | none =>
   have e:Nc.put f j s c=Nc.app f s c:=by unfold Nc.put;rw[hh]
   rw[e]at aa ⊢;refine⟨aa,?_,?_,?_,?_,?_⟩
   · rw[zAl,zGx];exact⟨h.sorted,ak⟩
   · rw[zAl,zC4,zC4];exact YC _
   · intro y hy;unfold Nc.app at hy
     by_cases h0:f c=0
     · rw[Zl h0]at hy;obtain rfl:c=y:=by simpa using hy
       refine⟨by rw[hc];exact zJl _ ae,by rw[hc,zC4,show Nc.g f [c]=f c from zC4 [] c];exact YC _,?_⟩;rw[hc];show Nc.put f j Nc.s0 c=_;unfold Nc.put;rw[show Nc.hit f j Nc.s0 c=none by unfold Nc.hit;split <;> rfl];unfold Nc.app;dsimp only;rw[Zl h0];rfl
     rw[Zj h0]at hy;obtain⟨k1,k2,k3⟩:=h.base y hy;refine⟨k1,?_,k3⟩;rw[zC4];have:=hd (by omega);omega
   · intro y hy;rw[zAl]at hy;rcases List.mem_append.1 hy with h4|h4
     · obtain⟨k1,k2,k3⟩:=h.done y h4;exact⟨k1,k2,k3.imp (fun h=>YO _ h) id⟩
     rw[Zp]at h4;subst h4;exact⟨by rw[hc];exact zJl _ ae,by rw[hc];exact zMz _,.inl (by simp)⟩
   intro y hy;unfold Nc.app at hy
   by_cases h0:f c=0
   · rw[Zl h0]at hy;obtain rfl:c=y:=by simpa using hy
     exact⟨c,[],hc,h0⟩
   rw[Zj h0]at hy;exact h.head y hy
theorem Nc.Inv.run (H:Nc.Fit f j full):∀(l d:List Int) (s:Nc.St),Nc.Inv f j full d s→(∀c∈l,full c=[c])→Or.inB f 0 (d++l)=true→Nc.Inv f j full (d++l) (Nc.run f j s l)
 | [],d,s,h,_,_=>by rw[Z3];exact h
 | c::l,d,s,h,hl,hi=>by
   have e:d++c::l=(d++[c])++l:=by simp
   rw[e]at hi ⊢;refine Nc.Inv.run H l (d++[c]) (Nc.put f j s c) (h.step H (hl c Zq) fun h0=>?_) (fun x hx=>hl x (Zv _ hx)) hi
   have:Or.inB f 0 (d++[c])=true:=by
    have:∀(m l:List Int) (t:Int),Or.inB f t (l++m)=true→Or.inB f t l=true:=by
     intro m l
     induction l with
     | nil=>intro t _;rfl
     | cons y l ih =>
       intro t ht;rw[Zo]at ht;unfold Or.inB at ht ⊢;split
       · rename_i hh;rw[Zl hh]at ht;exact ht
       rename_i hh;rw[Zj hh]at ht;exact ih _ ht
    exact this l _ 0 hi
   exact ((zGx d c).1 this).2 h0
end
section
open Go.RowKit
theorem Hg.in_any (c a n:Int) (w:World) (h1:0≤a) (h2:0≤n) (h3:a+n≤100000) :
 Calls prog 112 #[.int .i32 c,.int .i32 a,.int .i32 n] w fun e w'=>e=.returned (.bool (decide (a≤c∧c<a+n)))∧w=w':=by
 go_enter func112,ntmps112;go_wp2
 all_goals
  go_ret;exact⟨zB5 (by simp;try omega),rfl⟩
def zA2 (c:Int):Int :=
 if 4352≤c∧c<4371 then 1 else if 4449≤c∧c<4470 then 2 else if 4520≤c∧c<4547 then 3
 else if ¬(44032≤c∧c<55204) then 0 else if (c-44032)%28=0 then 4 else 5
theorem Hg.of_any (c:Int) (w:World) (h1 : -2147483648≤c) (h2:c≤2147483647) :
 Calls prog 77 #[.int .i32 c] w fun e w'=>e=.returned (.int .i64 (zA2 c))∧w=w':=by
 go_enter func77,ntmps77;go_wp2
 all_goals
  go_ret;refine⟨zBK ?_,rfl⟩
  try simp only[YU,Xq,Yr,JF,Zm,ZY]at *
  unfold zA2;grind
def zAg (c:Int):Int × Int × Bool :=
 if zA2 c=4 then (4352+(c-44032)/588,4449+(c-44032)%588/28,true)
 else if zA2 c=5 then (c-(c-44032)%28,4519+(c-44032)%28,true)
 else (0,0,false)
theorem zAt (c:Int) (h:zA2 c=4∨zA2 c=5):44032≤c∧c<55204:=by
 unfold zA2 at h;grind
theorem zBT (c:Int) (w:World) (h1 : -2147483648≤c) (h2:c≤2147483647) :
 Calls prog 110 #[.int .i32 c] w fun e w'=>e=.returned (.tuple #[.int .i32 (zAg c).1,.int .i32 (zAg c).2.1,.bool (zAg c).2.2])∧w=w':=by
 by_cases h4:zA2 c=4
 · have hs:=zAt c (.inl h4);obtain⟨af,ae⟩:=hs;have hb:=beq_iff_eq.2 h4;have H4:=hy' h4;clear h4;go_enter func110,ntmps110;go_wp2_with (go_at_call 77;refine (Hg.of_any _ _ h1 h2).mono ?_;rintro e w' ⟨rfl,rfl⟩);go_ret3;refine⟨zGs ?_,rfl⟩;unfold zAg;rw[Zl H4.o]
 by_cases h5:zA2 c=5
 · have hs:=zAt c (.inr h5);obtain⟨af,ae⟩:=hs;have hb:(zA2 c == 4)=false:=by rw[h5];rfl
   have aa:=beq_iff_eq.2 h5;have H5:=hy' h5;have H4:=hy' h4;clear h4 h5;go_enter func110,ntmps110;go_wp2_with (go_at_call 77;refine (Hg.of_any _ _ h1 h2).mono ?_;rintro e w' ⟨rfl,rfl⟩);go_ret3;refine⟨zGs ?_,rfl⟩;unfold zAg;rw[Zj H4.o,Zl H5.o]
 have hb:(zA2 c == 4)=false:=beq_eq_false_iff_ne.2 h4;have aa:(zA2 c == 5)=false:=beq_eq_false_iff_ne.2 h5;have H5:=hy' h5;have H4:=hy' h4;clear h4 h5;go_enter func110,ntmps110;go_wp2_with (go_at_call 77;refine (Hg.of_any _ _ h1 h2).mono ?_;rintro e w' ⟨rfl,rfl⟩);go_ret3;refine⟨zGs ?_,rfl⟩;unfold zAg;rw[Zj H4.o,Zj H5.o]
def zA6 (c:Int):List Int :=
 if zA2 c=4 then [4352+(c-44032)/588,4449+(c-44032)%588/28]
 else if zA2 c=5 then [4352+(c-44032)/588,4449+(c-44032)%588/28,4519+(c-44032)%28]
 else []
theorem zCU (c:Int) (h1:44032≤c) (h2:c<55204) (h:(c-44032)%28=0):zA2 c=4:=by
 unfold zA2;grind
theorem zAN (c:Int) (h:zA2 c=4):zAg c=(4352+(c-44032)/588,4449+(c-44032)%588/28,true):=by
 unfold zAg;rw[if_pos h]
theorem zAT (c:Int) (h:zA2 c=5):zAg c=(c-(c-44032)%28,4519+(c-44032)%28,true):=by
 unfold zAg;rw[if_neg (by rw[h];decide),if_pos h]
theorem zBI (c:Int) (h4:¬zA2 c=4) (h5:¬zA2 c=5):zAg c=(0,0,false):=by
 unfold zAg;rw[if_neg h4,if_neg h5]
theorem zLk (c:Int) (h1:44032≤c) (h2:c<55204):zAg (4352+(c-44032)/588)=(0,0,false):=by
 have a:4352≤4352+(c-44032)/588∧4352+(c-44032)/588<4371:=by omega
 refine zBI _ ?_ ?_ <;> unfold zA2 <;> rw[if_pos a] <;> decide
theorem zI4 (c:Int) (h1:44032≤c) (h2:c<55204):zAg (c-(c-44032)%28)=(4352+(c-44032)/588,4449+(c-44032)%588/28,true):=by
 rw[zAN _ (zCU _ (by omega) (by omega) (by omega))];refine QA ?_ (QA ?_ rfl) <;> simp only[] <;> omega
theorem Hg.split_any (c:Int) (w:World) (h1 : -2147483648≤c) (h2:c≤2147483647) :
 Calls prog 73 #[.int .i32 c] w (zCR .i32 (zA6 c) w):=by
 by_cases h4:zA2 c=4
 · have hs:=zAt c (.inl h4);obtain⟨ae,aa⟩:=hs;have hp:=zAN c h4;have hq:=zLk c ae aa;have H4:=hy' h4;clear h4;go_enter func73,ntmps73;go_wp2_with (fail);refine (zBT _ _ h1 h2).mono ?_;rintro e w' ⟨rfl,rfl⟩;rw[hp];clear hp;go_wp2_with (fail);refine (zBT _ _ (by omega) (by omega)).mono ?_;rintro e w' ⟨rfl,rfl⟩;rw[hq];clear hq;go_wp2;go_ret;unfold zA6;rw[Zl H4.o];exact⟨_,_,rfl,zCa rfl _ _ (ZV _ _),(Zc _ _).alloc (Za _) _⟩
 by_cases h5:zA2 c=5
 · have hs:=zAt c (.inr h5);obtain⟨ae,aa⟩:=hs;have hp:=zAT c h5;have hq:=zI4 c ae aa;have H5:=hy' h5;have H4:=hy' h4;clear h4 h5;go_enter func73,ntmps73;go_wp2_with (fail);refine (zBT _ _ h1 h2).mono ?_;rintro e w' ⟨rfl,rfl⟩;rw[hp];clear hp;go_wp2_with (fail);refine (zBT _ _ (by omega) (by omega)).mono ?_;rintro e w' ⟨rfl,rfl⟩;rw[hq];clear hq;go_wp2;go_ret;unfold zA6;rw[Zj H4.o,Zl H5.o];exact⟨_,_,rfl,zCa rfl _ _ (ZV _ _),(Zc _ _).alloc (Za _) _⟩
 have hp:=zBI c h4 h5;have H5:=hy' h5;have H4:=hy' h4;clear h4 h5;go_enter func73,ntmps73;go_wp2_with (fail);refine (zBT _ _ h1 h2).mono ?_;rintro e w' ⟨rfl,rfl⟩;rw[hp];clear hp;go_wp2;go_ret;unfold zA6;rw[Zj H4.o,Zj H5.o];exact⟨_,_,rfl,fun h=>absurd h (by simp),Zc _ _⟩
def Hg.joinK (a b:Int):Int × Bool :=
 if zA2 a=1∧zA2 b=2 then (44032+((a-4352)*21+b-4449)*28,true)
 else if zA2 a=4∧zA2 b=3 then (a+b-4519,true) else (0,false)
theorem zFB (c:Int) (h:zA2 c=1):4352≤c∧c<4371:=by unfold zA2 at h;grind
theorem zEt (c:Int) (h:zA2 c=2):4449≤c∧c<4470:=by unfold zA2 at h;grind
theorem zH4 (c:Int) (h:zA2 c=3):4520≤c∧c<4547:=by unfold zA2 at h;grind
theorem Hg.join_any (a b:Int) (w:World) (h1 : -2147483648≤a) (h2:a≤2147483647) (h3 : -2147483648≤b) (h4:b≤2147483647) :
 Calls prog 151 #[.int .i32 a,.int .i32 b] w fun e w'=>e=.returned (.tuple #[.int .i32 (Hg.joinK a b).1,.bool (Hg.joinK a b).2])∧w=w':=by
 by_cases ha:zA2 a=1
 · have af:=zFB a ha;obtain⟨ai,aj⟩:=af;have q1:(zA2 a == 1)=true:=beq_iff_eq.2 ha;have q4:(zA2 a == 4)=false:=by rw[ha];rfl
   by_cases hb:zA2 b=2
   · have ae:=zEt b hb;obtain⟨ah,ag⟩:=ae;have q2:(zA2 b == 2)=true:=beq_iff_eq.2 hb;have HA:=hy' ha;have HB:=hy' hb;clear ha hb;go_enter func151,ntmps151;go_wp2_with (go_at_call 77;refine (Hg.of_any _ _ (by omega) (by omega)).mono ?_;rintro e w' ⟨rfl,rfl⟩);go_ret2;refine⟨zDv ?_,rfl⟩;unfold Hg.joinK;rw[Zl ⟨HA.o,HB.o⟩]
   have q2:(zA2 b == 2)=false:=beq_eq_false_iff_ne.2 hb;have HA:=hy' ha;have HB:=hy' hb;clear ha hb;go_enter func151,ntmps151;go_wp2_with (go_at_call 77;refine (Hg.of_any _ _ (by omega) (by omega)).mono ?_;rintro e w' ⟨rfl,rfl⟩);go_ret2;refine⟨zDv ?_,rfl⟩;unfold Hg.joinK;rw[Zj (fun h=>HB.o h.2),Zj (fun h=>by have:=HA.o;omega)]
 have q1:(zA2 a == 1)=false:=beq_eq_false_iff_ne.2 ha
 by_cases ha4:zA2 a=4
 · have af:=zAt a (.inl ha4);obtain⟨ai,aj⟩:=af;have q4:(zA2 a == 4)=true:=beq_iff_eq.2 ha4
   by_cases hb:zA2 b=3
   · have ae:=zH4 b hb;obtain⟨ah,ag⟩:=ae;have q2:(zA2 b == 3)=true:=beq_iff_eq.2 hb;have HA:=hy' ha;have aa:=hy' ha4;have HB:=hy' hb;clear ha ha4 hb;go_enter func151,ntmps151;go_wp2_with (go_at_call 77;refine (Hg.of_any _ _ (by omega) (by omega)).mono ?_;rintro e w' ⟨rfl,rfl⟩);go_ret2;refine⟨zDv ?_,rfl⟩;unfold Hg.joinK;rw[Zj (fun h=>HA.o h.1),Zl ⟨aa.o,HB.o⟩]
   have q2:(zA2 b == 3)=false:=beq_eq_false_iff_ne.2 hb;have HA:=hy' ha;have aa:=hy' ha4;have HB:=hy' hb;clear ha ha4 hb;go_enter func151,ntmps151;go_wp2_with (go_at_call 77;refine (Hg.of_any _ _ (by omega) (by omega)).mono ?_;rintro e w' ⟨rfl,rfl⟩);go_ret2;refine⟨zDv ?_,rfl⟩;unfold Hg.joinK;rw[Zj (fun h=>HA.o h.1),Zj (fun h=>HB.o h.2)]
 have q4:(zA2 a == 4)=false:=beq_eq_false_iff_ne.2 ha4;have HA:=hy' ha;have aa:=hy' ha4;clear ha ha4;go_enter func151,ntmps151;go_wp2_with (go_at_call 77;refine (Hg.of_any _ _ (by omega) (by omega)).mono ?_;rintro e w' ⟨rfl,rfl⟩);go_ret2;refine⟨zDv ?_,rfl⟩;unfold Hg.joinK;rw[Zj (fun h=>HA.o h.1),Zj (fun h=>aa.o h.1)]
theorem zFC (c:Int) (w:World) (h1 : -2147483648≤c) (h2:c≤2147483647) :
 Calls prog 108 #[.int .i64 c] w fun e w'=>e=.returned (.int .i64 (zA2 c))∧w=w':=by
 go_enter func108,ntmps108;go_wp2
 all_goals
  go_ret;refine⟨zBK ?_,rfl⟩
  try simp only[YU,Xq,Yr,JF,Zm,ZY]at *
  unfold zA2;grind
theorem zH5 (
 c:Int) (w:World) (h1 : -2147483648≤c) (h2:c≤2147483647) :
 Calls prog 145 #[.int .i64 c] w (zCR .i64 (zA6 c) w):=by
 go_enter func145,ntmps145;go_wp2;go_loop [3,4] (fun n l=>∃k:Int,0≤k∧k≤19∧n=.int .i64 (44032+588*k)∧l=.int .i64 (4352+k)∧(k=0∨44032+588*k≤c)) (fun _ l=>(5000-intOf l).toNat)
 case atStart=>exact⟨0,by omega,by omega,rfl,rfl,.inl rfl⟩
 obtain⟨k,af,ae,rfl,rfl,hk⟩:=hrel
 by_cases hl:4352+k≤4370
 rotate_left
 · have HS:Hy (zA6 c=[]):=by
    show zA6 c=[];have:¬(44032≤c∧c<55204):=by omega
    unfold zA6;rw[Zj (fun h=>this (zAt c (.inl h))),Zj (fun h=>this (zAt c (.inr h)))]
   go_wp2;go_ret;rw[HS.o];exact⟨_,_,rfl,fun h=>absurd h (by simp),Zc _ _⟩
 by_cases hc:44032+588*k+588≤c
 · go_wp2;exact⟨⟨k+1,by omega,by omega,by go_num,by go_num,.inr (by omega)⟩,by simp[intOf];omega⟩
 go_wp2;go_loop [3,5] (fun n v=>∃j:Int,0≤j∧j≤21∧n=.int .i64 (44032+588*k+28*j)∧v=.int .i64 (4449+j)∧(j=0∨44032+588*k+28*j≤c)) (fun _ v=>(5000-intOf v).toNat)
 case atStart=>exact⟨0,by omega,by omega,by go_num,rfl,.inl rfl⟩
 obtain⟨j,hj0,aa,rfl,rfl,hj⟩:=hrel
 by_cases hv:4449+j≤4469
 rotate_left
 · omega
 by_cases hd:44032+588*k+28*j+28≤c
 · go_wp2;exact⟨⟨j+1,by omega,by omega,by go_num,by go_num,.inr (by omega)⟩,by simp[intOf];omega⟩
 by_cases he:c=44032+588*k+28*j
 · have hb:(c == 44032+588*k+28*j)=true:=beq_iff_eq.2 he;have H4:=zCU c (by omega) (by omega) (by omega)
   have HS:Hy (zA6 c=[4352+k,4449+j]):=by
    show zA6 c=[4352+k,4449+j];unfold zA6;rw[Zl H4,show (c-44032)/588=k from by omega,show (c-44032)%588/28=j from by omega]
   clear H4;have HE:=hy' he;clear he;go_wp2;go_ret;rw[HS.o];exact⟨_,_,rfl,zCa rfl _ _ (ZV _ _),(Zc _ _).alloc (Za _) _⟩
 have hb:(c == 44032+588*k+28*j)=false:=beq_eq_false_iff_ne.2 he
 by_cases hg:44032+588*k+28*j<c
 · have H5:zA2 c=5:=by unfold zA2;grind
   have HS:Hy (zA6 c=[4352+k,4449+j,4519+c-(44032+588*k+28*j)]):=by
    show zA6 c=[4352+k,4449+j,4519+c-(44032+588*k+28*j)];unfold zA6
    rw[Zj (by rw[H5];decide),Zl H5,show (c-44032)/588=k from by omega,show (c-44032)%588/28=j from by omega,
     show 4519+(c-44032)%28=4519+c-(44032+588*k+28*j) from by omega]
   clear H5;go_wp2;go_ret;rw[HS.o];exact⟨_,_,rfl,zCa rfl _ _ (ZV _ _),(Zc _ _).alloc (Za _) _⟩
 have HS:Hy (zA6 c=[]):=by
  show zA6 c=[];have:¬(44032≤c∧c<55204):=by omega
  unfold zA6;rw[Zj (fun h=>this (zAt c (.inl h))),Zj (fun h=>this (zAt c (.inr h)))]
 go_wp2;go_ret;rw[HS.o];exact⟨_,_,rfl,fun h=>absurd h (by simp),Zc _ _⟩
end
def Md.one (mp:Int→List Int) (c:Int):List Int:=if mp c=[] then [c] else mp c
def Md.step (mp:Int→List Int) (L:List Int):List Int:=L.flatMap (Md.one mp)
def Md.plain (mp:Int→List Int) (L:List Int):Bool:=L.all fun c=>(mp c).isEmpty
def zDW (mp:Int→List Int):Nat→List Int→Option (List Int)
 | 0,_=>none
 | k+1,L=>if Md.plain mp L=true then some L else if (Md.step mp L).length > 32 then none else zDW mp k (Md.step mp L)
def zEu (out:List Int) (c:Int):Option (List Int):=if out.length<32 then some (out++[c]) else none
def zBD (f:List Int→Int→Option (List Int)):List Int→List Int→Option (List Int)
 | out,[]=>some out
 | out,d::r=>(f out d).bind fun o=>zBD f o r
def zBO (mp:Int→List Int):Nat→List Int→Int→Option (List Int)
 | 0,out,c=>if mp c=[] then zEu out c else none
 | k+1,out,c=>if mp c=[] then zEu out c else zBD (zBO mp k) out (mp c)
def zAp (f:Int→Option (List Int)):List Int→Option (List Int)
 | []=>some []
 | d::r=>(f d).bind fun a=>(zAp f r).map (a ++ ·)
def Md.lv (mp:Int→List Int):Nat→Int→Option (List Int)
 | 0,c=>if mp c=[] then some [c] else none
 | k+1,c=>if mp c=[] then some [c] else zAp (Md.lv mp k) (mp c)
def Md.fit (out:List Int) (l:List Int):Option (List Int):=if out.length+l.length≤32 then some (out++l) else none
theorem zEZ {f:Int→Option (List Int)} (hf:∀c l,f c=some l→1≤l.length):∀(L l:List Int),zAp f L=some l→L.length≤l.length
 | [],l,_=>ZG _
 | d::r,l,h=>by
   unfold zAp at h;cases hd:f d with
   | none=>rw[hd]at h;cases h
   | some a =>
     rw[hd,Zy]at h;cases hr:zAp f r with
     | none=>rw[hr]at h;cases h
     | some b =>
       rw[hr,Zx]at h;cases h
       have h1:=hf d a hd;have h2:=zEZ hf r b hr;simp;omega
theorem zG5 (mp:Int→List Int):∀(k:Nat) (c:Int) (l:List Int),Md.lv mp k c=some l→1≤l.length
 | 0,c,l,h=>by
   unfold Md.lv at h;split at h
   · cases h;simp
   cases h
 | k+1,c,l,h=>by
   unfold Md.lv at h;split at h
   · cases h;simp
   rename_i hne;have:=zEZ (zG5 mp k) _ _ h
   have h2:1≤(mp c).length:=by
    cases hm:mp c with
    | nil=>exact absurd hm hne
    | cons a b=>simp
   omega
theorem zOq (mp:Int→List Int) {c:Int} (k:Nat) {l:List Int} (h:Md.lv mp k c=some l) (hc:mp c≠[]):(mp c).length≤l.length:=by
 cases k with
 | zero=>unfold Md.lv at h;rw[if_neg hc]at h;cases h
 | succ k=>unfold Md.lv at h;rw[if_neg hc]at h;exact zEZ (zG5 mp k) _ _ h
theorem zJn {f:List Int→Int→Option (List Int)} {g:Int→Option (List Int)} (hf:∀out c,out.length≤32→f out c=(g c).bind (Md.fit out)) :
 ∀(L out:List Int),out.length≤32→zBD f out L=(zAp g L).bind (Md.fit out)
 | [],out,ho=>by
   unfold zBD zAp Md.fit;simp[ho]
 | d::r,out,ho=>by
   unfold zBD zAp;rw[hf out d ho];cases hd:g d with
   | none=>rfl
   | some a =>
     rw[Zy,Zy]
     by_cases h1:out.length+a.length≤32
     · rw[show Md.fit out a=some (out++a) by unfold Md.fit;rw[if_pos h1],Option.bind_some,zJn hf r (out++a) (by simpa using h1)];cases hr:zAp g r with
       | none=>rfl
       | some b =>
         rw[Zy,Zx,Zy];unfold Md.fit;simp[Yi]
     rw[show Md.fit out a=none by unfold Md.fit;rw[if_neg h1],Option.bind_none];cases hr:zAp g r with
     | none=>rfl
     | some b =>
       rw[Zx,Zy];unfold Md.fit;rw[Zj (by simp;omega)]
theorem zI5 (out:List Int) (c:Int):zEu out c=Md.fit out [c]:=by
 unfold zEu Md.fit
 by_cases h:out.length<32
 · rw[Zl h,Zl (by simp;omega)]
 rw[Zj h,Zj (by simp;omega)]
theorem zBv (mp:Int→List Int):∀(k:Nat) (out:List Int) (c:Int),out.length≤32→zBO mp k out c=(Md.lv mp k c).bind (Md.fit out)
 | 0,out,c,ho=>by
   unfold zBO Md.lv
   by_cases h:mp c=[]
   · rw[Zl h,Zl h,zI5];rfl
   rw[Zj h,Zj h];rfl
 | k+1,out,c,ho=>by
   unfold zBO Md.lv
   by_cases h:mp c=[]
   · rw[Zl h,Zl h,zI5];rfl
   rw[Zj h,Zj h];exact zJn (fun o d hd=>zBv mp k o d hd) _ _ ho
theorem zJo (f:Int→Option (List Int)):∀(a b:List Int),zAp f (a++b)=(zAp f a).bind fun x=>(zAp f b).map (x ++ ·)
 | [],b=>by simp[zAp]
 | d::r,b=>by
   rw[Zo,zAp,zAp,zJo f r b];cases f d with
   | none=>rfl
   | some x =>
     cases zAp f r with
     | none=>rfl
     | some y =>
       cases zAp f b with
       | none=>rfl
       | some z=>simp
theorem zBo (mp:Int→List Int) (k:Nat) {c:Int} (h:mp c=[]):Md.lv mp k c=some [c]:=by
 cases k with
 | zero=>unfold Md.lv;rw[if_pos h]
 | succ k=>unfold Md.lv;rw[if_pos h]
theorem zPG (mp:Int→List Int) (k:Nat) (c:Int):Md.lv mp (k+1) c=zAp (Md.lv mp k) (Md.one mp c):=by
 unfold Md.one
 by_cases h:mp c=[]
 · rw[Zl h,zBo mp _ h,zAp,zBo mp _ h];rfl
 rw[Zj h,Md.lv,Zj h]
theorem zI6 (mp:Int→List Int) (k:Nat):∀(L:List Int),zAp (Md.lv mp (k+1)) L=zAp (Md.lv mp k) (Md.step mp L)
 | []=>rfl
 | d::r=>by
   have e:Md.step mp (d::r)=Md.one mp d++Md.step mp r:=by simp[Md.step]
   rw[e,zJo,zAp,zI6 mp k r,zPG]
theorem zEv (mp:Int→List Int) (k:Nat):∀(L:List Int),Md.plain mp L=true→zAp (Md.lv mp k) L=some L
 | [],_=>rfl
 | d::r,h=>by
   unfold Md.plain at h;rw[List.all_cons,Zs,List.isEmpty_iff]at h;rw[zAp,zBo mp k h.1,zEv mp k r (by unfold Md.plain;exact h.2)];rfl
theorem zI7 (mp:Int→List Int):∀(L:List Int),Md.plain mp L≠true→zAp (Md.lv mp 0) L=none
 | [],h=>absurd rfl h
 | d::r,h=>by
   rw[zAp]
   by_cases hd:mp d=[]
   · have:Md.plain mp r≠true:=fun hr=>h (by unfold Md.plain at hr ⊢;rw[List.all_cons,hr,hd];rfl)
     rw[zI7 mp r this];cases Md.lv mp 0 d <;> rfl
   rw[Md.lv,Zj hd];rfl
theorem zLl (mp:Int→List Int):∀(k:Nat) (L:List Int),L.length≤32→zDW mp (k+1) L=(zAp (Md.lv mp k) L).bind (Md.fit [])
 | 0,L,hL=>by
   rw[zDW]
   by_cases h:Md.plain mp L=true
   · rw[Zl h,zEv mp 0 L h,Zy];unfold Md.fit;simp[hL]
   rw[Zj h,zI7 mp L h];split <;> rfl
 | k+1,L,hL=>by
   rw[zDW]
   by_cases h:Md.plain mp L=true
   · rw[Zl h,zEv mp _ L h,Zy];unfold Md.fit;simp[hL]
   rw[Zj h,zI6]
   by_cases h2:(Md.step mp L).length > 32
   · rw[Zl h2];cases hl:zAp (Md.lv mp k) (Md.step mp L) with
     | none=>rfl
     | some l =>
       have:=zEZ (zG5 mp k) _ _ hl;rw[Zy];unfold Md.fit;rw[Zj (by simp;omega)]
   rw[Zj h2,zLl mp k _ (by omega)]
theorem zOr (mp:Int→List Int) (k:Nat) (c:Int):zDW mp (k+1) [c]=zBO mp k [] c:=by
 rw[zLl mp k [c] (by simp),zBv mp k [] c (by simp),zAp];cases Md.lv mp k c with
 | none=>rfl
 | some a=>simp[zAp]
theorem zI8 {mp:Int→List Int} {f:Int→Option (List Int)} (hf:∀c l,f c=some l→∀d∈l,mp d=[]):∀(L l:List Int),zAp f L=some l→∀d∈l,mp d=[]
 | [],l,h,d,hd=>by cases h;cases hd
 | e::r,l,h,d,hd=>by
   unfold zAp at h;cases he:f e with
   | none=>rw[he]at h;cases h
   | some a =>
     rw[he,Zy]at h;cases hr:zAp f r with
     | none=>rw[hr]at h;cases h
     | some b =>
       rw[hr,Zx]at h;cases h
       rcases List.mem_append.1 hd with h1|h1
       · exact hf e a he d h1
       exact zI8 hf r b hr d h1
theorem zJp (mp:Int→List Int):∀(k:Nat) (c:Int) (l:List Int),Md.lv mp k c=some l→∀d∈l,mp d=[]
 | 0,c,l,h,d,hd=>by
   unfold Md.lv at h;split at h
   · rename_i hc;cases h
     rw[Zp]at hd;rw[hd];exact hc
   cases h
 | k+1,c,l,h,d,hd=>by
   unfold Md.lv at h;split at h
   · rename_i hc;cases h
     rw[Zp]at hd;rw[hd];exact hc
   exact zI8 (zJp mp k) _ _ h d hd
theorem zMB {mp:Int→List Int} {k:Nat} {c:Int} {l:List Int} (h:zBO mp k [] c=some l):(∀d∈l,mp d=[])∧1≤l.length∧(mp c).length≤l.length∧l.length≤32:=by
 rw[zBv mp k [] c (by simp)]at h;cases hl:Md.lv mp k c with
 | none=>rw[hl]at h;cases h
 | some a =>
   rw[hl,Zy]at h;unfold Md.fit at h;split at h
   · rename_i hle;cases h
     rw[ZH];refine⟨zJp mp k c a hl,zG5 mp k c a hl,?_,by simpa using hle⟩
     by_cases hc:mp c=[]
     · rw[hc];exact ZG _
     exact zOq mp k hl hc
   cases h
theorem zEw {mp:Int→List Int} (k:Nat) {c:Int} (h:mp c=[]):zBO mp k [] c=some [c]:=by
 rw[zBv mp k [] c (by simp),zBo mp k h];rfl
end Go.Proofs.YthngjlllojiacaaGreatDoor
