import Derived.Test.YtddbccflcekdpaaGreatDoorAl0
set_option linter.unusedVariables false
set_option linter.unusedSimpArgs false
/- Cutting a list where it may be cut (plain). -/
namespace Go.Proofs.YtddbccflcekdpaaGreatDoor
def Sp.step (p:Int→Bool) (s:List (List Int) × List Int) (c:Int):List (List Int) × List Int :=
 if s.2≠[]∧p c=true then (s.1++[s.2],[c]) else (s.1,s.2++[c])
def Sp.run (p:Int→Bool) (s:List (List Int) × List Int) (l:List Int):List (List Int) × List Int:=l.foldl (Sp.step p) s
def Sp.fin (s:List (List Int) × List Int):List (List Int):=if s.2=[] then s.1 else s.1++[s.2]
def Sp.cut (p:Int→Bool) (l:List Int):List (List Int):=Sp.fin (Sp.run p ([],[]) l)
theorem Sp.run_app (p:Int→Bool) (s:List (List Int) × List Int) (l m:List Int):Sp.run p s (l++m)=Sp.run p (Sp.run p s l) m:=YL
theorem Sp.run_snoc (p:Int→Bool) {l:List Int} {k:Nat} {x:Int} (hx:l[k]?=some x):Sp.run p ([],[]) (l.take (k+1))=Sp.step p (Sp.run p ([],[]) (l.take k)) x:=by
 rw[ZB,hx,Qb,Sp.run_app];rfl
theorem Sp.step_flat (p:Int→Bool) (s:List (List Int) × List Int) (c:Int):(Sp.step p s c).1.flatten++(Sp.step p s c).2=s.1.flatten++s.2++[c]:=by
 unfold Sp.step;split <;> simp
theorem Sp.run_flat (p:Int→Bool):∀(l:List Int) (s:List (List Int) × List Int),(Sp.run p s l).1.flatten++(Sp.run p s l).2=s.1.flatten++s.2++l
 | [],s=>by simp[Sp.run]
 | c::l,s=>by
   show (Sp.run p (Sp.step p s c) l).1.flatten++(Sp.run p (Sp.step p s c) l).2=_;rw[Sp.run_flat p l,Sp.step_flat];simp
theorem Sp.step_ne (p:Int→Bool) (s:List (List Int) × List Int) (c:Int):(Sp.step p s c).2≠[]:=by
 unfold Sp.step;split <;> simp
theorem Sp.run_ne (p:Int→Bool):∀(l:List Int) (s:List (List Int) × List Int),s.2≠[]→(Sp.run p s l).2≠[]
 | [],_,h=>h
 | c::l,s,_=>Sp.run_ne p l (Sp.step p s c) (Sp.step_ne p s c)
theorem Sp.run_nil (p:Int→Bool) {l:List Int} (h:(Sp.run p ([],[]) l).2=[]):l=[]:=by
 cases l with
 | nil=>rfl
 | cons c l=>exact absurd h (Sp.run_ne p l _ (Sp.step_ne p _ c))
theorem Sp.fin_flat (s:List (List Int) × List Int):(Sp.fin s).flatten=s.1.flatten++s.2:=by
 unfold Sp.fin;split <;> simp_all
theorem Sp.cut_flat (p:Int→Bool) (l:List Int):(Sp.cut p l).flatten=l:=by
 unfold Sp.cut;rw[Sp.fin_flat,Sp.run_flat];simp
structure Sp.Inv (p:Int→Bool) (s:List (List Int) × List Int):Prop where
 ne:∀u∈s.1,u≠[]
 hd:∀i u,0<i→(s.1++[s.2])[i]?=some u→∃c t,u=c::t∧p c=true
 tl:∀u∈s.1++[s.2],∀c∈u.tail,p c=false
theorem Sp.Inv.step {p:Int→Bool} {s:List (List Int) × List Int} (h:Sp.Inv p s) (c:Int):Sp.Inv p (Sp.step p s c):=by
 unfold Sp.step;split
 · rename_i hc;refine⟨?_,?_,?_⟩
   · intro u hu;rcases List.mem_append.1 hu with h1|h1
     · exact h.ne u h1
     rw[Zw]at h1;rw[h1];exact hc.1
   · intro i u hi hu
     by_cases hl:i<(s.1++[s.2]).length
     · rw[ZT hl]at hu;exact h.hd i u hi hu
     rw[ZJ (Kh hl)]at hu;simp only[]at hu;cases hk:i-(s.1++[s.2]).length with
     | zero=>rw[hk]at hu;simp at hu;exact⟨c,[],hu.symm,hc.2⟩
     | succ n=>rw[hk]at hu;simp at hu
   intro u hu;rcases List.mem_append.1 hu with h1|h1
   · exact h.tl u h1
   rw[Zw]at h1;rw[h1];intro x hx;simp at hx
 rename_i hc;refine⟨h.ne,?_,?_⟩
 · intro i u hi hu
   by_cases hl:i<s.1.length
   · rw[ZT hl]at hu;exact h.hd i u hi (by rw[ZT hl];exact hu)
   rw[ZJ (Kh hl)]at hu;simp only[]at hu;cases hk:i-s.1.length with
   | succ n=>rw[hk]at hu;simp at hu
   | zero =>
     rw[hk]at hu;simp at hu;obtain⟨d,t,hd,hp⟩:=h.hd i s.2 hi (by rw[ZJ (by omega),hk];rfl);exact⟨d,t++[c],by rw[←hu,hd];rfl,hp⟩
 intro u hu;rcases List.mem_append.1 hu with h1|h1
 · exact h.tl u (Y4 _ h1)
 rw[Zw]at h1;subst h1;intro x hx;cases h2:s.2 with
 | nil=>rw[h2]at hx;simp at hx
 | cons d t =>
   rw[h2]at hx;rw[Zx,List.tail_cons]at hx;rcases List.mem_append.1 hx with h3|h3
   · exact h.tl s.2 (XJ _ (List.mem_singleton.2 rfl)) x (by rw[h2];exact h3)
   rw[Zw]at h3;subst h3;cases hp:p x with
   | false=>rfl
   | true=>exact absurd ⟨by rw[h2];simp,hp⟩ hc
theorem Sp.Inv.run {p:Int→Bool}:∀(l:List Int) {s:List (List Int) × List Int},Sp.Inv p s→Sp.Inv p (Sp.run p s l)
 | [],_,h=>h
 | c::l,_,h=>Sp.Inv.run l (h.step c)
theorem Sp.inv (p:Int→Bool) (l:List Int):Sp.Inv p (Sp.run p ([],[]) l):=Sp.Inv.run l ⟨fun u hu=>by simp at hu,fun i u hi hu=>by cases i with|zero=>omega|succ i=>simp at hu,fun u hu c hc=>by simp at hu;rw[hu]at hc;simp at hc⟩
theorem Sp.cut_ne (p:Int→Bool) (l:List Int):∀u∈Sp.cut p l,u≠[]:=by
 intro u hu;unfold Sp.cut Sp.fin at hu;split at hu
 · exact (Sp.inv p l).ne u hu
 rename_i h;rcases List.mem_append.1 hu with h1|h1
 · exact (Sp.inv p l).ne u h1
 rw[Zw]at h1;rw[h1];exact h
theorem Sp.cut_hd (p:Int→Bool) (l:List Int) (i:Nat) (u:List Int) (hi:0<i) (hu:(Sp.cut p l)[i]?=some u):∃c t,u=c::t∧p c=true:=by
 unfold Sp.cut Sp.fin at hu;split at hu
 · rename_i h;have:=Sp.run_nil p h;subst this;simp[Sp.run]at hu
 exact (Sp.inv p l).hd i u hi hu
theorem Sp.cut_tl (p:Int→Bool) (l:List Int):∀u∈Sp.cut p l,∀c∈u.tail,p c=false:=by
 intro u hu;unfold Sp.cut Sp.fin at hu;split at hu
 · exact (Sp.inv p l).tl u (Y4 _ hu)
 exact (Sp.inv p l).tl u hu
theorem Sp.run_out (p:Int→Bool) (O:List (List Int)):∀(l:List Int) (s:List (List Int) × List Int),Sp.run p (O++s.1,s.2) l=(O++(Sp.run p s l).1,(Sp.run p s l).2)
 | [],s=>rfl
 | c::l,s=>by
   show Sp.run p (Sp.step p (O++s.1,s.2) c) l=(O++(Sp.run p (Sp.step p s c) l).1,(Sp.run p (Sp.step p s c) l).2);rw[←Sp.run_out p O l];congr 1;unfold Sp.step;split <;> simp
theorem Sp.cut_app {p:Int→Bool} {c:Int} (hc:p c=true) (a b:List Int):Sp.cut p (a++c::b)=Sp.cut p a++Sp.cut p (c::b):=by
 cases a with
 | nil=>rfl
 | cons d a =>
   have hn:(Sp.run p ([],[]) (d::a)).2≠[]:=Sp.run_ne p a _ (Sp.step_ne p _ d);unfold Sp.cut;rw[Sp.run_app];obtain⟨⟨o,u⟩,hr⟩:∃r,Sp.run p ([],[]) (d::a)=r:=⟨_,rfl⟩;rw[hr]at hn ⊢
   have h1:Sp.run p (o,u) (c::b)=Sp.run p ((o++[u])++[],[c]) b:=by
    show Sp.run p (Sp.step p (o,u) c) b=_;unfold Sp.step;rw[Zo ⟨hn,hc⟩,Z4]
   have h2:Sp.run p ([],[]) (c::b)=Sp.run p ([],[c]) b:=by
    show Sp.run p (Sp.step p ([],[]) c) b=_;unfold Sp.step;rw[Zl (fun h=>h.1 rfl)];rfl
   rw[h1,h2,Sp.run_out p (o++[u]) b ([],[c])];unfold Sp.fin;rw[Zl hn];split <;> simp
theorem Sp.cut_nil (p:Int→Bool):Sp.cut p []=[]:=rfl
theorem Sp.cut_len (p:Int→Bool) (a:List Int) (c:Int):(Sp.cut p (a++[c])).length=(Sp.cut p a).length+if a=[]∨p c=true then 1 else 0:=by
 by_cases hc:p c=true
 · rw[Sp.cut_app hc,Zd,Zo (.inr hc)];simp[Sp.cut,Sp.run,Sp.step,Sp.fin]
 cases a with
 | nil=>rw[Zo (.inl rfl)];simp[Sp.cut,Sp.run,Sp.step,Sp.fin]
 | cons d a =>
   have hn:(Sp.run p ([],[]) (d::a)).2≠[]:=Sp.run_ne p a _ (Sp.step_ne p _ d);rw[Zl (by simp[hc])];unfold Sp.cut;rw[Sp.run_app];show (Sp.fin (Sp.step p _ c)).length=_;unfold Sp.step;rw[Zl (fun h=>hc h.2)];unfold Sp.fin;rw[Zl hn,Zl (by simp)];simp
theorem Sp.cut_map {p:Int→Bool} (F:List Int→List Int) (h0:F []=[]) (hF:∀a c b,p c=true→F (a++c::b)=F a++F (c::b)) (l:List Int):F l=(Sp.cut p l).flatMap F:=by
 have h:∀L:List (List Int),(∀i u,0<i→L[i]?=some u→∃c t,u=c::t∧p c=true)→F L.flatten=L.flatMap F:=by
  intro L
  induction L with
  | nil=>intro _;simpa using h0
  | cons u L ih =>
    intro hL;have h1:=ih fun i v hi hv=>hL (i+1) v (by omega) (by simpa using hv)
    rw[Y7,Y8,←h1];cases L with
    | nil=>simp[h0]
    | cons v L =>
      obtain⟨c,t,rfl,hp⟩:=hL 1 v (by omega) rfl;rw[Y7,Zx];exact hF u c _ hp
 conv=>lhs;rw[←Sp.cut_flat p l]
 exact h _ (Sp.cut_hd p l)
end Go.Proofs.YtddbccflcekdpaaGreatDoor
