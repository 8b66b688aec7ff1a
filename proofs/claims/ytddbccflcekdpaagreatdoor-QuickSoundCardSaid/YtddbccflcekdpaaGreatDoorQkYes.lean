/- That the quick answer Yes is right (plain; the parts of it that a packed base may have dropped). -/
import Derived.Test.YtddbccflcekdpaaGreatDoorQkPlain
namespace Go.Proofs.YtddbccflcekdpaaGreatDoor
set_option linter.unusedSimpArgs false
set_option linter.unusedVariables false
theorem Or.of_app9 {f:Int→Int} {l m:List Int}:Or.of f (Or.of f l++m)=Or.of f (l++m):=((zIo f l).symm.app (Or.Q.refl f m)).of
section
variable {f:Int→Int} {j:Int→Int→Option Int} {full:Int→List Int}
theorem Nc.revInd2 {Q:List Int→Prop} (h0:Q []) (h1:∀l z,Q l→Q (l++[z])) (l:List Int):Q l:=by
 have:∀m:List Int,Q m.reverse:=by
  intro m
  induction m with
  | nil=>exact h0
  | cons z m ih=>rw[List.reverse_cons];exact h1 _ _ ih
 have:=this l.reverse
 rwa [List.reverse_reverse]at this
theorem Nc.g_nil2:Nc.g f []=0:=rfl
theorem Nc.late2 {z:Int} (hz:0<f z):∀(U:List Int) (s:Nc.St),(∀u∈U,f z<f u)→(∀x∈s.B,0<f x)→Nc.g f (Nc.run f j s U).B≤f z →
 Nc.run f j ⟨s.pre,s.b,s.B++[z]⟩ U=⟨(Nc.run f j s U).pre,(Nc.run f j s U).b,(Nc.run f j s U).B++[z]⟩
 | [],s,_,_,_=>rfl
 | u::U,s,hU,hB,hg=>by
   have hu:=hU u List.mem_cons_self;have hU':∀u∈U,f z<f u:=fun x hx=>hU x (List.mem_cons_of_mem _ hx)
   have grow:∀(V:List Int) (t:Nc.St),(∀v∈V,f z<f v)→∃W,(Nc.run f j t V).B=t.B++W∧∀w∈W,f z<f w:=by
    intro V
    induction V with
    | nil=>intro t _;exact⟨[],by simp[Nc.run],fun w h=>absurd h List.not_mem_nil⟩
    | cons v V ih =>
      intro t hV;have hv:=hV v List.mem_cons_self;obtain⟨W,h1,h2⟩:=ih (Nc.put f j t v) fun x hx=>hV x (List.mem_cons_of_mem _ hx)
      show ∃W,(Nc.run f j (Nc.put f j t v) V).B=t.B++W∧_;rw[h1];cases hh:Nc.hit f j t v with
      | some p=>exact⟨W,by unfold Nc.put;rw[hh],h2⟩
      | none =>
        refine⟨v::W,?_,fun w hw=>by rcases List.mem_cons.1 hw with rfl|hw;exact hv;exact h2 w hw⟩;unfold Nc.put;rw[hh];show (Nc.app f t v).B++W=_;unfold Nc.app;rw[if_neg (by omega)];simp
   cases hh:Nc.hit f j s u with
   | none =>
     exfalso;obtain⟨W,h1,h2⟩:=grow U (Nc.put f j s u) hU'
     have e:(Nc.put f j s u).B=s.B++[u]:=by
      unfold Nc.put;rw[hh];show (Nc.app f s u).B=_;unfold Nc.app;rw[if_neg (by omega)]
     rw[e]at h1;have hg':Nc.g f (Nc.run f j (Nc.put f j s u) U).B≤f z:=hg;rw[h1]at hg'
     by_cases hW:W=[]
     · subst hW;rw[List.append_nil,zCc]at hg';omega
     rw[zKK _ _ hW]at hg';unfold Nc.g at hg';cases hl:W.getLast? with
     | none=>exact hW (List.getLast?_eq_none_iff.1 hl)
     | some y =>
       have:=h2 y (List.mem_of_getLast? hl);rw[hl]at hg';simp at hg';omega
   | some p =>
     obtain⟨x,h1,h2,h3⟩:=zBY hh;have e1:Nc.put f j s u=⟨s.pre,some p,s.B⟩:=by unfold Nc.put;rw[hh]
     have e2:Nc.put f j ⟨s.pre,s.b,s.B++[z]⟩ u=⟨s.pre,some p,s.B++[z]⟩:=by
      have:Nc.hit f j ⟨s.pre,s.b,s.B++[z]⟩ u=some p:=by
       unfold Nc.hit;rw[if_pos (by rw[zFN];omega),h1];exact h2
      unfold Nc.put;rw[this]
     show Nc.run f j (Nc.put f j ⟨s.pre,s.b,s.B++[z]⟩ u) U=_;rw[e2];have hg':Nc.g f (Nc.run f j (Nc.put f j s u) U).B≤f z:=hg;rw[e1]at hg';have:=Nc.late2 hz U ⟨s.pre,some p,s.B⟩ hU' hB hg';rw[this];show _=Nc.St.mk (Nc.run f j (Nc.put f j s u) U).pre (Nc.run f j (Nc.put f j s u) U).b ((Nc.run f j (Nc.put f j s u) U).B++[z]);rw[e1]
theorem Nc.insert2 (h0:∀x,0≤f x) {z:Int} (hz:0<f z):∀(n:Nat) (D:List Int),D.length≤n→Or.inB f 0 D=true→∃D1 U,D=D1++U∧(∀u∈U,f z<f u)∧Or.of f (D++[z])=D1++z::U:=by
 intro n D hn hi
 have:∀D:List Int,∃D1 U,D=D1++U∧(∀u∈U,f z<f u)∧Nc.g f D1≤f z:=by
  intro D;refine Nc.revInd2 (Q:=fun D=>∃D1 U,D=D1++U∧(∀u∈U,f z<f u)∧Nc.g f D1≤f z) ?_ ?_ D
  · exact⟨[],[],rfl,fun u h=>absurd h List.not_mem_nil,by rw[Nc.g_nil2];omega⟩
  intro D y ih
  by_cases hy:f z<f y
  · obtain⟨D1,U,rfl,h1,h2⟩:=ih;exact⟨D1,U++[y],by simp,fun u hu=>by rcases List.mem_append.1 hu with h|h;exact h1 u h;rw[List.mem_singleton]at h;subst h;exact hy,h2⟩
  exact⟨D++[y],[],by simp,fun u h=>absurd h List.not_mem_nil,by rw[zCc];omega⟩
 obtain⟨D1,U,rfl,h1,h2⟩:=this D;refine⟨D1,U,rfl,h1,?_⟩
 have hq:Or.Q f ((D1++U)++[z]) (D1++([z]++U)):=by
  rw[List.append_assoc];exact (Or.Q.refl f D1).app (Or.Q.flip (fun u hu=>by have:=h1 u hu;omega) (fun u hu=>by rw[List.mem_singleton]at hu;subst hu;exact hz) fun a ha b hb=>by rw[List.mem_singleton]at hb;subst hb;have:=h1 a ha;omega)
 rw[hq.of];refine (zIp h0 _).1 ?_
 have ins:∀(D1:List Int) (t:Int),(if D1=[] then t else Nc.g f D1)≤f z→Or.inB f t (D1++U)=true→Or.inB f t (D1++([z]++U))=true:=by
  intro D1
  induction D1 with
  | nil =>
    intro t ht hU;rw[if_pos rfl]at ht;rw[List.nil_append,List.singleton_append]at *;show (if 0<f z∧f z<t then false else Or.inB f (f z) U)=true;rw[if_neg (by omega)];cases U with
    | nil=>rfl
    | cons u U =>
      have hu:=h1 u List.mem_cons_self;unfold Or.inB at hU ⊢;split at hU
      · cases hU
      rw[if_neg (by omega)];exact hU
  | cons y D1 ih =>
    intro t ht hU;rw[List.cons_append]at *;unfold Or.inB at hU ⊢;split at hU
    · cases hU
    rename_i hh;rw[if_neg hh];refine ih (f y) ?_ hU;rw[if_neg (List.cons_ne_nil _ _)]at ht;split
    · rename_i h;subst h;exact ht
    rename_i h;have:Nc.g f (y::D1)=Nc.g f D1:=zKK [y] D1 h;omega
 refine ins D1 0 ?_ hi;split
 · omega
 exact h2
theorem Nc.yes2 (H:Nc.Fit f j full) (hp:∀c,∀x∈full c,full x=[x]) (hne:∀c,full c≠[]):∀(y:List Int),(∀c∈y,zCR f j full c)→Or.inB f 0 y=true→(∀c∈y,∀x,j x ((full c).headD 0)=none)→Nc.join f j (Or.of f (Nc.fl full y))=y:=by
 refine Nc.revInd2 ?_ ?_
 · intro _ _ _;rfl
 intro y z ih hs hi hn;obtain⟨hi1,hi2⟩:=(zGP y z).1 hi;have ihy:=ih (fun c hc=>hs c (List.mem_append_left _ hc)) hi1 fun c hc=>hn c (List.mem_append_left _ hc)
 have hz:=hs z (by simp);have hnz:=hn z (by simp);have efl:Nc.fl full (y++[z])=Nc.fl full y++full z:=by rw[Nc.fl_app];simp[Nc.fl]
 rw[efl];have hnn:=H.nn z
 by_cases h0:f z=0
 · obtain⟨a,M,ha,hfa⟩:∃a M,full z=a::M∧f a=0:=by
    rcases zIv H hp hz with h|⟨_,h⟩
    · exact⟨z,[],h,h0⟩
    exact h
   rw[ha]at hnz;have hna:∀x,j x a=none:=hnz;have ht:Nc.join f j (Or.of f (a::M))=[z]:=by rw[←ha];exact hz
   rw[ha,zLH (by omega:¬0<f a),zON (by omega:¬0<f a),zN1 hfa hna,ihy,←zON (by omega:¬0<f a),ht]
 have hzp:0<f z:=by omega
 have hpz:full z=[z]:=by
  rcases zIv H hp hz with h|⟨h,_⟩
  · exact h
  exact absurd h h0
 rw[hpz]at hnz ⊢;have hna:∀x,j x z=none:=hnz;rw[←Or.of_app9];obtain⟨D,hD⟩:∃D,Or.of f (Nc.fl full y)=D:=⟨_,rfl⟩;have hDi:Or.inB f 0 D=true:=hD▸zKJ H.nn _
 have hDp:∀c∈D,full c=[c]:=fun c hc=>by
  rw[←hD]at hc;have:=(zLG f _ c).1 hc;obtain⟨x,_,hx⟩:=List.mem_flatMap.1 this;exact hp x c hx
 rw[hD]at ihy ⊢;obtain⟨D1,U,rfl,hU,he⟩:=Nc.insert2 H.nn hzp _ D (Nat.le_refl _) hDi;rw[he];have hinv:=zIt H hDp hDi;have hok1:=(zOv H D1 zCa zOw fun c hc=>hDp c (List.mem_append_left _ hc)).1;have hr:Nc.run f j zCa (D1++U)=Nc.run f j (Nc.run f j zCa D1) U:=Nc.run_app _ _ _
 have hgB:Nc.g f (Nc.run f j (Nc.run f j zCa D1) U).B≤f z:=by
  rw[←hr];have hy:(Nc.run f j zCa (D1++U)).out=y:=ihy;have h2:=hi2 hzp;rw[←hy]at h2
  by_cases hB:(Nc.run f j zCa (D1++U)).B=[]
  · rw[hB,Nc.g_nil2];omega
  unfold Nc.St.out at h2;rw[←List.append_assoc,zKK _ _ hB]at h2;exact h2
 have hl:=Nc.late2 (j:=j) hzp U (Nc.run f j zCa D1) hU hok1.pos hgB;show (Nc.run f j zCa (D1++z::U)).out=_;rw[Nc.run_app];show (Nc.run f j (Nc.put f j (Nc.run f j zCa D1) z) U).out=_;rw[zIr hna];unfold Nc.app;rw[if_neg h0,hl,←hr];have hy:(Nc.run f j zCa (D1++U)).out=y:=ihy;rw[←hy];simp[Nc.St.out]
end
section
variable {T:List Rw.Row} {S:List Int}
theorem Qk.yes2 (ok:Ud.Ok T S) {l:List Int} (h:zMx T S l=2):Nc.chars T S l=l:=by
 unfold zMx at h;split at h
 rotate_left
 · omega
 rename_i hi;have hf:=zFr (T:=T) (S:=S) l 2 (by omega) (by omega);unfold Qk.fold at h;have h2:∀c∈l,Qk.one T S c=2:=fun c hc=>by have:=hf.2.2.1 c hc;have:=(zGA (T:=T) (S:=S) c).2;omega
 have h3:∀c∈l,Qk.set T S c=true∧Nc.sec T S (Sp.head T c)=false:=fun c hc=>by
  have:=h2 c hc;unfold Qk.one at this;split at this
  · rename_i hs;split at this
    · omega
    rename_i hn;exact⟨hs,by simpa using hn⟩
  omega
 exact Nc.yes2 (Nc.fit ok) (zMp ok) (zKr ok) l (fun c hc=>(zKu c).1 (h3 c hc).1) hi fun c hc x=>zNJ ok (h3 c hc).2 x
end
end Go.Proofs.YtddbccflcekdpaaGreatDoor
