/- Groups of characters, each a row of its own (for split.Units). -/
import Derived.Test.YtjakbblocbicjaaGreatDoorSpCut
import Derived.Test.YtjakbblocbicjaaGreatDoorMdExp
import Derived.Test.YtjakbblocbicjaaGreatDoorSsSymB
namespace Go.Proofs.YtjakbblocbicjaaGreatDoor
open Go.RowKit
set_option linter.unusedSimpArgs false
set_option linter.unusedVariables false
theorem Sp.cut_new {p:Int→Bool} {a:List Int} {c:Int} (h:a=[]∨p c=true):Sp.cut p (a++[c])=Sp.cut p a++[[c]]:=by
 rcases h with rfl|h
 · simp[Sp.cut,Sp.run,Sp.step,Sp.fin]
 rw[Sp.cut_app h];simp[Sp.cut,Sp.run,Sp.step,Sp.fin]
theorem Sp.cut_old {p:Int→Bool} {a:List Int} {c:Int} (h0:a≠[]) (h:p c=false):∃L u,Sp.cut p a=L++[u]∧Sp.cut p (a++[c])=L++[u++[c]]:=by
 have hn:(Sp.run p ([],[]) a).2≠[]:=fun e=>h0 (Sp.run_nil p e)
 refine⟨(Sp.run p ([],[]) a).1,(Sp.run p ([],[]) a).2,?_,?_⟩
 · unfold Sp.cut Sp.fin;rw[if_neg hn]
 unfold Sp.cut;rw[Sp.run_app];show Sp.fin (Sp.step p _ c)=_;unfold Sp.step;rw[if_neg (fun e=>by rw[h]at e;exact absurd e.2 (by simp))];unfold Sp.fin;rw[if_neg (by simp)]
theorem Sp.cut_le (p:Int→Bool) (l:List Int):(Sp.cut p l).length≤l.length:=by
 have h1:=Sp.cut_flat p l;have h2:=Sp.cut_ne p l
 have:∀L:List (List Int),(∀u∈L,u≠[])→L.length≤L.flatten.length:=by
  intro L
  induction L with
  | nil=>intro _;simp
  | cons u L ih =>
    intro hL;have h3:=ih fun v hv=>hL v (List.mem_cons_of_mem _ hv)
    have h4:=List.length_pos_iff.2 (hL u List.mem_cons_self);rw[List.flatten_cons,List.length_append,List.length_cons];omega
 have:=this _ h2;rw[h1]at this;exact this
def Sp.FU (base:Nat) (w:World) (v:Value) (L:List (List Int)):Prop :=
 ∃(f:Nat→Option Fam.Row) (vals:List Value),Fam w base f∧vals.length=L.length∧f 0=some ⟨35,1,v,L.length,vals⟩∧∀(j:Nat) u,L[j]?=some u→∃A c,vals[j]?=some (.slice A u.length c)∧f (j+1)=some ⟨21,1,.slice A u.length c,u.length,Ud.ints u⟩
theorem Sp.FU.below {base:Nat} {w w':World} {v:Value} {L:List (List Int)} (h:Sp.FU base w v L) (hb:Below w.heap.size w w'):Sp.FU base w' v L:=by
 obtain⟨f,vals,h1,h2,h3,h4⟩:=h;exact⟨f,vals,h1.below hb,h2,h3,h4⟩
theorem Sp.FU.nil (base:Nat) (w:World):Sp.FU base w (.slice none 0 0) [] :=
 ⟨_,[],Fam.new (Fam.mk' w base) (Below.refl _ _) 0 (q:=⟨35,1,.slice none 0 0,0,[]⟩) (World.ownsRow_nil _ _ _ _) (fun g hg=>by simp[Value.ownBlock]at hg),rfl,zA5 _ _ _,fun j u h=>by simp at h⟩
def Sp.RetUnits (L:List (List Int)) (w:World) (e:Ending) (w':World):Prop :=
 ∃A c,e=.returned (.slice A L.length c)∧Sp.FU w.heap.size w' (.slice A L.length c) L∧Below w.heap.size w w'
theorem Fam.wpList_push1 {P:Program} {ι:Type} [DecidableEq ι] {ops:Array Oper} {rest:List Oper} {o:Oper} {a:Act} {Q:Exit→Act→World→Prop} (w:World) (hgd:o.guard=none) (s x:Operand) (t:TypeId)
 (ho:o.op=.call { callee:=.builtin .append,args := #[s,x],argTypes := #[t,t] })
 {base:Nat} {f:ι→Option Fam.Row} (hF:Fam w base f) (j:ι) (e:TypeId) (v:Value) (n:Nat) (xs:List Value) (hj:f j=some ⟨e,1,v,n,xs⟩)
 (i:TypeInfo) (z:Value) (bytes:Nat) (ht:P.underlying t=some (.slice e)) (hi:P.info? e=some i) (hz:i.zero=some z)
 (hsize:i.size=1) (hby:i.bytes=bytes) (hzs:z.cells.size=1) (hs:a.eval s=v)
 (u:Value) (h1:u.oneCell'=true) (hx:a.eval x=.slice (some ⟨w.heap.size,0,none⟩) 1 1)
 (h63:n+1≤maxLen) (hbytes:(n+1)*bytes≤140737488355328) (hbase:base≤w.heap.size)
 (h:∀v' w',Fam w' base (Fam.set f j ⟨e,1,v',n+1,xs++[u]⟩)→Below base w w'→wpList P ops Q rest (a.put o.dst v') w') :
 wpList P ops Q (o::rest) a (w.alloc (.cells #[u] e)):=by
 have hb:Below w.heap.size w (w.alloc (.cells #[u] e)):=(Below.refl _ _).alloc (Nat.le_refl _) _;refine zDH (w.alloc (.cells #[u] e)) hgd s x t ho (hF.below hb) j ⟨e,1,v,n,xs⟩ hj i z bytes ht hi hz hsize hby hzs Nat.one_pos hs (w.alloc (.cells #[u] e)).heap.size (some ⟨w.heap.size,0,none⟩) 1 1 [u] hx rfl ?_ ?_ h63 hbytes (Nat.le_trans hbase hb.size) ?_
 · exact Sl.lit rfl _ _ (heap_alloc_new w _)
 · intro q hq;rw[List.mem_singleton]at hq;rw[hq];exact h1
 intro v' w' h2 h3 _;exact h v' w' h2 ((hb.mono hbase).trans h3)
theorem infoRunes:(Tryz.prog.info? 35).map (fun i=>(i.zero,i.size,i.bytes))=some (some (.slice none 0 0),1,24):=by kernel_rfl
theorem Sp.FU.store {base:Nat} {w:World} {g n c:Nat} {f:Nat→Option Fam.Row} {vals:List Value} {L:List (List Int)} {u:List Int} {x:Int} {A:Option Addr} {c2:Nat} (hn:n=L.length+1)
 (hF:Fam w base (Fam.set f (L.length+1) ⟨21,1,.slice A (u.length+1) c2,u.length+1,Ud.ints u++[.int .i32 x]⟩)) (h0:f 0=some ⟨35,1,.slice (some ⟨g,0,none⟩) n c,n,vals⟩) (hv:vals.length=n)
 (hj:∀(j:Nat) q,(L++[u])[j]?=some q→∃A c,vals[j]?=some (.slice A q.length c)∧f (j+1)=some ⟨21,1,.slice A q.length c,q.length,Ud.ints q⟩) :
 Sp.FU base (w.setCell ⟨g,L.length,none⟩ (.slice A (u.length+1) c2)) (.slice (some ⟨g,0,none⟩) n c) (L++[u++[x]]):=by
 subst hn
 have h00:Fam.set f (L.length+1) ⟨21,1,.slice A (u.length+1) c2,u.length+1,Ud.ints u++[.int .i32 x]⟩ 0=some ⟨35,1,.slice (some ⟨g,0,none⟩) (L.length+1) c,L.length+1,vals⟩:=by
  rw[zA1 _ _ (by omega)];exact h0
 have hs:=zNs (hF.own 0 _ h00) (j:=L.length) (by show L.length<vals.length;omega) (.slice A (u.length+1) c2);have hG:=hF.grow h00 (Rw.grown_set g L.length (.slice A (u.length+1) c2)) (q:=⟨35,1,.slice (some ⟨g,0,none⟩) (L.length+1) c,L.length+1,vals.set L.length (.slice A (u.length+1) c2)⟩) hs (.inl rfl);refine⟨_,vals.set L.length (.slice A (u.length+1) c2),hG,by rw[List.length_set,hv];simp,by rw[zA5];simp,fun j q hq=>?_⟩
 by_cases hl:j<L.length
 · rw[List.getElem?_append_left hl]at hq;obtain⟨A',c',h1,h2⟩:=hj j q (by rw[List.getElem?_append_left hl];exact hq);refine⟨A',c',by rw[List.getElem?_set_ne (by omega)];exact h1,?_⟩;rw[zA1 _ _ (by omega),zA1 _ _ (by omega)];exact h2
 rw[List.getElem?_append_right (by omega)]at hq;cases hk:j-L.length with
 | succ m=>rw[hk]at hq;simp at hq
 | zero =>
   rw[hk]at hq;simp only[List.getElem?_cons_zero,Option.some.injEq]at hq;subst hq;obtain rfl:j=L.length:=by omega
   refine⟨A,c2,?_,?_⟩
   · rw[List.getElem?_set_self (by omega),List.length_append,List.length_singleton]
   rw[zA1 _ _ (by omega),zA5,List.length_append,List.length_singleton];unfold Ud.ints;rw[List.map_append];rfl
theorem Sp.FU.open {base:Nat} {w:World} {v':Value} {L:List (List Int)} {f:Nat→Option Fam.Row} {vals:List Value} (hF:Fam w base (Fam.set f 0 ⟨35,1,v',L.length+1,vals++[.slice none 0 0]⟩)) (hv:vals.length=L.length)
 (hj:∀(j:Nat) q,L[j]?=some q→∃A c,vals[j]?=some (.slice A q.length c)∧f (j+1)=some ⟨21,1,.slice A q.length c,q.length,Ud.ints q⟩):Sp.FU base w v' (L++[[]]):=by
 have hN:=hF.new (Below.refl _ _) (L.length+1) (q:=⟨21,1,.slice none 0 0,0,[]⟩) (World.ownsRow_nil _ _ _ _) (fun g hg=>by simp[Value.ownBlock]at hg);refine⟨_,vals++[.slice none 0 0],hN,by rw[List.length_append,List.length_append,hv];rfl,by rw[zA1 _ _ (by omega),zA5];simp,fun j q hq=>?_⟩
 by_cases hl:j<L.length
 · rw[List.getElem?_append_left hl]at hq;obtain⟨A',c',h1,h2⟩:=hj j q hq;refine⟨A',c',by rw[List.getElem?_append_left (by omega)];exact h1,?_⟩;rw[zA1 _ _ (by omega),zA1 _ _ (by omega)];exact h2
 rw[List.getElem?_append_right (by omega)]at hq;cases hk:j-L.length with
 | succ m=>rw[hk]at hq;simp at hq
 | zero =>
   rw[hk]at hq;simp only[List.getElem?_cons_zero,Option.some.injEq]at hq;subst hq;obtain rfl:j=L.length:=by omega
   refine⟨none,0,?_,?_⟩
   · rw[List.getElem?_append_right (by omega),hv,Nat.sub_self];rfl
   rw[zA5];rfl
theorem Sp.own_frozen {w:World} {base:Nat} {e:TypeId} {size n c g:Nat} {xs:List Value} (h:w.ownsRow base e size (.slice (some ⟨g,0,none⟩) n c) n xs) (i:Nat):w.frozen? ⟨g,i,none⟩=false:=by
 rcases h.2 with ⟨hv,_⟩|⟨k,cap,cur,hv,_,hk,_⟩
 · cases hv
 simp only[Value.slice.injEq,Option.some.injEq,Addr.mk.injEq,and_true,true_and]at hv;obtain⟨rfl,_⟩:=hv;simp[World.frozen?,hk]
theorem Sp.FU.after {base:Nat} {w:World} {g c m un:Nat} {f:Nat→Option Fam.Row} {vals:List Value} {v u:Value} {xs:List Value} (hF:Fam w base (Fam.set f (m+1) ⟨21,1,v,un,xs⟩)) (h0:f 0=some ⟨35,1,.slice (some ⟨g,0,none⟩) (m+1) c,m+1,vals⟩) (hu:vals[m]?=some u) :
 ∃A c',v=.slice A un c'∧w.cell? ⟨g,m,none⟩=some u∧w.frozen? ⟨g,m,none⟩=false∧g<w.heap.size:=by
 have o7:w.ownsRow base 21 1 v un xs:=hF.own (m+1) _ (zA5 _ _ _);obtain⟨A6,c6,rfl⟩:=zA3 o7;have o6:w.ownsRow base 35 1 (.slice (some ⟨g,0,none⟩) (m+1) c) (m+1) vals:=hF.own 0 _ ((zA1 _ _ (by omega)).trans h0);exact⟨A6,c6,rfl,zBa o6 hu,Sp.own_frozen o6 m,(zB6 o6 (g:=g) rfl).2⟩
end Go.Proofs.YtjakbblocbicjaaGreatDoor
