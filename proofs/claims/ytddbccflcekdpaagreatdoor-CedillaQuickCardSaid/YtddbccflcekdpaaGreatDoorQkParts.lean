/- The quick answer of a text by its parts (plain). -/
import Derived.Test.YtddbccflcekdpaaGreatDoorQkPlain
import Derived.Test.YtddbccflcekdpaaGreatDoorSpCut
namespace Go.Proofs.YtddbccflcekdpaaGreatDoor
set_option linter.unusedSimpArgs false
set_option linter.unusedVariables false
theorem Qk.fold_min {α:Type} (g:α→Int) (hg:∀c,g c≤2):∀(l:List α) (a:Int),a≤2→l.foldl (fun a c=>min a (g c)) a=min a (l.foldl (fun a c=>min a (g c)) 2)
 | [],a,h=>by show a=min a 2;omega
 | c::l,a,h=>by
   have h1:=hg c;have e1:=Qk.fold_min g hg l (min a (g c)) (by omega);have e2:=Qk.fold_min g hg l (min 2 (g c)) (by omega);show l.foldl (fun a c=>min a (g c)) (min a (g c))=min a (l.foldl (fun a c=>min a (g c)) (min 2 (g c)));rw[e1,e2];generalize l.foldl (fun a c=>min a (g c)) 2=q;omega
theorem Sp.cut_min {p:Int→Bool} (F:List Int→Int) (h0:F []=2) (h2:∀l,F l≤2) (hF:∀a c b,p c=true→F (a++c::b)=min (F a) (F (c::b))) (l:List Int):F l=(Sp.cut p l).foldl (fun a u=>min a (F u)) 2:=by
 have h:∀L:List (List Int),(∀i u,0<i→L[i]?=some u→∃c t,u=c::t∧p c=true)→F L.flatten=L.foldl (fun a u=>min a (F u)) 2:=by
  intro L
  induction L with
  | nil=>intro _;simpa using h0
  | cons u L ih =>
    intro hL;have h1:=ih fun i v hi hv=>hL (i+1) v (by omega) (by simpa using hv)
    rw[List.flatten_cons,List.foldl_cons,Qk.fold_min F h2 L (min 2 (F u)) (by omega),←h1];have hu:=h2 u;cases L with
    | nil =>
      rw[List.flatten_nil,List.append_nil,h0];omega
    | cons v L =>
      obtain⟨c,t,rfl,hp⟩:=hL 1 v (by omega) rfl;rw[List.flatten_cons,List.cons_append,hF u c _ hp];generalize F (c::(t++L.flatten))=q;omega
 conv=>lhs;rw[←Sp.cut_flat p l]
 exact h _ (Sp.cut_hd p l)
section
variable {T:List Rw.Row} {S:List Int}
theorem Qk.C_zero {l:List Int} {x:Int} (hx:x∈l) (h:Qk.set T S x=false):zMx T S l=0:=by
 have hb:=Qk.C_bd (T:=T) (S:=S) l;unfold zMx at hb ⊢;split
 · rename_i hi;rw[if_pos hi]at hb;have h1:=(zFr (T:=T) (S:=S) l 2 (by omega) (by omega)).2.2.1 x hx;have h2:Qk.one T S x=0:=by unfold Qk.one;rw[if_neg (by rw[h];decide)]
   unfold Qk.fold at hb ⊢;omega
 rfl
theorem Qk.cut_safe (ok:Ud.Ok T S) {c:Int} (hc:zEr T S c=true) (a b:List Int):zMx T S (a++c::b)=min (zMx T S a) (zMx T S (c::b)):=by
 have b1:=Qk.C_bd (T:=T) (S:=S) a;have b2:=Qk.C_bd (T:=T) (S:=S) (c::b)
 by_cases hs:∀x∈a++c::b,Qk.set T S x=true
 rotate_left
 · obtain⟨x,hx,hf⟩:∃x∈a++c::b,Qk.set T S x=false:=Classical.byContradiction fun h=>hs fun x hx=>by
    cases hq:Qk.set T S x with
    | true=>rfl
    | false=>exact absurd ⟨x,hx,hq⟩ h
   rw[Qk.C_zero hx hf];rcases List.mem_append.1 hx with h|h
   · rw[Qk.C_zero h hf];omega
   rw[Qk.C_zero h hf];omega
 have hcl:Md.cls T c=0:=by
  have hst:Sp.start T c=true:=by unfold zEr at hc;simp only[Bool.and_eq_true]at hc;exact hc.2.1
  rcases zIv (Nc.fit ok) (zMp ok) ((zKu c).1 (hs c (by simp))) with h|h
  · have hh:Sp.head T c=c:=by unfold Sp.head;rw[h];rfl
    unfold Sp.start at hst;rw[hh]at hst;simpa using hst
  exact h.1
 have hn:¬0<Md.cls T c:=by omega
 have e1:Or.inB (Md.cls T) 0 (a++c::b)=(Or.inB (Md.cls T) 0 a&&Or.inB (Md.cls T) (Md.cls T c) b):=zCQ hn b a 0
 have e2:Or.inB (Md.cls T) 0 (c::b)=Or.inB (Md.cls T) (Md.cls T c) b:=by
  conv=>lhs;unfold Or.inB
  rw[if_neg (fun h=>hn h.1)]
 have e3:Qk.fold T S (a++c::b)=min (Qk.fold T S a) (Qk.fold T S (c::b)):=by
  have hb:=zFr (T:=T) (S:=S) a 2 (by omega) (by omega);unfold Qk.fold;rw[List.foldl_append];exact Qk.fold_min (Qk.one T S) (fun x=>(zGA x).2) (c::b) _ hb.2.1
 unfold zMx at b1 b2 ⊢;rw[e1,e2,e3];rw[e2]at b2;cases h1:Or.inB (Md.cls T) 0 a <;> cases h2:Or.inB (Md.cls T) (Md.cls T c) b <;> simp only[h1,h2,Bool.and_true,Bool.and_false,if_true,if_false,Bool.false_eq_true,reduceIte]at b1 b2 ⊢ <;> omega
theorem Qk.parts (ok:Ud.Ok T S) (l:List Int):zMx T S l=(Sp.cut (zEr T S) l).foldl (fun a u=>min a (zMx T S u)) 2 :=
 Sp.cut_min (zMx T S) rfl (fun l=>(Qk.C_bd l).2) (fun a _ b hc=>Qk.cut_safe ok hc a b) l
end
end Go.Proofs.YtddbccflcekdpaaGreatDoor
