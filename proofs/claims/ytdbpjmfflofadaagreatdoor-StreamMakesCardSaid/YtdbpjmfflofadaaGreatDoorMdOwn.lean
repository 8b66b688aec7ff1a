/- Regions that draw their order and whose steps are not all in one turn: reads are taken as soon as they may come up, steps are branched over. -/
import Derived.Great.BuildSlice
import Derived.Lib.SlicesS
import Derived.RangeFuncCalls
import Derived.Test.YtdbpjmfflofadaaGreatDoorNfPlain
set_option maxRecDepth 1000000
set_option maxHeartbeats 4000000
set_option linter.unusedVariables false
set_option linter.unusedSimpArgs false
namespace Go.Proofs.YtdbpjmfflofadaaGreatDoor.Stg
open Go Go.RowKit
section
variable {P:Program} {ops:Array Oper} {md:Region.Mode} {R:World→World→Prop} {F:Act→World→Prop}
def xOper (P:Program) (ops:Array Oper) (R:World→World→Prop) (o:Oper) (K:Act→World→Prop) (a:Act) (w:World):Prop :=
 if Region.wanted o (yielded ops a.tmps)=true then
  (if readsOnly o.op=true then o.quiet P a (fun w'=>w'=w) (fun a'=>K a' w) else stepAt P o a w (fun v w'=>R w w'∧K (a.put o.dst v) w'))
 else K (a.put o.dst undef) w
def xOp (P:Program) (ops:Array Oper) (R:World→World→Prop) (i:Nat) (K:Act→World→Prop) (a:Act) (w:World):Prop :=
 match ops[i]? with
 | none=>K a w
 | some o=>xOper P ops R o K a w
def wpX (P:Program) (md:Region.Mode) (ops:Array Oper) (R:World→World→Prop) (F:Act→World→Prop):Nat→Array Bool→Act→World→Prop
 | 0,listed,a,w=>Region.ready md ops listed=[]∧F a w
 | fuel+1,listed,a,w=>(Region.ready md ops listed=[]→F a w)∧∀i∈Region.ready md ops listed,xOp P ops R i (wpX P md ops R F fuel (listed.setIfInBounds i true)) a w
theorem wpAny_of_x {Q:Exit→Act→World→Prop} (hQ:∀a w,F a w→Q .normal a w):∀(fuel:Nat) (listed:Array Bool) (a:Act) (w:World),wpX P md ops R F fuel listed a w→wpAny P md ops Q fuel listed a w
 | 0,_,_,_,h=>⟨h.1,hQ _ _ h.2⟩
 | fuel+1,listed,a,w,h=>⟨fun h0=>hQ _ _ (h.1 h0),fun i hi=>by
    have h2:=h.2 i hi;unfold xOp at h2;unfold wpOp;cases ho:ops[i]? with
    | none=>exact absurd (lt_of_ready hi) (by have:=Array.getElem?_eq_none_iff.1 ho;omega)
    | some o =>
      simp only[ho]at h2 ⊢;unfold xOper at h2;split
      · rename_i hw;simp only[hw,Yo]at h2;left
        by_cases hro:readsOnly o.op=true
        · rw[Zl hro]at h2;obtain⟨v,h3,h4⟩:=h2;have h5:=h3 w rfl;have hne:=noEnter hro a.eval P w;unfold Oper.quietAt at h5;unfold Oper.wp;generalize (execOp a.eval o).run P w=r at *;cases r with
          | ok x w' =>
            cases x <;> simp only[Oper.quietUpon]at h5 <;> simp only[Oper.upon]
            case value u=>rw[h5.1,h5.2];exact wpAny_of_x hQ fuel _ _ _ h4
            case skip=>rw[h5.1,←h5.2];exact wpAny_of_x hQ fuel _ _ _ h4
            case enter f args=>exact absurd rfl (hne w' f args)
          | halt x w'=>simp only[Oper.quietUpon]at h5
        rw[Zk hro]at h2;unfold stepAt at h2;unfold Oper.wp;generalize (execOp a.eval o).run P w=r at *;cases r with
        | ok x w' =>
          cases x <;> simp only[stepUpon]at h2 <;> simp only[Oper.upon]
          case value v=>exact wpAny_of_x hQ fuel _ _ _ h2.2
          case skip=>exact wpAny_of_x hQ fuel _ _ _ h2.2
          case enter f args =>
           refine h2.mono ?_;rintro e w'' ⟨v,rfl,h3,h4⟩;exact wpAny_of_x hQ fuel _ _ _ h4
          case row s args =>
           refine JO h2 ?_;rintro v w'' ⟨h3,h4⟩;exact wpAny_of_x hQ fuel _ _ _ h4
        | halt x w'=>simp only[stepUpon]at h2
      rename_i hw;simp only[hw,Ye]at h2;exact wpAny_of_x hQ fuel _ _ _ h2⟩
def YieldsX (P:Program) (ops:Array Oper) (R:World→World→Prop) (o:Oper) (v:Value) (a:Act) (w:World):Prop :=
 (Region.wanted o (yielded ops a.tmps)=true∧readsOnly o.op=true∧∀w',R w w'→o.quietAt P a (fun _=>True) w' v)∨(Region.wanted o (yielded ops a.tmps)=false∧v=undef)
theorem YieldsX.xOp {i:Nat} {o:Oper} {v:Value} {a:Act} {w:World} (hR:Rel R) (hi:ops[i]?=some o) (hy:YieldsX P ops R o v a w) {K:Act→World→Prop} (h:K (a.put o.dst v) w):xOp P ops R i K a w:=by
 unfold Stg.xOp xOper;simp only[hi];rcases hy with ⟨hw,hro,hv⟩|⟨hw,rfl⟩
 · simp only[hw,hro,Yo];exact⟨v,fun w' hw'=>by subst hw';exact quietAt_same hro (hv _ (hR.refl _)),h⟩
 simp only[hw,ZF,Ye];exact h
theorem firstX {i:Nat} {oi:Oper} {v:Value} (hR:Rel R) (hi:ops[i]?=some oi) (ae:∀(j:Nat) (o:Oper) cs b,ops[j]?=some o→o.op≠.select cs b) :
 ∀(fuel:Nat) (listed:Array Bool) (a:Act) (w:World),
  (∀j oj,ops[j]?=some oj→j≠i→listed.getD j true=false→(∀e∈oj.after,Region.binds md e=true→e.on≠i)→oi.apart ops oj=true) →
  i∈Region.ready md ops listed→YieldsX P ops R oi v a w →
  wpX P md ops R F fuel (listed.setIfInBounds i true) (a.put oi.dst v) w→wpX P md ops R F (fuel+1) listed a w:=by
 intro fuel
 induction fuel with
 | zero =>
   intro listed a w _ hr hy H;refine⟨fun h=>(by rw[h]at hr;cases hr),fun j hj=>?_⟩
   by_cases hji:j=i
   · subst hji;exact hy.xOp hR hi H
   have:=XZ hj hji;rw[H.1]at this;cases this
 | succ fuel ih =>
   intro listed a w aa hr hy H;refine⟨fun h=>(by rw[h]at hr;cases hr),fun j hj=>?_⟩
   by_cases hji:j=i
   · subst hji;exact hy.xOp hR hi H
   have h1:=H.2 j (XZ hj hji);obtain⟨ag,oj,ah,aj⟩:=mem_ready.1 hj
   have ai:∀e∈oj.after,Region.binds md e=true→e.on≠i:=fun e he hb ap=>by
    have h1:=aj e he hb;have h0:=(mem_ready.1 hr).1;rw[ap,unl h0]at h1;cases h1
   obtain⟨p1,p2,p3⟩:=Jq (aa j oj ah hji ag ai)
   have af:∀k ok,ops[k]?=some ok→k≠i→(listed.setIfInBounds j true).getD k true=false →
    (∀e∈ok.after,Region.binds md e=true→e.on≠i)→oi.apart ops ok=true:=fun k ok hk ao ak aq=>by
    refine aa k ok hk ao ?_ aq
    by_cases hjk:j=k
    · subst hjk;exact ag
    rw[XG true hjk]at ak;exact ak
   have keep:∀u w',R w w'→YieldsX P ops R oi v (a.put oj.dst u) w':=fun u w' hw'=>by
    unfold YieldsX Oper.quietAt at *;rw[XX oi (ae i oi · · hi) a oj.dst u p3,XY oi a oj.dst u p3];exact hy.imp (fun ⟨x,y,z⟩=>⟨x,y,fun w2 h2=>z w2 (hR.trans hw' h2)⟩) id
   have go:∀u w',R w w' →
    wpX P md ops R F fuel ((listed.setIfInBounds i true).setIfInBounds j true) ((a.put oi.dst v).put oj.dst u) w'→wpX P md ops R F (fuel+1) (listed.setIfInBounds j true) (a.put oj.dst u) w':=by
    intro u w' hw' h3;refine ih _ _ _ af (XZ hr (Yc hji)) (keep u w' hw') ?_;rw[Qd _ _ hji,←Jg a v u p2];exact h3
   unfold Stg.xOp xOper at *;simp only[ah]at h1 ⊢;rw[XY oj a oi.dst v p1]at h1;split
   · rename_i hw;simp only[hw,Yo]at h1
     by_cases hro:readsOnly oj.op=true
     · rw[Zl hro]at h1 ⊢;obtain⟨u,h2,h3⟩:=h1;refine⟨u,fun w' hw'=>?_,go u w (hR.refl _) h3⟩;have:=h2 w' hw';unfold Oper.quietAt at *
       rwa [XX oj (ae j oj · · ah) a oi.dst v p1]at this
     rw[Zk hro]at h1 ⊢;unfold stepAt at *;rw[XX oj (ae j oj · · ah) a oi.dst v p1]at h1;exact stepUpon_mono (fun u w' ⟨h2,h3⟩=>⟨h2,go u w' h2 h3⟩) h1
   rename_i hw;simp only[hw,Ye]at h1;exact go _ w (hR.refl _) h1
theorem wp_regionX (R:World→World→Prop) (hR:Rel R) {id:Nat} {Q:Exit→Act→World→Prop} {a:Act} {w:World} {l:List Oper} (hm:P.follows .mixedOrders=true)
 (h:wpX P .any l.toArray R (fun a w=>Q .normal a w) l.toArray.size (Array.replicate l.toArray.size false) a w.drew):(Code.region id l.toArray true).wp P Q a w :=
 JT hm (wpAny_of_x (F:=fun a w=>Q .normal a w) (fun _ _ h=>h) _ _ _ _ h)
variable {fuel:Nat} {listed:Array Bool} {a:Act} {w:World}
theorem takeX {l:List Oper} (i:Nat) {o:Oper} (hk:(Region.noSelect l.toArray&&Region.free md l.toArray listed i&&(Region.ready md l.toArray listed).contains i&&readsOnly o.op&&Region.wanted o (yielded l.toArray a.tmps))=true) (hR:Rel R) (hi':l[i]?=some o)
 (h:∀K:Act→Prop,(∀A,wpX P md l.toArray R F fuel (listed.setIfInBounds i true) A w→K A)→o.quiet P a (fun w'=>∃x:Later R w,w'=x.val) K):wpX P md l.toArray R F (fuel+1) listed a w:=by
 simp only[Zr]at hk;obtain⟨⟨⟨⟨hs,hf⟩,hr⟩,hro⟩,hw⟩:=hk;have hi:l.toArray[i]?=some o:=by simpa using hi'
 obtain⟨v,h1,h2⟩:=h (fun A=>wpX P md l.toArray R F fuel (listed.setIfInBounds i true) A w) (fun A h=>h);exact firstX hR hi (Region.noSelect_spec hs) fuel listed a w (Region.free_spec hi hf) (by simpa using hr) (.inl ⟨hw,hro,fun w' hw'=>quietAt_same hro (h1 w' ⟨⟨w',hw'⟩,rfl⟩)⟩) h2
theorem one (i:Nat) (hr:Region.ready md ops listed=[i]) (h:xOp P ops R i (wpX P md ops R F fuel (listed.setIfInBounds i true)) a w):wpX P md ops R F (fuel+1) listed a w :=
 ⟨fun e=>absurd e (by rw[hr];simp),fun j hj=>by
  rw[hr,ZE]at hj;subst hj;exact h⟩
theorem two (i i':Nat) (hr:Region.ready md ops listed=[i,i']) (h:xOp P ops R i (wpX P md ops R F fuel (listed.setIfInBounds i true)) a w) (h':xOp P ops R i' (wpX P md ops R F fuel (listed.setIfInBounds i' true)) a w):wpX P md ops R F (fuel+1) listed a w :=
 ⟨fun e=>absurd e (by rw[hr];simp),fun j hj=>by
  rw[hr]at hj;rcases List.mem_cons.1 hj with e|hj
  · subst e;exact h
  rw[ZE]at hj;subst hj;exact h'⟩
theorem endX (hr:Region.ready md ops listed=[]) (h:F a w):wpX P md ops R F fuel listed a w:=by
 cases fuel with
 | zero=>exact⟨hr,h⟩
 | succ fuel=>exact⟨fun _=>h,fun i hi=>by rw[hr]at hi;cases hi⟩
theorem stepX {l:List Oper} (i:Nat) {o:Oper} (hk:(plainOp o.op&&!readsOnly o.op&&Region.wanted o (yielded l.toArray a.tmps))=true) (hi':l[i]?=some o) {K:Act→World→Prop}
 (h:∀K':Act→World→Prop,(∀A w',R w w'→(∀A',A'=A→K A' w')→K' A w')→o.wp P a w K' (fun _ _ _=>False)):xOp P l.toArray R i K a w:=by
 simp only[Zr,YB]at hk;obtain⟨⟨hp,hro⟩,hw⟩:=hk;have hi:l.toArray[i]?=some o:=by simpa using hi'
 unfold xOp xOper;simp only[hi,hw,hro,Yo,ZF,Ye];have h1:=h (fun A w'=>R w w'∧K A w') (fun A w' h1 h2=>⟨h1,h2 A rfl⟩);have aa:=noDefer hp a.eval P w;unfold stepAt;unfold Oper.wp at h1;generalize (execOp a.eval o).run P w=r at *;cases r with
 | ok x w' =>
   cases x <;> simp only[Oper.upon]at h1 <;> simp only[stepUpon]
   case value v=>exact h1
   case skip=>exact h1
   case defer d=>exact absurd rfl (aa w' d)
   case enter f args =>
    refine h1.mono fun e w'' he=>?_
    cases e with
    | returned v=>exact⟨v,rfl,he⟩
    | panicked c=>exact absurd he id
    | outgrown=>obtain⟨_,_,he⟩:=he;exact absurd he id
   case row s args=>exact JO h1 fun v w'' he=>he
 | halt x w'=>cases x <;> simp only[Oper.upon]at h1
theorem callX {l:List Oper} (i:Nat) {o:Oper} {fn:Func} (hi':l[i]?=some o) (f:FuncId) (xs:List Operand) (ts:Array TypeId) (ho:o.op=.call { callee:=.value (.func f),args:=xs.toArray,argTypes:=ts })
 (ae:P.funcs[f]?=some fn) (us:List Value) (hv:xs.map a.eval=us) (T:Ending→World→Prop) (hC:Calls P f us.toArray w T) (hk:(fn.name != "runtime.NumGoroutine" && fn.body.isSome&&!readsOnly o.op&&Region.wanted o (yielded l.toArray a.tmps))=true) {K:Act→World→Prop}
 (h:∀e w',T e w'→∃v,e=.returned v∧R w w'∧∀A,A=a.put o.dst v→K A w'):xOp P l.toArray R i K a w:=by
 simp only[Zr,YB]at hk;obtain⟨⟨⟨af,hbd⟩,hro⟩,hw⟩:=hk;have entry:∀args w,(callFunc f args).run P w=.ok (.enter f args) w:=fun args w=>entered ae af hbd args w
 have hi:l.toArray[i]?=some o:=by simpa using hi'
 unfold xOp xOper;simp only[hi,hw,hro,Yo,ZF,Ye]
 have aa:(execOp a.eval o).run P w=.ok (.enter f us.toArray) w:=by
  have hf:a.eval (.func f)=.func (.func f) #[] #[]:=rfl;unfold execOp;subst hv;simp[ho,resolve,invoke,go_sem,entry,hf]
 unfold stepAt;rw[aa];exact hC.mono fun e w' ht=>let ⟨v,he,h1,h2⟩:=h e w' ht;⟨v,he,h1,h2 _ rfl⟩
end
end Go.Proofs.YtdbpjmfflofadaaGreatDoor.Stg
namespace Go.Proofs.YtdbpjmfflofadaaGreatDoor
open Go.RowKit
theorem zBi {P:Program} {ops:Array Oper} {rest:List Oper} {o:Oper} {a:Act} {w w':World} {Q:Exit→Act→World→Prop} (aa:o.guard=none) (u:Value) (hr:(execOp a.eval o).run P w=.ok (.value u) w') (h:wpList P ops Q rest (a.put o.dst u) w'):wpList P ops Q (o::rest) a w :=
 Jc aa fun _ hK=>by
  unfold Oper.wp;rw[hr];exact hK _ _ h
theorem zMV {P:Program} {ops:Array Oper} {o:Oper} {a:Act} {K:Act→World→Prop} {Q:Exit→Act→World→Prop} {E:Prop} {w w':World} (aa:o.guard=none) (u:Value) (hr:(execOp a.eval o).run P w=.ok (.value u) w') (h:K (a.put o.dst u) w') :
 if Region.wanted o (yielded ops a.tmps)=true then Oper.wp P o a w K Q else E:=by
 rw[Zl (by simp[Region.wanted,aa])];unfold Oper.wp;rw[hr];exact h
theorem zEt {P:Program} {o:Oper} {ρ:Operand→Value} {w w':World} (t:TypeId) (ho:o.op=.build t #[]) (u:Value) (hr:(Instr.build t #[]).run P w=.ok u w'):(execOp ρ o).run P w=.ok (.value u) w':=by
 simp only[execOp,ho,YC,Xb,Ym,hr,Yt,Ys]
theorem zK1 {P:Program} {o:Oper} {ρ:Operand→Value} {w w':World} (t:TypeId) (k:Nat) (x:Operand) (ho:o.op=.build t #[(k,x)]) (v:Value) (hx:ρ x=v) (u:Value) (hr:(Instr.build t #[(k,v)]).run P w=.ok u w'):(execOp ρ o).run P w=.ok (.value u) w':=by
 subst hx;simp only[execOp,ho,YC,Xb,ZU,Ym,hr,Yt,Ys]
theorem zCw {P:Program} {o:Oper} {ρ:Operand→Value} {w w':World} (t:TypeId) (n k:Nat) (x:Operand) (ho:o.op=.buildSlice t n #[(k,x)]) (v:Value) (hx:ρ x=v) (u:Value) (hr:(Instr.buildSlice t n #[(k,v)]).run P w=.ok u w'):(execOp ρ o).run P w=.ok (.value u) w':=by
 subst hx;simp only[execOp,ho,YC,Xb,ZU,Ym,hr,Yt,Ys]
theorem zCB {P:Program} {o:Oper} {ρ:Operand→Value} {w w':World} (t:TypeId) (x:Operand) (ho:o.op=.load t x) (v:Value) (hx:ρ x=v) (u:Value) (hr:(Instr.loadAt t v).run P w=.ok u w'):(execOp ρ o).run P w=.ok (.value u) w':=by
 subst hx;simp only[execOp,ho,YC,hr,Yt,Ys]
theorem zDM {P:Program} {o:Oper} {ρ:Operand→Value} {w w':World} (s x:Operand) (t:TypeId) (ho:o.op=.call { callee:=.builtin .append,args := #[s,x],argTypes := #[t,t] }) (v u:Value) (hs:ρ s=v) (hx:ρ x=u) (r:Value)
 (hr:(Builtin.append_ #[t,t] o.type #[v,u]).run P w=.ok r w'):(execOp ρ o).run P w=.ok (.value r) w':=by
 subst hs hx;unfold execOp;simp only[ho,resolve,invoke,builtin,YC,Ys,Yt,Xb,ZU,Ym,hr]
section
variable {P:Program} {ops:Array Oper} {Q:Exit→Act→World→Prop} {fuel:Nat} {listed:Array Bool} {a:Act} {w:World}
theorem Pg.take (i:Nat) (op:Op) (d:Option Tmp) (t:TypeId) (v:Value) (ho:(ops[i]?).map (fun o=>(o.op,o.dst,o.type,o.guard))=some (op,d,t,none)) (hs:Region.noSelect ops=true) (hf:Region.free .any ops listed i=true) (hr:(Region.ready .any ops listed).contains i=true)
 (hQ:∀c a w,Q (.panic c) (a.put d v) w→Q (.panic c) a w) (hy:∀o:Oper,o.op=op→∀w,(execOp a.eval o).run P w=.ok (.value v) w)
 (h:wpAny P .any ops Q fuel (listed.setIfInBounds i true) (a.put d v) w):wpAny P .any ops Q (fuel+1) listed a w:=by
 cases hi:ops[i]? with
 | none=>simp[hi]at ho
 | some o =>
   simp only[hi,Zw,Zg,YA]at ho;obtain⟨h1,h2,h3,h4⟩:=ho;refine wpAny_take (i:=i) (oi:=o) (v:=v) hi hs hf hr (fun c a w=>by rw[h2];exact hQ c a w) (Or.inl ⟨by simp[Region.wanted,h4],hy o h1⟩) ?_;rw[h2];exact h
theorem zBM {i:Nat} {rs:List Nat} (op:Op) (d:Option Tmp) (t:TypeId) (v:Value) (w':World) (ho:(ops[i]?).map (fun o=>(o.op,o.dst,o.type,o.guard))=some (op,d,t,none)) (hr:∀o:Oper,o.op=op→o.type=t→(execOp a.eval o).run P w=.ok (.value v) w')
 (h:wpAny P .any ops Q fuel (listed.setIfInBounds i true) (a.put d v) w') (hs:AllReady P .any ops Q fuel listed a w rs):AllReady P .any ops Q fuel listed a w (i::rs):=by
 cases hi:ops[i]? with
 | none=>simp[hi]at ho
 | some o =>
   simp only[hi,Zw,Zg,YA]at ho;obtain⟨h1,h2,h3,h4⟩:=ho;refine AllReady.cons hi (fun K hK=>?_) hs;refine zMV h4 v (hr o h1 h3) (hK _ _ ?_);rw[h2];exact h
theorem zHs {i:Nat} {rs:List Nat} (op:Op) (w':World) (ho:(ops[i]?).map (fun o=>(o.op,o.dst,o.type,o.guard))=some (op,none,0,none)) (hr:∀o:Oper,o.op=op→(execOp a.eval o).run P w=.ok .skip w')
 (h:wpAny P .any ops Q fuel (listed.setIfInBounds i true) a w') (hs:AllReady P .any ops Q fuel listed a w rs):AllReady P .any ops Q fuel listed a w (i::rs):=by
 cases hi:ops[i]? with
 | none=>simp[hi]at ho
 | some o =>
   simp only[hi,Zw,Zg,YA]at ho;obtain⟨h1,h2,h3,h4⟩:=ho;refine AllReady.cons hi (fun K hK=>?_) hs;rw[Zl (by simp[Region.wanted,h4])];unfold Oper.wp;rw[hr o h1];refine hK _ _ ?_;rw[h2];exact h
end
theorem zF5 {P:Program} {o:Oper} {ρ:Operand→Value} {w:World} (x:Operand) (ho:o.op=.move x) (v:Value) (hx:ρ x=v):(execOp ρ o).run P w=.ok (.value v) w:=by
 subst hx;simp only[execOp,ho,Ys]
theorem zD9 {P:Program} {o:Oper} {ρ:Operand→Value} {w:World} (x:Operand) (ho:o.op=.nilCheck x) (a:Addr) (hx:ρ x=.pointer (some a)):(execOp ρ o).run P w=.ok (.value (.pointer (some a))) w:=by
 simp only[execOp,ho,hx,Ys]
theorem zCM {P:Program} {o:Oper} {ρ:Operand→Value} {w w':World} (t:TypeId) (x:Operand) (k:Nat) (ho:o.op=.fieldAddr t x k) (v:Value) (hx:ρ x=v) (u:Value) (hr:(Instr.fieldAt t v k).run P w=.ok u w'):(execOp ρ o).run P w=.ok (.value u) w':=by
 subst hx;simp only[execOp,ho,YC,hr,Yt,Ys]
theorem zEu {P:Program} {o:Oper} {ρ:Operand→Value} {w w':World} (t:TypeId) (p x:Operand) (ho:o.op=.store t p x) (v u:Value) (hp:ρ p=v) (hx:ρ x=u) (hr:(Instr.storeAt t v u).run P w=.ok () w'):(execOp ρ o).run P w=.ok .skip w':=by
 subst hp hx;simp only[execOp,ho,YC,hr,Yt,Ys]
theorem zHZ:∀(xs:List Value) (k:Nat) (cs:Array Value),cs.size=k+xs.length→((xs.zipIdx k).foldl (fun (cs:Array Value) (p:Value × Nat)=>cs.setIfInBounds (0+p.2) p.1) cs).toList=cs.toList.take k++xs
 | [],k,cs,h=>by simp;rw[Zi (by simp;simp at h;omega)]
 | x::xs,k,cs,h=>by
   rw[List.zipIdx_cons,Yy,zHZ xs (k+1) _ (by simp at h ⊢;omega)];have hk:k<cs.toList.length:=by simp at h ⊢;omega
   simp only[Array.toList_setIfInBounds,Z4];rw[Zy,List.take_set_of_le (Za _),List.getElem?_set_self hk];simp
theorem zOm (n:Nat) (cs v:Array Value) (h1:v.size=n) (h2:cs.size=n):Instr.fill (fun i=>some (i*n,n)) cs [(0,.agg v)]=some v:=by
 unfold Instr.fill;simp only[];split
 · rename_i h;have e1:(Value.agg v).cells.size=n:=h1;rw[e1]at h;have e2:¬(0*n+n > cs.size):=by omega
   simp[h2]at h
 unfold Instr.fill;congr 1;have:=zHZ v.toList 0 cs (by simp;omega);apply Array.ext'
 simp only[Value.cells,Nat.zero_mul];rw[←Array.foldl_toList,Array.toList_zipIdx];rw[X3,ZV]at this;exact this
theorem zQd:(Tryz.prog.info? 201).map (fun i=>(i.zero.isSome,i.size,i.bytes))=some (true,256,512):=by kernel_rfl
theorem zRv (w:World) (b:List Int) (hb:b.length=256):(Instr.buildSlice 203 1 #[(0,.agg (Pg.vs b).toArray)]).run Tryz.prog w=.ok (.slice (some ⟨w.heap.size,0,none⟩) 1 1) (w.alloc (.cells (Pg.vs b).toArray 201)):=by
 have hi:=zQd;cases hie:Tryz.prog.info? 201 with
 | none=>simp[hie]at hi
 | some ie =>
   simp only[hie,Zw,Zg,YA]at hi;obtain⟨z,hz⟩:=Option.isSome_iff_exists.1 hi.1;refine run_buildSlice w _ _ 1 _ _ ie z Tryz.underlying203 hie hz (by rw[hi.2.1];decide) (by rw[hi.2.1];decide) ?_;rw[hi.2.1];exact zOm 256 _ _ (by unfold Pg.vs;simp[hb]) (by simp)
theorem zOn (w:World):(Instr.build 201 #[]).run Tryz.prog w=.ok (.agg (Pg.vs zAn).toArray) w:=by kernel_rfl
theorem zT6 (w:World) (v:Addr):(Instr.build 205 #[(1,Value.slice (some v) 1 1)]).run Tryz.prog w=.ok (.agg (Pg.vs (List.replicate 4352 0)++[Value.slice (some v) 1 1]).toArray) w:=by kernel_rfl
theorem zRw:∃(i:TypeInfo) (z:Value),Tryz.prog.info? 201=some i∧i.zero=some z∧i.size=256∧i.bytes=512∧z.cells.size=256:=by
 have hi:(Tryz.prog.info? 201).map (fun i=>(i.zero.map fun z=>z.cells.size,i.size,i.bytes))=some (some 256,256,512):=by kernel_rfl
 cases hie:Tryz.prog.info? 201 with
 | none=>simp[hie]at hi
 | some ie =>
   simp only[hie,Zw,Zg,YA]at hi;obtain⟨h1,h2,h3⟩:=hi;cases hz:ie.zero with
   | none=>simp[hz]at h1
   | some z=>exact⟨ie,z,rfl,hz,h2,h3,by simpa [hz] using h1⟩
theorem zDC (g:Nat) (w:World):(Instr.fieldAt 205 (.pointer (some ⟨g,0,none⟩)) 1).run Tryz.prog w=.ok (.pointer (some ⟨g,4352,none⟩)) w:=by
 have hu:=Tryz.underlying205;go_simp
theorem zEv (w:World) (b o:Nat) (u:Value) (A:Option Addr) (n c:Nat) (h:w.cell? ⟨b,o,none⟩=some u) (hf:w.frozen? ⟨b,o,none⟩=false):(Instr.storeAt 203 (.pointer (some ⟨b,o,none⟩)) (.slice A n c)).run Tryz.prog w=.ok () (w.setCell ⟨b,o,none⟩ (.slice A n c)):=by
 have hu:=Tryz.underlying203;go_simp
theorem zGL {W:World} {base n pb:Nat} {e:TypeId} {size:Nat} {v:Value} {xs:List Value} {bl:List (List Int)} (h:W.ownsRow base e size v n xs) (hp:Pg.Pl W pb bl):v.ownBlock≠some pb:=by
 intro hv;rcases h.2 with ⟨rfl,_⟩|⟨g,cap,aa,rfl,_,hg,_⟩
 · simp[Value.ownBlock]at hv
 simp only[Value.ownBlock,Zg]at hv;exact hp.notAt hg hv.symm
theorem zI0 (w:World) (b o:Nat) (v:Value) (h:w.cell? ⟨b,o,none⟩=some v):(Instr.loadAt 203 (.pointer (some ⟨b,o,none⟩))).run Tryz.prog w=.ok v w:=by
 have hu:=Tryz.underlying203;go_simp
theorem zOo (base:Nat) (W:World) (v:Value) (n:Nat) (xs:List Value) (b:List Int) (hb:b.length=256) (aa:W.ownsRow base 201 256 v n xs) (ae:base≤W.heap.size) (hn:n≤100000) (ty:TypeId) :
 ∃v' w',(Builtin.append_ #[203,203] ty #[v,.slice (some ⟨W.heap.size,0,none⟩) 1 1]).run Tryz.prog (W.alloc (.cells (Pg.vs b).toArray 201))=.ok v' w' ∧
  w'.ownsRow base 201 256 v' (n+1) (xs++Pg.vs b)∧W.grownBy w' v.ownBlock:=by
 obtain⟨i,z,h1,h2,h3,h4,h5⟩:=zRw;have hl:(Pg.vs b).length=1*256:=by unfold Pg.vs;rw[List.length_map,hb]
 obtain⟨v',w',g1,g2,g3,_⟩:=run_append_own (P:=Tryz.prog) (w:=W.alloc (.cells (Pg.vs b).toArray 201)) base 203 ty 201 i z 256 512 Tryz.underlying203 h1 h2 h3 h4 h5 (by decide) v n xs (aa.alloc _) ⟨W.heap.size,0,none⟩ 1 1 (Pg.vs b) hl
  (fun j u hu=>by
    have hj:=Rw.At.new W 201 (Pg.vs b);have:(⟨W.heap.size,0,none⟩:Addr).add j=⟨W.heap.size,0+j,none⟩:=by unfold Addr.add;split <;> simp_all
    rw[this,Z4];exact hj.cell j hu) (fun u hu=>by unfold Pg.vs at hu;obtain⟨y,_,rfl⟩:=List.mem_map.1 hu;rfl) (by simp only[maxLen];omega) (by omega) (by simp;omega)
 exact⟨v',w',g1,g2,zA0 (zMe (Yr W _ none)) g3⟩
theorem zMW (A:Option Addr) (n c:Nat) (L:List (Int × Int)) (w:World) (hn:L.length=n) (er:zHg L) (hs:Sl w w.heap.size A (Pg.fl L)) (e8:n≤maxLen) :
 Calls Tryz.prog 88 #[.slice A n c] w fun e w'=>∃v,e=.returned v∧zTG w.heap.size w' v (Pg.last L)∧Below w.heap.size w w':=by
 have dt:=@JC Tryz.prog;have ao:=Pg.St.made w w.heap.size (w.alloc (.map #[] 0)).heap.size;have dw:Below w.heap.size w (w.alloc (.map #[] 0)):=(Zd _ _).alloc (Za _) _;obtain⟨w1,df⟩:∃w1,w.alloc (.map #[] 0)=w1:=⟨_,rfl⟩;rw[df]at ao dw;have ep:w1.heap.size=w.heap.size+1:=by rw[←df];simp
 have fc:=hy' df;have ew:=hy' ao;have e4:=hy' dw;have HS:=hy' hs;have HN:=hy' hn;have cz:=hy' er;have gf:=hy' ep;simp only[maxLen]at e8;clear df ao dw hs hn er ep;go_enter Tryz.func88,Tryz.ntmps88;go_upto_region 2 with (fail)
 rw[fc.o];clear dt;go_wp2_with fail;go_loopw [16] (fun i wr=>∃(k:Nat) (G:Nat→Option Nat),k≤n∧i=.int .i64 k∧Pg.St w.heap.size wr.heap.size wr w.heap.size (Pg.last (L.take k)) G∧Below w.heap.size w wr) (fun i _=>n-(intOf i).toNat)
 case atStart=>exact⟨0,_,Zq _,rfl,ew.o,e4.o⟩
 obtain⟨k,G,hk,rfl,ao,ah⟩:=hrel
 by_cases hlt:k<n
 · obtain⟨x,hx⟩:∃x,L[k]?=some x:=⟨_,Zb (by rw[HN.o];exact hlt)⟩;have eo:=cz.o x (Zj hx);obtain⟨b,o,rfl,hb,dr⟩:=(HS.o.below ah ah.size) (by rw[Pg.fl_len,HN.o];omega);have c0:=dr (k*2) (by rw[Pg.fl_len,HN.o];omega);have c1:=dr (k*2+1) (by rw[Pg.fl_len,HN.o];omega);rw[(Pg.fl_get L k x hx).1]at c0;rw[(Pg.fl_get L k x hx).2,←Yi]at c1;have ek:L.take (k+1)=L.take k++[x]:=by rw[Zy,hx];rfl
   have ea:=hy' ek;have gh:(k:Int)<n:=by omega
   have gb:(0:Int)≤k:=by omega
   have dn:Below wr.heap.size wr (wr.alloc (.cells #[.int .i32 x.1,.int .u16 x.2] 165)):=(Zd _ _).alloc (Za _) _;have ch:=Rw.At.new wr 165 [.int .i32 x.1,.int .u16 x.2];have cj:=ao.below dn ao.lt (Za _);have bz:=ah.trans (dn.mono ah.size);have a6:=hy' cj;have aa:=hy' bz;have a7:=hy' ch;have hmb:=ao.lt;have cr:(wr.alloc (.cells #[.int .i32 x.1,.int .u16 x.2] 165)).heap.size=wr.heap.size+1:=by simp
   have bb:=hy' cr;have hI:=Pg.in_any x.1 (wr.alloc (.cells #[.int .i32 x.1,.int .u16 x.2] 165));have fz:=hy' eo;clear hx dr ek ao ah dn ch cj bz cr eo;obtain⟨x1,x2⟩:=x;dsimp only at *
   by_cases hc:0≤x1∧x1≤1114111
   rotate_left
   · rw[Zp hc]at hI;have HI:=hy' hI;have bx:∀m,m<4352→zAc (Pg.last (L.take (k+1))) m=zAc (Pg.last (L.take k)) m:=fun m hm=>by rw[ea.o];exact zO3 _ _ (Zp hc) hm
     have cq:=hy' bx;clear hI bx;go_wp2_with fail;refine HI.o.mono ?_;rintro e w5 ⟨rfl,rfl⟩;go_wp2_with fail;exact⟨⟨k+1,G,by omega,by go_num,(a6.o.more (by rw[bb.o];omega)).turn cq.o,aa.o⟩,by simp[intOf];omega⟩
   rw[Zs hc]at hI;have HI:=hy' hI;obtain⟨N,hN⟩:∃N:Nat,x1/256=N:=⟨(x1/256).toNat,by omega⟩;obtain⟨M,hM⟩:∃M:Nat,x1%256=M:=⟨(x1%256).toNat,by omega⟩;have bw:N<4352:=by omega
   have ej:M<256:=by omega
   have hand:=Pg.and_8 x1 hc.1 hc.2;rw[hM]at hand;have b4:Hy (zAc (Pg.last (L.take (k+1))) N=(zAc (Pg.last (L.take k)) N).set M x2):=hy' (by rw[ea.o];exact zPU _ _ hN hM);have bl:Hy (∀m,m≠N→zAc (Pg.last (L.take (k+1))) m=zAc (Pg.last (L.take k)) m):=hy' (fun m hm=>by rw[ea.o];exact zMq _ _ hN hm);have fx:(M:Int)<256:=by omega
   have fw:(0:Int)≤M:=by omega
   have HM:=hy' hM;clear hI hM;obtain⟨wa,ec⟩:∃wa,wr.alloc (.cells #[.int .i32 x1,.int .u16 x2] 165)=wa:=⟨_,rfl⟩;rw[ec]at a6 aa a7 bb HI;have fk:=hy' ec;clear ec;go_upto_region 5 with (fail)
   rw[fk.o];clear c0 c1;have c0:=a7.o.cell 0 rfl;have c1:=a7.o.cell 1 rfl;have hq:=a7.o.lt;go_wp2_with fail;refine HI.o.mono ?_;rintro e w5 ⟨rfl,rfl⟩;have aw:=a6.o.look bw;rcases hG:G N with _|g
   · rw[hG]at aw;replace aw:(Instr.lookup 229 (.map (some w.heap.size)) (.int .i32 N) false).run Tryz.prog wa=.ok (.pointer none) wa:=aw;obtain⟨wb,G',bf,ct,e3,dp⟩:=a6.o.put bw hG (by rw[bb.o];exact Zh (aa.o.size) (by rw[bb.o];exact Za _)) (by rw[bb.o];omega)
     have ez:=(a7.o.alloc (.cells (Pg.vs zAn).toArray 201)).grown dp (by
      intro e;have e:=Z6 e;omega)
     have fh:=hy' dp;have dx:=hy' ct;have fu:=hy' e3;have fp:=hy' ez;clear ct dp ez e3 hG;go_upto_region 9 with (first|(refine zBi rfl _ (zEt 201 rfl _ (zOn _)) ?_)|fail)
     have ax:=dx;have b8:=fu;have b9:=fp;have bg:Hy (Below w.heap.size w wb):=hy' ((aa.o.alloc (aa.o.size) (.cells (Pg.vs zAn).toArray 201)).trans (zAj fh.o (by simp;have:=aa.o.size;omega) fun q hq=>by cases hq;exact Za _));clear bf hmb
     have ak:(Instr.lookup 229 (.map (some w.heap.size)) (.int .i32 N) false).run Tryz.prog wb.drew=.ok (.pointer (some ⟨wa.heap.size,0,none⟩)) wb.drew:=by
      have:=Pg.St.look (W:=wb.drew) ax.o bw;rw[b8.o]at this;exact this
     obtain⟨du,fm,af⟩:=ax.o.at bw b8.o;have ei:=af.lt;obtain⟨y,hy⟩:∃y,(Pg.vs (zAc (Pg.last (L.take k)) N))[M]?=some y:=⟨_,List.getElem?_eq_getElem (by unfold Pg.vs;rw[List.length_map,zBo];exact ej)⟩;have e0:=af.cell M hy;have e1:=af.frozen M;have d0:=b9.o.cell 0 rfl;have d1:=b9.o.cell 1 rfl;have cu:=b9.o.lt;have cb:=hy' af;clear aw af hy c0 c1;go_region;go_wp2_with fail;exact⟨⟨k+1,_,by omega,by go_num,(ax.o.store (hi:=_) bw b8.o x2 b4.o bl.o).more (by simp[ZP]),(bg.o.setCell (p:=⟨wa.heap.size,M,none⟩) du _).drew⟩,by simp[intOf];omega⟩
   rw[hG]at aw;replace aw:(Instr.lookup 229 (.map (some w.heap.size)) (.int .i32 N) false).run Tryz.prog wa=.ok (.pointer (some ⟨g,0,none⟩)) wa:=aw;have ax:=a6;have b8:=hy' hG;have b9:=a7;have bg:=aa;clear hG;go_upto_region 9 with (fail)
   have ak:(Instr.lookup 229 (.map (some w.heap.size)) (.int .i32 N) false).run Tryz.prog wa.drew=.ok (.pointer (some ⟨g,0,none⟩)) wa.drew:=by
    have:=Pg.St.look (W:=wa.drew) ax.o bw;rw[b8.o]at this;exact this
   obtain⟨du,fm,af⟩:=ax.o.at bw b8.o;have ei:=af.lt;obtain⟨y,hy⟩:∃y,(Pg.vs (zAc (Pg.last (L.take k)) N))[M]?=some y:=⟨_,List.getElem?_eq_getElem (by unfold Pg.vs;rw[List.length_map,zBo];exact ej)⟩;have e0:=af.cell M hy;have e1:=af.frozen M;have d0:=b9.o.cell 0 rfl;have d1:=b9.o.cell 1 rfl;have cu:=b9.o.lt;have cb:=hy' af;clear aw af hy c0 c1 hq;go_region;go_wp2_with fail;exact⟨⟨k+1,_,by omega,by go_num,(ax.o.store (hi:=_) bw b8.o x2 b4.o bl.o).more (by have:=bb.o;simp[ZP];omega),(bg.o.setCell (p:=⟨g,M,none⟩) du _).drew⟩,by simp[intOf];omega⟩
 obtain rfl:n=k:=by omega
 rw[Zi (by rw[HN.o];exact Za _)]at ao;obtain⟨w2,rfl⟩:∃w2:World,w2=wr:=⟨_,rfl⟩;obtain⟨f,hf⟩:∃f,Pg.last L=f:=⟨_,rfl⟩;rw[hf]at ao;have cv:∀m,Pg.u16 (zAc f m):=fun m=>by rw[←hf];exact zPY (fun x hx=>(cz.o x hx).2.2) m
 have HF:=hy' hf;have HU:=hy' cv;have a6:=hy' ao;have aa:=hy' ah;have hmb:=ao.lt;have ee:=zRv w2 zAn Yh;obtain⟨w3,cd⟩:∃w3,w2.alloc (.cells (Pg.vs zAn).toArray 201)=w3:=⟨_,rfl⟩
 have b3:w3.ownsRow w2.heap.size 201 256 (.slice (some ⟨w2.heap.size,0,none⟩) 1 1) 1 (Pg.vs zAn):=by
  rw[←cd];exact⟨by unfold Pg.vs zAn;simp,.inr ⟨_,1,(Pg.vs zAn).toArray,rfl,Nat.le_refl _,heap_alloc_new w2 _,Nat.le_refl _,by decide,by unfold Pg.vs zAn;simp,by unfold Pg.vs zAn;simp⟩⟩
 have ed:Below w2.heap.size w2 w3:=by rw[←cd];exact (Zd _ _).alloc (Za _) _
 have e7:w3.heap.size=w2.heap.size+1:=by rw[←cd];simp
 rw[cd]at ee;obtain⟨arr,b6⟩:∃arr,(Pg.vs (List.replicate 4352 0)++[Value.slice (some ⟨w2.heap.size,0,none⟩) 1 1]).toArray=arr:=⟨_,rfl⟩;have dm:=zT6 w3 ⟨w2.heap.size,0,none⟩;rw[b6]at dm;obtain⟨w4,cw⟩:∃w4,w3.alloc (.cells arr 205)=w4:=⟨_,rfl⟩
 have c7:Rw.At w4 w3.heap.size 205 (Pg.vs (zAQ f 0)++[.slice (some ⟨w2.heap.size,0,none⟩) 1 1]):=by
  rw[←cw,←b6];exact Rw.At.new w3 205 _
 have dk:Below w3.heap.size w3 w4:=by rw[←cw];exact (Zd _ _).alloc (Za _) _
 have e6:w4.heap.size=w3.heap.size+1:=by rw[←cw];simp
 obtain⟨w6,bf,cg,cm⟩:=Pg.Pl.made w4 0;have dz:Below w4.heap.size w4 w6:=((Zd _ _).alloc (Za _) _).trans (zAj cm (by simp) fun q hq=>by cases hq;exact Za _);have b7:Below w3.heap.size w3 w6:=dk.trans (dz.mono dk.size);have b5:Below w2.heap.size w2 w6:=ed.trans (b7.mono ed.size);have cx:=hy' (ao.below b5 hmb (Za _));have cp:=hy' (c7.below dz);have bt:=hy' (zA6 b3 b7 (Za _));have cn:=hy' cg;have et:=hy' (aa.o.trans (b5.mono aa.o.size));have fe:=hy' cd;have e5:=hy' cw;have ag:Hy (w2.heap.size<w3.heap.size∧w3.heap.size<w4.heap.size∧w.heap.size<w2.heap.size):=hy' ⟨by omega,by omega,hmb⟩;have dt:=@JC Tryz.prog;clear ao ah hf cv b3 ed b6 c7 dk cg cm dz b7 b5 cd cw hlt e7 e6 hmb;go_upto_region 11 with (fail)
 go_step;refine zBi rfl _ (zEt 201 rfl _ (zOn _)) ?_;refine zBi rfl _ (zCw 203 1 0 _ rfl (.agg (Pg.vs zAn).toArray) rfl _ ee) ?_;refine zBi rfl _ (zK1 205 1 _ rfl (.slice (some ⟨w2.heap.size,0,none⟩) 1 1) rfl _ dm) ?_;clear ee dm;go_upto_region 12 with (fail)
 rw[e5.o];go_upto_region 13 with (first|(refine zBi rfl _ (zEt 201 rfl _ (zOn _)) ?_)|fail)
 clear dt bf fe e5;have fg:Hy (zAr f 0=[zAn]):=hy' rfl;go_wp2_with fail;go_loopw [53] (fun i wr=>∃(m:Nat) (v:Value),m≤4352∧i=.int .i64 m∧Pg.St w.heap.size w2.heap.size wr w.heap.size f G∧Pg.Pl wr w4.heap.size (zAr f m)∧Rw.At wr w3.heap.size 205 (Pg.vs (zAQ f m)++[v])∧wr.ownsRow w2.heap.size 201 256 v (zAr f m).length (Pg.vs (zAr f m).flatten)∧Below w.heap.size w wr) (fun i _=>4352-(intOf i).toNat)
 case atStart=>exact⟨0,_,Nat.zero_le _,rfl,cx.o,cn.o,cp.o,by rw[fg.o];simpa using bt.o,et.o⟩
 obtain⟨m,v,hm,rfl,ao,dy,c6,bk,ah⟩:=hrel;clear ew e4 HS a6 aa cx cn cp bt et
 by_cases hlt:m<4352
 rotate_left
 · obtain rfl:m=4352:=by omega
   obtain⟨A2,c2,rfl⟩:=zA3 bk;have bo:=hy' c6;have ai:=hy' bk;have ay:=hy' ah;clear ao dy c6 bk ah hlt;go_wp2_with fail;go_ret;refine⟨_,rfl,?_,ay.o⟩;rw[HF.o];refine⟨w3.heap.size,A2,c2,rfl,by have:=ag.o;omega,?_,Sl.of_own ai.o,fun a ha=>?_⟩
   · have:=bo.o;rw[zO5]at this;exact this
   subst ha;have:=(ai.o.lt a.block rfl).1;have:=ag.o;omega
 have mI:(m:Int)<4352:=by omega
 have m0:(0:Int)≤m:=by omega
 have fj:IntKind.i32.wrap (m:Int)=m:=by rw[Qu];omega
 have aw:=ao.look hlt;have au:=hy' ao;have cf:=hy' dy;have bo:=hy' c6;have ai:=hy' bk;have ay:=hy' ah;have fo:=c6.lt;have ef:=zH6 f m;clear ao dy c6 bk ah;rcases hG:G m with _|g
 · rw[hG]at aw;replace aw:(Instr.lookup 229 (.map (some w.heap.size)) (.int .i32 m) false).run Tryz.prog wr=.ok (.pointer none) wr:=aw;obtain⟨s1,s2⟩:=zMt f hlt (au.o.none hlt hG);have S1:=hy' s1;have S2:=hy' s2;clear s1 s2 hG;go_wp2_with fail;exact⟨⟨m+1,v,by omega,by go_num,au.o,by rw[S1.o];exact cf.o,by rw[S2.o];exact bo.o,by rw[S1.o];exact ai.o,ay.o⟩,by simp[intOf];omega⟩
 rw[hG]at aw;replace aw:(Instr.lookup 229 (.map (some w.heap.size)) (.int .i32 m) false).run Tryz.prog wr=.ok (.pointer (some ⟨g,0,none⟩)) wr:=aw;have af:=(au.o.at hlt hG).2.2;have ei:=af.lt;have fq:=(au.o.at hlt hG).2.1;have en:=hy' (Pg.At.load af (zBo f m));have cb:=hy' af;have ak:=cf.o.look (HU.o m);have av:Hy (zAr f (m+1)=Pg.add (zAr f m) (zAc f m)):=hy' rfl;have bs:=hy' (zJ3 f hlt);obtain⟨eh,hold⟩:∃eh,(Pg.vs (zAQ f m))[m]?=some eh:=⟨_,List.getElem?_eq_getElem (by unfold Pg.vs;rw[List.length_map,zAR f (by omega)];exact hlt)⟩;have HOLD:=hy' hold;clear hG af hold
 by_cases hmem:zAc f m∈zAr f m
 · have ar:=hy' (zHL hmem);have bj:zCK (zAr f m) (zAc f m)=some (Pg.at (zAr f m) (zAc f m)):=Zl hmem;have cu:=zPe hmem;have a1:Hy (Pg.at (zAr f (m+1)) (zAc f m)=Pg.at (zAr f m) (zAc f m)):=hy' (by rw[av.o,ar.o]);obtain⟨q,hq⟩:∃q,Pg.at (zAr f m) (zAc f m)=q:=⟨_,rfl⟩;rw[bj,hq]at ak;rw[hq]at cu a1;replace ak:(Instr.lookup 231 (.map (some w4.heap.size)) (.agg (Pg.vs (zAc f m)).toArray) true).run Tryz.prog wr=.ok (.tuple #[.int .i64 q,.bool true]) wr:=ak;have e9:IntKind.u16.wrap (q:Int)=q:=by rw[Qw];omega
   have z0:=zDU bo.o HOLD.o;have z1:=bo.o.frozen m;have gg:=hy' cu;clear hmem bj hq cu;go_wp2_with (first|(refine zFR rfl 201 _ rfl _ _ rfl en.o ?_)|fail);have hb:Below w2.heap.size wr (wr.setCell ⟨w3.heap.size,m,none⟩ (.int .u16 q)):=(Zd _ _).setCell (p:=⟨w3.heap.size,m,none⟩) (Z5 ag.o.1) _;refine⟨⟨m+1,v,by omega,by go_num,au.o.below hb ag.o.2.2 (Za _),?_,?_,?_,ay.o.trans (hb.mono (Z5 ag.o.2.2))⟩,by simp[intOf];omega⟩
   · rw[av.o,ar.o];exact cf.o.grown (Rw.grown_set w3.heap.size m _) (by have:=ag.o.2.1;simp;omega)
   · rw[bs.o,a1.o];have:=bo.o.set m (.int .u16 q);rw[List.set_append_left _ _ (by unfold Pg.vs;rw[List.length_map,zAR f (by omega)];exact hlt)]at this;rw[show Pg.vs ((zAQ f m).set m (q:Int))=(Pg.vs (zAQ f m)).set m (.int .u16 q) by unfold Pg.vs;rw[List.map_set]];exact this
   rw[av.o,ar.o];refine ai.o.kept (Rw.grown_set w3.heap.size m _) (.inr fun e=>?_);exact zAE ai.o (by decide) _ e _ _ bo.o
 have ar:=hy' (zPV hmem);have bj:zCK (zAr f m) (zAc f m)=none:=Zk hmem;have a1:Hy (Pg.at (zAr f (m+1)) (zAc f m)=(zAr f m).length):=hy' (by rw[av.o,ar.o];unfold Pg.at;rw[List.idxOf_append,if_neg hmem];simp);have eg:=hy' hmem;rw[bj]at ak;obtain⟨A2,c2,rfl⟩:=zA3 ai.o;obtain⟨ln,dh⟩:∃ln,(zAr f m).length=ln:=⟨_,rfl⟩;rw[dh]at ai a1 ef bo;replace ak:(Instr.lookup 231 (.map (some w4.heap.size)) (.agg (Pg.vs (zAc f m)).toArray) true).run Tryz.prog wr=.ok (.tuple #[.int .i64 0,.bool false]) wr:=ak;obtain⟨w5,bf,bq,bp⟩:=cf.o.put (HU.o m) hmem;rw[dh]at bf;rw[←av.o]at bq;have z1:=zCy bo.o (n:=4352) (by unfold Pg.vs;rw[List.length_map,zAR f (by omega)]);have dv:Below w2.heap.size wr w5:=zAj bp (by have:=ag.o.1;omega) fun q hq=>by cases hq;have:=ag.o;omega
 have b1:some w4.heap.size≠some w3.heap.size:=by have:=ag.o.2.1;simp;omega
 have az:=bo.o.grown bp b1;have ap:=ai.o.kept bp (.inr (zGL ai.o cf.o));have bu:=cb.o.below' dv fq;have bn:=Pg.At.load (w:=w5.drew) bu (zBo f m);have bc:=zRv w5.drew (zAc f m) (zBo f m);have ft:=az.lt;obtain⟨v8,w8,a8,bi,br⟩:=zOo w2.heap.size w5.drew _ ln _ (zAc f m) (zBo f m) ap (by have:=ag.o.1;show w2.heap.size≤w5.heap.size;omega) (by omega) 203;obtain⟨A8,c8,rfl⟩:=zA3 bi;have ey:(Value.slice A2 ln c2).ownBlock≠some w3.heap.size:=fun e=>zAE ap (by decide) _ e _ _ az
 have bm:=Rw.At.grown (w:=w5.drew) az br ey;have e2:Below w2.heap.size wr w8:=dv.drew.trans (zAj (w:=w5.drew) br (by have:=ag.o.1;show w2.heap.size≤w5.heap.size;omega) fun q hq=>(ap.lt q hq).1);have d0:=zCy az (n:=4352) (by unfold Pg.vs;rw[List.length_map,zAR f (by omega)]);have dl:=az.alloc (.cells (Pg.vs (zAc f m)).toArray 201);have cy:=zI0 w5.drew w3.heap.size 4352 (.slice A2 ln c2) d0;have dc:=zI0 (w5.drew.alloc (.cells (Pg.vs (zAc f m)).toArray 201)) w3.heap.size 4352 (.slice A2 ln c2) (zCy (Rw.At.alloc (w:=w5.drew) az _) (n:=4352) (by unfold Pg.vs;rw[List.length_map,zAR f (by omega)]));have f0:=zCy bm (n:=4352) (by unfold Pg.vs;rw[List.length_map,zAR f (by omega)]);have f1:=bm.frozen 4352;have ck:=Pg.Pl.grown (W:=w5.drew) bq br (fun e=>zGL ap bq e.symm);have ba:=hy' bm;have aj:=hy' bi;have cc:=hy' ck;have eb:=hy' e2;have di:=hy' dh;have e9:IntKind.u16.wrap (ln:Int)=ln:=by rw[Qw];omega
 have fy:=(bm.set 4352 (.slice A8 (ln+1) c8));clear hmem bj bq bp dv az ap bu dl bi br e2 bm ck dh ey b1;go_upto_region 22 with (first|(refine zFR rfl 201 _ rfl _ _ rfl en.o ?_)|fail)
 clear aw ak bf z1;refine JT (by kernel_rfl) ?_;change wpAny _ _ _ _ 13 _ _ (World.drew _)
 with_reducible refine Pg.take 0 (.move (.tmp 7)) (some 82) (138) (.pointer (some ⟨w3.heap.size,0,none⟩)) (by kernel_rfl) (by kernel_rfl) (by kernel_rfl) (by kernel_rfl) (by intro _ _ _ h;with_unfolding_all exact h) (fun o h w=>zF5 _ h _ (by kernel_rfl)) ?_
 with_reducible refine Pg.take 1 (.move (.tmp 7)) (some 83) (138) (.pointer (some ⟨w3.heap.size,0,none⟩)) (by kernel_rfl) (by kernel_rfl) (by kernel_rfl) (by kernel_rfl) (by intro _ _ _ h;with_unfolding_all exact h) (fun o h w=>zF5 _ h _ (by kernel_rfl)) ?_
 with_reducible refine Pg.take 2 (.nilCheck (.tmp 83)) (some 84) (0) (.pointer (some ⟨w3.heap.size,0,none⟩)) (by kernel_rfl) (by kernel_rfl) (by kernel_rfl) (by kernel_rfl) (by intro _ _ _ h;with_unfolding_all exact h) (fun o h w=>zD9 _ h _ (by kernel_rfl)) ?_
 with_reducible refine Pg.take 3 (.fieldAddr 205 (.tmp 84) 1) (some 85) (0) (.pointer (some ⟨w3.heap.size,4352,none⟩)) (by kernel_rfl) (by kernel_rfl) (by kernel_rfl) (by kernel_rfl) (by intro _ _ _ h;with_unfolding_all exact h) (fun o h w=>zCM _ _ _ h (.pointer (some ⟨w3.heap.size,0,none⟩)) (by kernel_rfl) _ (zDC _ _)) ?_
 with_reducible refine Pg.take 5 (.move (.tmp 10)) (some 87) (230) (.pointer (some ⟨g,0,none⟩)) (by kernel_rfl) (by kernel_rfl) (by kernel_rfl) (by kernel_rfl) (by intro _ _ _ h;with_unfolding_all exact h) (fun o h w=>zF5 _ h _ (by kernel_rfl)) ?_
 with_reducible refine Pg.take 6 (.nilCheck (.tmp 87)) (some 88) (0) (.pointer (some ⟨g,0,none⟩)) (by kernel_rfl) (by kernel_rfl) (by kernel_rfl) (by kernel_rfl) (by intro _ _ _ h;with_unfolding_all exact h) (fun o h w=>zD9 _ h _ (by kernel_rfl)) ?_
 refine Xf (rs:=[4,7]) (by kernel_rfl) (by simp) ?_
 with_reducible refine zBM (.load 203 (.tmp 85)) (some 86) (203) (.slice A2 ln c2) w5.drew (by kernel_rfl) (fun o h ht=>zCB _ _ h (.pointer (some ⟨w3.heap.size,4352,none⟩)) (by kernel_rfl) _ cy) ?_ ?_
 · refine Xf (rs:=[7]) (by kernel_rfl) (by simp) ?_
   with_reducible refine zBM (.load 201 (.tmp 88)) (some 89) (201) (.agg (Pg.vs (zAc f m)).toArray) _ (by kernel_rfl) (fun o h ht=>zCB _ _ h (.pointer (some ⟨g,0,none⟩)) (by kernel_rfl) _ bn) ?_ ?_
   · refine Xf (rs:=[8]) (by kernel_rfl) (by simp) ?_
     with_reducible refine zBM (.buildSlice 203 1 #[(0,.tmp 89)]) (some 90) (203) (.slice (some ⟨w5.drew.heap.size,0,none⟩) 1 1) _ (by kernel_rfl) (fun o h ht=>zCw _ _ _ _ h (.agg (Pg.vs (zAc f m)).toArray) (by kernel_rfl) _ bc) ?_ ?_
     · refine Xf (rs:=[9]) (by kernel_rfl) (by simp) ?_
       with_reducible refine zBM (.call { callee:=.builtin .append,args := #[.tmp 86,.tmp 90],argTypes := #[203,203] }) (some 91) (203) _ _ (by kernel_rfl) (fun o h ht=>zDM _ _ _ h (.slice A2 ln c2) (.slice (some ⟨w5.drew.heap.size,0,none⟩) 1 1) (by kernel_rfl) (by kernel_rfl) _ (by rw[ht];exact a8)) ?_ ?_
       · with_reducible refine Pg.take 10 (.nilCheck (.tmp 82)) (some 92) (0) (.pointer (some ⟨w3.heap.size,0,none⟩)) (by kernel_rfl) (by kernel_rfl) (by kernel_rfl) (by kernel_rfl) (by intro _ _ _ h;with_unfolding_all exact h) (fun o h w=>zD9 _ h _ (by kernel_rfl)) ?_
         with_reducible refine Pg.take 11 (.fieldAddr 205 (.tmp 92) 1) (some 93) (0) (.pointer (some ⟨w3.heap.size,4352,none⟩)) (by kernel_rfl) (by kernel_rfl) (by kernel_rfl) (by kernel_rfl) (by intro _ _ _ h;with_unfolding_all exact h) (fun o h w=>zCM _ _ _ h (.pointer (some ⟨w3.heap.size,0,none⟩)) (by kernel_rfl) _ (zDC _ _)) ?_
         refine Xf (rs:=[12]) (by kernel_rfl) (by simp) ?_
         with_reducible refine zHs (.store 203 (.tmp 93) (.tmp 91)) _ (by kernel_rfl) (fun o h=>zEu _ _ _ h (.pointer (some ⟨w3.heap.size,4352,none⟩)) (.slice A8 (ln+1) c8) (by kernel_rfl) (by kernel_rfl) (zEv _ _ _ _ _ _ _ f0 f1)) ?_ ?_
         · refine Kx (by kernel_rfl) ?_ _
           have ae:Rw.At (w8.setCell ⟨w3.heap.size,4352,none⟩ (.slice A8 (ln+1) c8)) w3.heap.size 205 (Pg.vs (zAQ f m)++[.slice A8 (ln+1) c8]):=by
            have hl:(Pg.vs (zAQ f m)).length=4352:=by unfold Pg.vs;rw[List.length_map,zAR f (by omega)]
            have:=ba.o.set 4352 (.slice A8 (ln+1) c8);rw[Y9 _ _ (by rw[hl];exact Za _),hl,Yu]at this;exact this
           have z0:=zDU ae HOLD.o;have z1:=ae.frozen m;have eu:=ae.lt;have bh:=hy' ae;clear ae f0 f1 bn bc cy dc a8;go_wp2_with fail;have b2:Below w2.heap.size wr ((w8.setCell ⟨w3.heap.size,4352,none⟩ (.slice A8 (ln+1) c8)).setCell ⟨w3.heap.size,m,none⟩ (.int .u16 ln)):=(eb.o.setCell (p:=⟨w3.heap.size,4352,none⟩) (Z5 ag.o.1) _).setCell (p:=⟨w3.heap.size,m,none⟩) (Z5 ag.o.1) _;have aq:(Value.slice A8 (ln+1) c8).ownBlock≠some w3.heap.size:=fun e=>zAE aj.o (by decide) _ e _ _ ba.o
           refine⟨⟨m+1,.slice A8 (ln+1) c8,by omega,by go_num,au.o.below b2 ag.o.2.2 (Za _),?_,?_,?_,ay.o.trans (b2.mono (Z5 ag.o.2.2))⟩,by simp[intOf];omega⟩
           · exact (cc.o.grown (Rw.grown_set w3.heap.size 4352 _) (by have:=ag.o.2.1;simp;omega)).grown (Rw.grown_set w3.heap.size m _) (by have:=ag.o.2.1;simp;omega)
           · rw[bs.o,a1.o];have:=bh.o.set m (.int .u16 ln);rw[List.set_append_left _ _ (by unfold Pg.vs;rw[List.length_map,zAR f (by omega)];exact hlt)]at this;rw[show Pg.vs ((zAQ f m).set m (ln:Int))=(Pg.vs (zAQ f m)).set m (.int .u16 ln) by unfold Pg.vs;rw[List.map_set]];exact this
           rw[av.o,ar.o,List.length_append,di.o,List.flatten_append,show Pg.vs ((zAr f m).flatten++[zAc f m].flatten)=Pg.vs (zAr f m).flatten++Pg.vs (zAc f m) by unfold Pg.vs;simp];exact (aj.o.kept (Rw.grown_set w3.heap.size 4352 _) (.inr aq)).kept (Rw.grown_set w3.heap.size m _) (.inr aq)
         exact Y6
       exact Y6
     exact Y6
   exact Y6
 with_reducible refine zBM (.load 201 (.tmp 88)) (some 89) (201) (.agg (Pg.vs (zAc f m)).toArray) _ (by kernel_rfl) (fun o h ht=>zCB _ _ h (.pointer (some ⟨g,0,none⟩)) (by kernel_rfl) _ bn) ?_ ?_
 · refine Xf (rs:=[4,8]) (by kernel_rfl) (by simp) ?_
   with_reducible refine zBM (.load 203 (.tmp 85)) (some 86) (203) (.slice A2 ln c2) w5.drew (by kernel_rfl) (fun o h ht=>zCB _ _ h (.pointer (some ⟨w3.heap.size,4352,none⟩)) (by kernel_rfl) _ cy) ?_ ?_
   · refine Xf (rs:=[8]) (by kernel_rfl) (by simp) ?_
     with_reducible refine zBM (.buildSlice 203 1 #[(0,.tmp 89)]) (some 90) (203) (.slice (some ⟨w5.drew.heap.size,0,none⟩) 1 1) _ (by kernel_rfl) (fun o h ht=>zCw _ _ _ _ h (.agg (Pg.vs (zAc f m)).toArray) (by kernel_rfl) _ bc) ?_ ?_
     · refine Xf (rs:=[9]) (by kernel_rfl) (by simp) ?_
       with_reducible refine zBM (.call { callee:=.builtin .append,args := #[.tmp 86,.tmp 90],argTypes := #[203,203] }) (some 91) (203) _ _ (by kernel_rfl) (fun o h ht=>zDM _ _ _ h (.slice A2 ln c2) (.slice (some ⟨w5.drew.heap.size,0,none⟩) 1 1) (by kernel_rfl) (by kernel_rfl) _ (by rw[ht];exact a8)) ?_ ?_
       · with_reducible refine Pg.take 10 (.nilCheck (.tmp 82)) (some 92) (0) (.pointer (some ⟨w3.heap.size,0,none⟩)) (by kernel_rfl) (by kernel_rfl) (by kernel_rfl) (by kernel_rfl) (by intro _ _ _ h;with_unfolding_all exact h) (fun o h w=>zD9 _ h _ (by kernel_rfl)) ?_
         with_reducible refine Pg.take 11 (.fieldAddr 205 (.tmp 92) 1) (some 93) (0) (.pointer (some ⟨w3.heap.size,4352,none⟩)) (by kernel_rfl) (by kernel_rfl) (by kernel_rfl) (by kernel_rfl) (by intro _ _ _ h;with_unfolding_all exact h) (fun o h w=>zCM _ _ _ h (.pointer (some ⟨w3.heap.size,0,none⟩)) (by kernel_rfl) _ (zDC _ _)) ?_
         refine Xf (rs:=[12]) (by kernel_rfl) (by simp) ?_
         with_reducible refine zHs (.store 203 (.tmp 93) (.tmp 91)) _ (by kernel_rfl) (fun o h=>zEu _ _ _ h (.pointer (some ⟨w3.heap.size,4352,none⟩)) (.slice A8 (ln+1) c8) (by kernel_rfl) (by kernel_rfl) (zEv _ _ _ _ _ _ _ f0 f1)) ?_ ?_
         · refine Kx (by kernel_rfl) ?_ _
           have ae:Rw.At (w8.setCell ⟨w3.heap.size,4352,none⟩ (.slice A8 (ln+1) c8)) w3.heap.size 205 (Pg.vs (zAQ f m)++[.slice A8 (ln+1) c8]):=by
            have hl:(Pg.vs (zAQ f m)).length=4352:=by unfold Pg.vs;rw[List.length_map,zAR f (by omega)]
            have:=ba.o.set 4352 (.slice A8 (ln+1) c8);rw[Y9 _ _ (by rw[hl];exact Za _),hl,Yu]at this;exact this
           have z0:=zDU ae HOLD.o;have z1:=ae.frozen m;have eu:=ae.lt;have bh:=hy' ae;clear ae f0 f1 bn bc cy dc a8;go_wp2_with fail;have b2:Below w2.heap.size wr ((w8.setCell ⟨w3.heap.size,4352,none⟩ (.slice A8 (ln+1) c8)).setCell ⟨w3.heap.size,m,none⟩ (.int .u16 ln)):=(eb.o.setCell (p:=⟨w3.heap.size,4352,none⟩) (Z5 ag.o.1) _).setCell (p:=⟨w3.heap.size,m,none⟩) (Z5 ag.o.1) _;have aq:(Value.slice A8 (ln+1) c8).ownBlock≠some w3.heap.size:=fun e=>zAE aj.o (by decide) _ e _ _ ba.o
           refine⟨⟨m+1,.slice A8 (ln+1) c8,by omega,by go_num,au.o.below b2 ag.o.2.2 (Za _),?_,?_,?_,ay.o.trans (b2.mono (Z5 ag.o.2.2))⟩,by simp[intOf];omega⟩
           · exact (cc.o.grown (Rw.grown_set w3.heap.size 4352 _) (by have:=ag.o.2.1;simp;omega)).grown (Rw.grown_set w3.heap.size m _) (by have:=ag.o.2.1;simp;omega)
           · rw[bs.o,a1.o];have:=bh.o.set m (.int .u16 ln);rw[List.set_append_left _ _ (by unfold Pg.vs;rw[List.length_map,zAR f (by omega)];exact hlt)]at this;rw[show Pg.vs ((zAQ f m).set m (ln:Int))=(Pg.vs (zAQ f m)).set m (.int .u16 ln) by unfold Pg.vs;rw[List.map_set]];exact this
           rw[av.o,ar.o,List.length_append,di.o,List.flatten_append,show Pg.vs ((zAr f m).flatten++[zAc f m].flatten)=Pg.vs (zAr f m).flatten++Pg.vs (zAc f m) by unfold Pg.vs;simp];exact (aj.o.kept (Rw.grown_set w3.heap.size 4352 _) (.inr aq)).kept (Rw.grown_set w3.heap.size m _) (.inr aq)
         exact Y6
       exact Y6
     exact Y6
   with_reducible refine zBM (.buildSlice 203 1 #[(0,.tmp 89)]) (some 90) (203) (.slice (some ⟨w5.drew.heap.size,0,none⟩) 1 1) _ (by kernel_rfl) (fun o h ht=>zCw _ _ _ _ h (.agg (Pg.vs (zAc f m)).toArray) (by kernel_rfl) _ bc) ?_ ?_
   · refine Xf (rs:=[4]) (by kernel_rfl) (by simp) ?_
     with_reducible refine zBM (.load 203 (.tmp 85)) (some 86) (203) (.slice A2 ln c2) _ (by kernel_rfl) (fun o h ht=>zCB _ _ h (.pointer (some ⟨w3.heap.size,4352,none⟩)) (by kernel_rfl) _ dc) ?_ ?_
     · refine Xf (rs:=[9]) (by kernel_rfl) (by simp) ?_
       with_reducible refine zBM (.call { callee:=.builtin .append,args := #[.tmp 86,.tmp 90],argTypes := #[203,203] }) (some 91) (203) _ _ (by kernel_rfl) (fun o h ht=>zDM _ _ _ h (.slice A2 ln c2) (.slice (some ⟨w5.drew.heap.size,0,none⟩) 1 1) (by kernel_rfl) (by kernel_rfl) _ (by rw[ht];exact a8)) ?_ ?_
       · with_reducible refine Pg.take 10 (.nilCheck (.tmp 82)) (some 92) (0) (.pointer (some ⟨w3.heap.size,0,none⟩)) (by kernel_rfl) (by kernel_rfl) (by kernel_rfl) (by kernel_rfl) (by intro _ _ _ h;with_unfolding_all exact h) (fun o h w=>zD9 _ h _ (by kernel_rfl)) ?_
         with_reducible refine Pg.take 11 (.fieldAddr 205 (.tmp 92) 1) (some 93) (0) (.pointer (some ⟨w3.heap.size,4352,none⟩)) (by kernel_rfl) (by kernel_rfl) (by kernel_rfl) (by kernel_rfl) (by intro _ _ _ h;with_unfolding_all exact h) (fun o h w=>zCM _ _ _ h (.pointer (some ⟨w3.heap.size,0,none⟩)) (by kernel_rfl) _ (zDC _ _)) ?_
         refine Xf (rs:=[12]) (by kernel_rfl) (by simp) ?_
         with_reducible refine zHs (.store 203 (.tmp 93) (.tmp 91)) _ (by kernel_rfl) (fun o h=>zEu _ _ _ h (.pointer (some ⟨w3.heap.size,4352,none⟩)) (.slice A8 (ln+1) c8) (by kernel_rfl) (by kernel_rfl) (zEv _ _ _ _ _ _ _ f0 f1)) ?_ ?_
         · refine Kx (by kernel_rfl) ?_ _
           have ae:Rw.At (w8.setCell ⟨w3.heap.size,4352,none⟩ (.slice A8 (ln+1) c8)) w3.heap.size 205 (Pg.vs (zAQ f m)++[.slice A8 (ln+1) c8]):=by
            have hl:(Pg.vs (zAQ f m)).length=4352:=by unfold Pg.vs;rw[List.length_map,zAR f (by omega)]
            have:=ba.o.set 4352 (.slice A8 (ln+1) c8);rw[Y9 _ _ (by rw[hl];exact Za _),hl,Yu]at this;exact this
           have z0:=zDU ae HOLD.o;have z1:=ae.frozen m;have eu:=ae.lt;have bh:=hy' ae;clear ae f0 f1 bn bc cy dc a8;go_wp2_with fail;have b2:Below w2.heap.size wr ((w8.setCell ⟨w3.heap.size,4352,none⟩ (.slice A8 (ln+1) c8)).setCell ⟨w3.heap.size,m,none⟩ (.int .u16 ln)):=(eb.o.setCell (p:=⟨w3.heap.size,4352,none⟩) (Z5 ag.o.1) _).setCell (p:=⟨w3.heap.size,m,none⟩) (Z5 ag.o.1) _;have aq:(Value.slice A8 (ln+1) c8).ownBlock≠some w3.heap.size:=fun e=>zAE aj.o (by decide) _ e _ _ ba.o
           refine⟨⟨m+1,.slice A8 (ln+1) c8,by omega,by go_num,au.o.below b2 ag.o.2.2 (Za _),?_,?_,?_,ay.o.trans (b2.mono (Z5 ag.o.2.2))⟩,by simp[intOf];omega⟩
           · exact (cc.o.grown (Rw.grown_set w3.heap.size 4352 _) (by have:=ag.o.2.1;simp;omega)).grown (Rw.grown_set w3.heap.size m _) (by have:=ag.o.2.1;simp;omega)
           · rw[bs.o,a1.o];have:=bh.o.set m (.int .u16 ln);rw[List.set_append_left _ _ (by unfold Pg.vs;rw[List.length_map,zAR f (by omega)];exact hlt)]at this;rw[show Pg.vs ((zAQ f m).set m (ln:Int))=(Pg.vs (zAQ f m)).set m (.int .u16 ln) by unfold Pg.vs;rw[List.map_set]];exact this
           rw[av.o,ar.o,List.length_append,di.o,List.flatten_append,show Pg.vs ((zAr f m).flatten++[zAc f m].flatten)=Pg.vs (zAr f m).flatten++Pg.vs (zAc f m) by unfold Pg.vs;simp];exact (aj.o.kept (Rw.grown_set w3.heap.size 4352 _) (.inr aq)).kept (Rw.grown_set w3.heap.size m _) (.inr aq)
         exact Y6
       exact Y6
     exact Y6
   exact Y6
 exact Y6
end Go.Proofs.YtdbpjmfflofadaaGreatDoor
namespace Go.Proofs.YtdbpjmfflofadaaGreatDoor
open Go.RowKit Go.Lib Go.Sort
theorem zJn {w wr:World} {n blk off:Nat} {dk:Array Int} {i:Nat} (hi:i<dk.size) (aa:wr=putRow zAX (Sort.ahead w n) blk off dk) (x:Int) :
 (wr.setCell ⟨blk,off+i,none⟩ (zAX x)).drew=putRow zAX (Sort.ahead w (n+1)) blk off (dk.setIfInBounds i x):=by
 subst aa;rw[putRow_set zAX _ blk off dk i x hi,←ahead_drew];rfl
theorem zDN (blk off cap:Nat) (d:Array Int) (w:World) (hH:Holds zAX w blk off d) (aq:d.size≤9223372036854775807) (ah:d.size≤cap) :
 Calls Tryz.prog 95 #[.slice (some ⟨blk,off,none⟩) d.size cap] w fun e w'=>e=.returned (.slice (some ⟨blk,off,none⟩) (compactUpTo d d.size).length cap)∧∃q,w'=putRow zAX (Sort.ahead w q) blk off (compactUpTo d d.size++List.replicate (d.size-(compactUpTo d d.size).length) 0).toArray:=by
 have same:∀q,(∀j,j<d.size→keeps d j=true)→(compactUpTo d d.size).length=d.size∧w.drewN q=putRow zAX (Sort.ahead w q) blk off (compactUpTo d d.size++List.replicate (d.size-(compactUpTo d d.size).length) 0).toArray:=by
  intro q aa;have e:compactUpTo d d.size=d.toList:=by rw[compactUpTo_all d _ aa,range_map_get]
  rw[e];refine⟨by simp,?_⟩;simp only[Xk,Yu,JQ,ZC,Array.toArray_toList];exact (putRow_self zAX (Sort.ahead w q) blk off d (holds_ahead zAX w q blk off d hH)).symm
 have HS:Aside (∀q,(∀j,j<d.size→keeps d j=true)→(compactUpTo d d.size).length=d.size∧w.drewN q=putRow zAX (Sort.ahead w q) blk off (compactUpTo d d.size++List.replicate (d.size-(compactUpTo d d.size).length) 0).toArray):=same;clear same
 by_cases h2:d.size<2
 · have HH:Aside (Holds zAX w blk off d):=hH;clear hH;go_enter Tryz.func95,Tryz.ntmps95;go_wp2;go_ret;obtain⟨e1,e2⟩:=HS.out 0 (fun j hj=>keeps_lt_one d j (by omega));exact⟨by rw[e1];rfl,0,e2⟩
 go_enter Tryz.func95,Tryz.ntmps95;go_wp2;go_loopg [3] d.size (fun g s3 wr=>∃k q:Nat,1≤k∧k≤d.size∧d.size-k≤g∧s3=.int .i64 k∧wr=w.drewN q∧∀j,j<k→keeps d j=true)
 case atStart=>exact⟨1,0,Za _,by omega,by omega,rfl,rfl,keeps_lt_one d⟩
 obtain⟨k,q,aj,hk,hg,rfl,rfl,aa⟩:=hrel
 by_cases hlt:k<d.size
 rotate_left
 · have:k=d.size:=by omega
   subst this;have HH:Aside (Holds zAX w blk off d):=hH;clear hH;go_wp2;go_ret;obtain⟨e1,e2⟩:=HS.out q aa;exact⟨by rw[e1];rfl,q,e2⟩
 obtain⟨c1,f1⟩:=hH k hlt;obtain⟨c0,f0⟩:=hH (k-1) (by omega);have A:Aside (∀j,j<k→keeps d j=true):=aa;have HH:Aside (Holds zAX w blk off d):=hH;clear aa hH;generalize hx:d[k]! = x at c1;generalize hy:d[k-1]! = y at c0;have B:Aside (d[k]! = x∧d[k-1]! = y):=⟨hx,hy⟩;clear hx hy
 by_cases hdup:x=y
 rotate_left
 · go_wp2_with fail;go_region;go_wp2;go_roundg (d.size-(k+1))
   case measure=>omega
   refine⟨k+1,q+1,by omega,by omega,Za _,by go_num,rfl,fun j hj=>?_⟩
   by_cases e:j=k
   · subst e;exact keeps_pos (by rw[B.out.1,B.out.2];exact hdup)
   exact A.out j (by omega)
 subst hdup;go_wp2_with fail;go_region;go_wp2;clear c0 c1 f0 f1;go_loopg [3,5] d.size (fun g s3 s5 wr=>∃(kk k2 q2:Nat) (dk:Array Int),s3=.int .i64 kk∧s5=.int .i64 k2∧1≤k2∧k+k2≤d.size∧d.size-(k+k2)≤g∧wr=putRow zAX (Sort.ahead w q2) blk off dk∧CompInv d (k+k2) kk dk)
 case atStart=>exact⟨k,1,q+1,d,rfl,rfl,Za _,by omega,by omega,(putRow_self zAX (Sort.ahead w (q+1)) blk off d (holds_ahead zAX w (q+1) blk off d HH.out)).symm,CompInv.start A.out (keeps_neg (by omega) (by rw[B.out.1,B.out.2]))⟩
 obtain⟨kk,k2,q2,dk,rfl,rfl,h1,hle,ap,af,hI⟩:=hrel;have ak:=hI.lt;have ai:=hI.size;have ae:Holds zAX wr blk off dk:=by rw[af];exact holds_putRow zAX _ blk off d dk (holds_ahead zAX w q2 blk off d HH.out) ai
 have W2:Aside (wr=putRow zAX (Sort.ahead w q2) blk off dk):=af;have I2:Aside (CompInv d (k+k2) kk dk):=hI;clear af
 by_cases hlt2:k+k2<d.size
 · obtain⟨cm,_⟩:=ae (k+k2) (by omega);obtain⟨cp,_⟩:=ae (k+k2-1) (by omega);obtain⟨ck,fk⟩:=ae kk (by omega);rw[hI.high (k+k2) (by omega),show off+(k+k2)=off+k+k2 by omega]at cm;rw[hI.high (k+k2-1) (by omega),show off+(k+k2-1)=off+k+(k2-1) by omega]at cp;clear ae hI;generalize hu:d[k+k2]! = u at cm;generalize hv:d[k+k2-1]! = v at cp;generalize dk[kk]! = old at ck;have C:Aside (d[k+k2]! = u∧d[k+k2-1]! = v):=⟨hu,hv⟩;clear hu hv
   by_cases huv:u=v
   · subst huv;go_wp2_with fail;go_region;go_wp2;go_roundg (d.size-(k+(k2+1)))
     case rel=>exact⟨kk,k2+1,q2+1,dk,rfl,by go_num,by omega,by omega,Za _,by rw[W2.out];rfl,I2.out.skip (keeps_neg (by omega) (by rw[C.out.1,C.out.2]))⟩
     omega
   go_wp2_with fail;go_region;go_wp2;go_roundg (d.size-(k+(k2+1)))
   case rel=>exact⟨kk+1,k2+1,q2+1,dk.setIfInBounds kk u,by go_num,by go_num,by omega,by omega,Za _,zJn (by omega) W2.out u,by have:=I2.out.keep hlt2 (keeps_pos (by rw[C.out.1,C.out.2];exact huv));rwa [C.out.1]at this⟩
   omega
 have ag:k+k2=d.size:=by omega
 have ao:∀ty,(Builtin.clear_ #[79] ty #[.slice (some ⟨blk,off+kk,none⟩) (d.size-kk) (cap-kk)]).run Tryz.prog wr=.ok (.tuple #[]) (wr.setCells blk (off+kk) (List.replicate (d.size-kk) (zAX 0))) :=
  fun ty=>Lib.run_clear_slice wr _ _ ty _ Tryz.underlying79 (fun w=>(by kernel_rfl:(zeroValue 21).run Tryz.prog w=.ok (Value.int .i32 0) w)) rfl rfl blk (off+kk) _ _ (by omega) (fun j hj=>by rw[show off+kk+j=off+(kk+j) by omega,(ae (kk+j) (by omega)).1];rfl) (fun j hj=>by rw[show off+kk+j=off+(kk+j) by omega];exact (ae (kk+j) (by omega)).2)
 clear ae hI;go_wp2;go_ret;have hI:=I2.out;rw[ag]at hI;refine⟨by rw[hI.len];rfl,q2,?_⟩;rw[hI.len,←hI.done 0,←putRow_setCells zAX _ blk off _ dk kk (by simp;omega),←W2.out,J1]
theorem zF6 (blk off cap:Nat) (zs:List Int) (w:World) (hH:Holds (Value.int .i32) w blk off zs.toArray) (ae:zs.length≤9223372036854775807) (aa:zs.length≤cap) :
 Calls Tryz.prog 95 #[.slice (some ⟨blk,off,none⟩) zs.length cap] w fun e w'=>e=.returned (.slice (some ⟨blk,off,none⟩) (Lib.compact zs).length cap)∧∃q,w'=putRow (Value.int .i32) (Sort.ahead w q) blk off (Lib.compact zs++List.replicate (zs.length-(Lib.compact zs).length) 0).toArray:=by
 have h:=zDN blk off cap zs.toArray w hH (by simpa using ae) (by simpa using aa);simpa [Lib.compact] using h
theorem zDa (a:Option Addr) (cap:Nat) (w:World) :
 Calls Tryz.prog 95 #[.slice a 0 cap] w fun e w'=>e=.returned (.slice a 0 cap)∧w'=w:=by
 go_enter Tryz.func95,Tryz.ntmps95;go_wp2;go_ret;exact⟨rfl,rfl⟩
end Go.Proofs.YtdbpjmfflofadaaGreatDoor
namespace Go.Proofs.YtdbpjmfflofadaaGreatDoor
open Go.RowKit Go.Sort
theorem zT7 {w:World} {g n:Nat} {aa:Array Value} {e:TypeId} {fr:Nat × Nat} (d:Array Int) (hb:w.heap[g]?=some (.cells aa e fr)) :
 (putRow (Value.int .i32) (Sort.ahead w n) g 0 d).heap[g]?=some (.cells (putCells (Value.int .i32) 0 d aa) e fr):=by
 simp[putRow,mapBlock,Sort.ahead,YS,hb,onCells]
theorem zSs {w:World} {g n base:Nat} (d:Array Int) (hg:base≤g):RowKit.Below base w (putRow (Value.int .i32) (Sort.ahead w n) g 0 d):=by
 refine⟨rfl,rfl,rfl,by simp,fun k hk=>?_⟩;have:g≠k:=by omega
 simp[putRow,mapBlock,Sort.ahead,YS,this]
theorem zGM (l:List Int):(Lib.compact l).length≤l.length:=by
 unfold Lib.compact Lib.compactUpTo;rw[Ze];exact Zh (XR _ _) (by simp)
theorem zLw (A:Option Addr) (n c base e:Nat) (l:List Int) (w:World) (hn:l.length=n) (ai:n≤1000000) (aa:w.ownsRow base e 1 (.slice A n c) n (l.map (Value.int .i32))) (af:base≤w.heap.size) :
 Calls Tryz.prog 95 #[.slice A n c] w fun r w'=>∃A' c',r=.returned (.slice A' (Lib.compact l).length c')∧Sl w' w'.heap.size A' ((Lib.compact l).map (Value.int .i32))∧RowKit.Below base w w':=by
 subst hn;rcases aa.2 with ⟨hv,h0⟩|⟨g,cap,ae,hv,hg,hb,h1,h2,h3,h4⟩
 · simp only[ZX]at hv;obtain⟨rfl,_,rfl⟩:=hv;have hl:l=[]:=ZK h0;subst hl;refine (zDa none 0 w).mono fun r w' hh=>?_
   obtain⟨hr,hw⟩:=hh;subst hw;exact⟨none,0,by rw[hr];rfl,Sl.nil _ _ _,Zd _ _⟩
 simp only[ZX]at hv;obtain⟨rfl,_,rfl⟩:=hv;rw[Y0]at h4;have ah:g<w.heap.size:=(Array.getElem?_eq_some_iff.1 hb).1;refine (zF6 g 0 c l w (R.holds hb h4) (by omega) h1).mono fun r w' hh=>?_
 obtain⟨hr,q,hw⟩:=hh;subst hw;have ak:=zGM l;refine⟨_,_,hr,?_,zSs _ hg⟩;intro hx;rw[Ze]at hx;refine⟨g,0,rfl,by simpa using ah,fun i hi=>?_⟩;rw[Ze]at hi;have aj:ae.size=c:=by rw[h3,Y0]
 have ag:i<ae.size:=by omega
 have hd:i<(Lib.compact l++List.replicate (l.length-(Lib.compact l).length) 0).toArray.size:=by simp;omega
 simp only[World.cell?,zT7 _ hb,Z4,JZ,ZF,Ye];rw[Zt,Zb hi];simp only[putCells,Array.getElem?_mapIdx];rw[Xr ag];simp only[Zw,Ji,Zq,Qc,Z4];rw[Zl hd,Kb _ i hd];simp[List.getElem_append,hi]
end Go.Proofs.YtdbpjmfflofadaaGreatDoor
namespace Go.Proofs.YtdbpjmfflofadaaGreatDoor
open Go.RowKit
theorem zQe {cs:List Int} {i:Nat} {c:Int} (h:cs[i]?=some c):zEU (cs.take (i+1)) []=C.step C.isC (zEU (cs.take i) []) c (c+1):=by
 unfold zEU;rw[Zy,h,Y4];rfl
theorem C.step_last {acc:List Int} {k:Nat} {c b:Int} (hp:C.isC c=true) (hl:acc.length=k+1) (h:acc[k]?=some c):C.step C.isC acc c b=acc.set k b:=by
 unfold C.step;rw[Zl hp,Zl (by rw[QU,hl];exact h)];rcases YT acc with rfl|⟨l2,e,rfl⟩
 · simp at hl
 rw[YU]at *;have:l2.length=k:=by simpa using hl
 subst this;simp
theorem zDb (A:Option Addr) (n c B:Nat) (l:List Int) (w:World) (hn:l.length=n) (cm:n≤400000) (hB:B≤w.heap.size) (hA:Sl w B A (l.map (Value.int .i32))) :
 Calls Tryz.prog 55 #[.slice A n c] w (zTF (C.chars l) w):=by
 have HN:=hy' hn;obtain⟨b2,b8⟩:=zIX l;obtain⟨cs,hcs⟩:∃cs,zEV l=cs:=⟨_,rfl⟩;have bc:(l.mergeSort fun x y=>decide (x≤y)).length=n:=by simp[hn]
 have bf:Lib.compact (l.mergeSort fun x y=>decide (x≤y))=cs:=by
  rw[←hcs];unfold Lib.compact zEV;rw[bc,hn]
 have av:C.chars l=zEU cs []:=by unfold C.chars;rw[hcs]
 rw[av];obtain⟨m,hm⟩:∃m,cs.length=m:=⟨_,rfl⟩
 have hmn:m≤400000:=by
  have h:=zGM (l.mergeSort fun x y=>decide (x≤y));rw[bf,bc,hm]at h;omega
 have HM:=hy' hm;have b7:=hy' bc;have bw:=hy' bf;have bn:Below w.heap.size w (w.alloc (.cells #[.slice none 0 0] 90)):=(Zd _ _).alloc (Za _) _;have bx:=hy' (hA.belowN bn hB (Za _));have cr:w.heap.size+1≤(w.alloc (.cells #[.slice none 0 0] 90)).heap.size:=by simp
 obtain⟨j0,hj0,bu,bq,bp⟩:=Z9 zCv;clear hn hcs bc bf av hm b2 b8;go_enter Tryz.func55,Tryz.ntmps55;go_wp2_with fail;refine (zC0 A n c B l _ HN.o (by omega) (by omega) bx.out).mono ?_;rintro e w1 ⟨A1,c1,rfl,ai,a8⟩;have ap:=hy' ai;clear ai;go_wp2_with fail;refine (R.sort_any _ _ _ n l _ HN.o (by omega) ap.out a8.size).mono ?_;rintro e w2 ⟨rfl,aa,ar⟩;have au:=hy' aa;clear aa;go_wp2_with fail;refine (zLw A1 n c1 _ _ (l.mergeSort fun x y=>decide (x≤y)) _ b7.o (by omega) au.out (Zh a8.size ar.size)).mono ?_;rw[bw.o];rintro e w3 ⟨A3,c3,rfl,bs,bt⟩;rw[HM.o];have b1:=hy' bs;have a7:=(a8.trans ar).trans bt;clear bs;go_wp2;go_loopw [4,15] (fun vo vi wr=>∃(i:Nat) (acc:List Int),i≤m∧vi=.int .i64 i∧acc=zEU (cs.take i) []∧acc.length≤2*i∧wr.ownsRow w3.heap.size 21 1 vo acc.length (acc.map (Value.int .i32))∧Below w3.heap.size w3 wr) (fun _ vi _=>m-(intOf vi).toNat)
 case atStart=>exact⟨0,[],by omega,rfl,rfl,Zq _,ZG _ _ _ _,Zd _ _⟩
 obtain⟨i,acc,hi,rfl,af,bg,ae,ak⟩:=hrel;obtain⟨uu,rfl⟩:∃uu:World,uu=wr:=⟨_,rfl⟩;obtain⟨q,hq⟩:∃q,acc.length=q:=⟨_,rfl⟩;rw[hq]at ae bg;have HQ:=hy' hq;have b6:=hy' af;have bo:w3.heap.size≤uu.heap.size:=ak.size;obtain⟨A4,c4,rfl⟩:=zA3 ae
 by_cases hlt:i<m
 rotate_left
 · obtain rfl:i=m:=by omega
   have az:acc=zEU cs []:=by rw[af,Zi (by rw[HM.o];exact Za _)]
   have br:=a7.trans (ak.mono (Zh a8.size (Zh ar.size bt.size)));have ao:=(br.block w.heap.size (by omega)).trans (ZW w _);obtain⟨cc,ck⟩:=zIA ao 0;simp only[Qt,YX]at cc;have bh:=hy' ao;have b9:w.heap.size<w3.heap.size:=by have:=a7.size;omega
   have a1:=hy' az;clear ao af az hq;go_wp2;have bi:=zSf (v:=.slice A4 q c4) bh.o;refine YD (results_cell_row rfl _ _ w.heap.size _ _ _ _ rfl bi Tryz.underlying90 rfl (by kernel_rfl)) rfl ?_;refine⟨A4,c4,by rw[←a1.o,HQ.o],?_,(bn.trans (br.mono (by omega))).setCell (by simp) _⟩;rw[←a1.o,HQ.o];exact own_base (Yb ae (by omega) _) (by omega)
 obtain⟨ch,av⟩:∃ch,cs[i]?=some ch:=⟨_,Zb (by rw[HM.o];omega)⟩;have bl:=zQe av;rw[←af]at bl;have ba:=hy' bl;obtain⟨g,o,rfl,cd,cb,_⟩:=b1.o.ints av;rw[←(zAU ak).1 _ _ cd]at cb;have n0:(0:Int)≤(i:Int):=by omega
 have n1:(i:Int)<m:=by omega
 clear bl av af hq;rcases hic:C.isC ch with _|_
 · have b4:=hy' (zMi (acc:=acc) (b:=ch+1) hic);have ax:=hy' hic;clear hic;go_wp2_with (go_at_call 38;refine (zBv _ _).mono ?_;rw[ax.o];rintro e w' ⟨rfl,rfl⟩);refine⟨⟨i+1,acc,by omega,by go_num,by rw[ba.o,b4.o],by rw[HQ.o];omega,by rw[HQ.o];exact ae,ak⟩,by simp[intOf];omega⟩
 have b5:0≤ch∧ch≤1114111:=by simp[C.isC]at hic;omega
 obtain⟨cp,cg⟩:=b5;have ax:=hy' hic;rcases YM q with hz|hz
 · subst hz;have aq:=hy' (zKm (p:=C.isC) (acc:=acc) (b:=ch+1) hic (by rw[ZK HQ.o];simp));clear hic;have hZ:=hy' (Sl.lit (w:=uu.alloc (.cells #[.int .i32 ch,.int .i32 (ch+1)] 21)) (A:=some ⟨uu.heap.size,0,none⟩) (xs:=[.int .i32 ch,.int .i32 (ch+1)]) rfl 21 (0,0) (ZW uu _));have aa:=hy' (zA6 ae ((Zd _ _).alloc (Za _) (.cells #[.int .i32 ch,.int .i32 (ch+1)] 21)) (Za _));have bj:w3.heap.size≤(uu.alloc (.cells #[.int .i32 ch,.int .i32 (ch+1)] 21)).heap.size:=by simp;omega
   have aj:w3.heap.size≤uu.heap.size:=bo;go_wp2_with (first|(go_at_call 38;refine (zBv _ _).mono ?_;rw[ax.o];rintro e w' ⟨rfl,rfl⟩)|(at_builtin;refine zAh _ rfl _ _ _ rfl w3.heap.size 21 j0 _ 1 4 Tryz.underlying79 hj0 bu bq bp rfl (by omega) _ 0 _ rfl aa.out _ (some ⟨uu.heap.size,0,none⟩) 2 2 [.int .i32 ch,.int .i32 (ch+1)] rfl rfl hZ.out (by simp[Value.oneCell']) (by simp only[maxLen];omega) (by omega) bj ?_;intro v1 w5 ag ar aw));refine⟨⟨i+1,acc++[ch,ch+1],by omega,by go_num,by rw[ba.o,aq.o],by rw[Zc,HQ.o];simp;omega,?_,(ak.alloc aj _).trans ar⟩,by simp[intOf];omega⟩;rw[Zc,HQ.o,ZL];exact ag
 obtain⟨k,rfl⟩:∃k,q=k+1:=⟨q-1,by omega⟩;obtain⟨e0,bb⟩:∃e0,acc[k]?=some e0:=⟨_,Zb (by rw[HQ.o];omega)⟩;have ah:acc.getLast?=some e0:=by rw[QU,HQ.o];exact bb
 obtain⟨g7,o7,rfl,cq,bz,_⟩:=(Sl.of_own ae).ints bb;obtain⟨rfl,cj,cn,bm⟩:=zFy ae;simp only[Z4]at bz;have ct:=bm k;have q0:(0:Int)≤(k:Int):=by omega
 have qb:(k:Int)≤1000000:=by omega
 have b3:=hy' bb;have ay:=hy' ah;clear bm bb ah
 by_cases hea:e0=ch
 · subst hea;have cf:=hy' (C.step_last (b:=e0+1) hic HQ.o b3.o);have a6:=zOe ae (j:=k) (by rw[Ze,HQ.o];omega) (.int .i32 (e0+1));have bk:=hy' a6;clear hic a6;go_wp2_with (go_at_call 38;refine (zBv _ _).mono ?_;rw[ax.o];rintro e w' ⟨rfl,rfl⟩);refine⟨⟨i+1,acc.set k (e0+1),by omega,by go_num,by rw[ba.o,cf.o],by rw[YF,HQ.o];omega,?_,ak.setCell (by show w3.heap.size≤g7;omega) _⟩,by simp[intOf];omega⟩;rw[YF,HQ.o,QH];exact bk.o
 have hd:(e0 == ch)=false:=by simp;exact hea
 have aq:=hy' (zKm (p:=C.isC) (acc:=acc) (b:=ch+1) hic (by rw[ay.o];intro h;exact hea (by simpa using h)));clear hic;have hZ:=hy' (Sl.lit (w:=uu.alloc (.cells #[.int .i32 ch,.int .i32 (ch+1)] 21)) (A:=some ⟨uu.heap.size,0,none⟩) (xs:=[.int .i32 ch,.int .i32 (ch+1)]) rfl 21 (0,0) (ZW uu _));have aa:=hy' (zA6 ae ((Zd _ _).alloc (Za _) (.cells #[.int .i32 ch,.int .i32 (ch+1)] 21)) (Za _));have bj:w3.heap.size≤(uu.alloc (.cells #[.int .i32 ch,.int .i32 (ch+1)] 21)).heap.size:=by simp;omega
 have aj:w3.heap.size≤uu.heap.size:=bo;go_wp2_with (first|(go_at_call 38;refine (zBv _ _).mono ?_;rw[ax.o];rintro e w' ⟨rfl,rfl⟩)|(at_builtin;refine zAh _ rfl _ _ _ rfl w3.heap.size 21 j0 _ 1 4 Tryz.underlying79 hj0 bu bq bp rfl (by omega) _ (k+1) _ rfl aa.out _ (some ⟨uu.heap.size,0,none⟩) 2 2 [.int .i32 ch,.int .i32 (ch+1)] rfl rfl hZ.out (by simp[Value.oneCell']) (by simp only[maxLen];omega) (by omega) bj ?_;intro v1 w5 ag ar aw));refine⟨⟨i+1,acc++[ch,ch+1],by omega,by go_num,by rw[ba.o,aq.o],by rw[Zc,HQ.o];simp;omega,?_,(ak.alloc aj _).trans ar⟩,by simp[intOf];omega⟩;rw[Zc,HQ.o,ZL];exact ag
theorem zJo {P:Program} {fn:Func} {p:Tmp} {ty:TypeId} (h:fn.results = #[.cell p ty]) (tmps:Array Value) (w:World) (g:Nat) (t:TypeId) (cs:Array Value) (fr:Nat × Nat) (d:TypeDesc)
 (hp:tmps.getD p undef=.pointer (some ⟨g,0,none⟩)) (hg:w.heap[g]?=some (.cells cs t fr))
 (hu:P.underlying ty=some d) (hd:(match d with | .struct _ | .array _ _=>true|_=>false)=true) (hi:(P.info? ty).map (·.size)=some cs.size) :
 (results fn tmps).run P w=.ok (.agg cs) w:=by
 have aa:tmps[p]?.getD undef=.pointer (some ⟨g,0,none⟩):=by simpa using hp
 simp[results,h,aa,asAddr,Qf w g t ty cs fr d hg hu hd hi]
theorem zKL {P:Program} {ops:Array Oper} {o:Oper} {a:Act} {K:Act→World→Prop} {Q:Exit→Act→World→Prop} {E:Prop} (w:World) (ae:o.guard=none) (f:FuncId) (x:Operand) (ts:Array TypeId)
 (ho:o.op=.call { callee:=.value (.func f),args := #[x],argTypes:=ts }) (entry:∀args w,(callFunc f args).run P w=.ok (.enter f args) w) (u:Value) (hv:a.eval x=u)
 (v:Value) (hC:Calls P f #[u] w fun e w'=>e=.returned v∧w=w') (h:K (a.put o.dst v) w) :
 if Region.wanted o (yielded ops a.tmps)=true then Oper.wp P o a w K Q else E:=by
 have hw:Region.wanted o (yielded ops a.tmps)=true:=by simp[Region.wanted,ae]
 rw[Zl hw]
 have aa:(execOp a.eval o).run P w=.ok (.enter f #[u]) w:=by
  have hf:a.eval (.func f)=.func (.func f) #[] #[]:=rfl;unfold execOp;subst hv;simp[ho,resolve,invoke,go_sem,entry,hf]
 unfold Oper.wp;rw[aa,Oper.upon_enter];refine hC.mono ?_;rintro e w' ⟨rfl,rfl⟩;exact h
theorem infoRow:(Tryz.prog.info? 103).map (fun i=>(i.zero,i.size,i.bytes))=some (some (.agg #[.int .i32 0,.int .i64 0,.slice none 0 0]),3,40):=by kernel_rfl
end Go.Proofs.YtdbpjmfflofadaaGreatDoor
