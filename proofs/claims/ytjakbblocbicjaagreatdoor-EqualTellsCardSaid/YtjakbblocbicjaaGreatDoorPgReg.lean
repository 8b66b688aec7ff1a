/- Regions that draw their order and whose steps are not all in one turn: reads are taken as soon as they may come up, steps are branched over. -/
import Derived.Test.YtjakbblocbicjaaGreatDoorStage
import Derived.Test.YtjakbblocbicjaaGreatDoorPgRaw
import Derived.Great.BuildSlice
set_option linter.unusedVariables false
set_option linter.unusedSimpArgs false
namespace Go.Proofs.YtjakbblocbicjaaGreatDoor.Stg
open Go Go.RowKit
section
variable {P:Program} {ops:Array Oper} {md:Region.Mode} {R:World→World→Prop} {F:Act→World→Prop}
def xOper (P:Program) (ops:Array Oper) (R:World→World→Prop) (o:Oper) (K:Act→World→Prop) (a:Act) (w:World):Prop :=
 if Region.wanted o (yielded ops a.tmps)=true then
  (if readsOnly o.op=true then o.quiet P a (fun w'=>w'=w) (fun a'=>K a' w) else stepAt P o a w (fun v w'=>R w w'∧K (a.put o.dst v) w'))
 else K (a.put o.dst undef) w
def xOp (P:Program) (ops:Array Oper) (R:World→World→Prop) (i:Nat) (K:Act→World→Prop) (a:Act) (w:World):Prop :=
 match ops[i]? with
 | none=>K a w
 | some o=>xOper P ops R o K a w
def wpX (P:Program) (md:Region.Mode) (ops:Array Oper) (R:World→World→Prop) (F:Act→World→Prop):Nat→Array Bool→Act→World→Prop
 | 0,listed,a,w=>Region.ready md ops listed=[]∧F a w
 | fuel+1,listed,a,w=>(Region.ready md ops listed=[]→F a w)∧∀i∈Region.ready md ops listed,xOp P ops R i (wpX P md ops R F fuel (listed.setIfInBounds i true)) a w
theorem wpAny_of_x {Q:Exit→Act→World→Prop} (hQ:∀a w,F a w→Q .normal a w):∀(fuel:Nat) (listed:Array Bool) (a:Act) (w:World),wpX P md ops R F fuel listed a w→wpAny P md ops Q fuel listed a w
 | 0,_,_,_,h=>⟨h.1,hQ _ _ h.2⟩
 | fuel+1,listed,a,w,h=>⟨fun h0=>hQ _ _ (h.1 h0),fun i hi=>by
    have h2:=h.2 i hi;unfold xOp at h2;unfold wpOp;cases ho:ops[i]? with
    | none=>exact absurd (lt_of_ready hi) (by have:=Array.getElem?_eq_none_iff.1 ho;omega)
    | some o =>
      simp only[ho]at h2 ⊢;unfold xOper at h2;split
      · rename_i hw;simp only[hw,Yy]at h2;left
        by_cases hro:readsOnly o.op=true
        · rw[Zm hro]at h2;obtain⟨v,h3,h4⟩:=h2;have h5:=h3 w rfl;have hne:=noEnter hro a.eval P w;unfold Oper.quietAt at h5;unfold Oper.wp;generalize (execOp a.eval o).run P w=r at *;cases r with
          | ok x w' =>
            cases x <;> simp only[Oper.quietUpon]at h5 <;> simp only[Oper.upon]
            case value u=>rw[h5.1,h5.2];exact wpAny_of_x hQ fuel _ _ _ h4
            case skip=>rw[h5.1,←h5.2];exact wpAny_of_x hQ fuel _ _ _ h4
            case enter f args=>exact absurd rfl (hne w' f args)
          | halt x w'=>simp only[Oper.quietUpon]at h5
        rw[Zk hro]at h2;unfold stepAt at h2;unfold Oper.wp;generalize (execOp a.eval o).run P w=r at *;cases r with
        | ok x w' =>
          cases x <;> simp only[stepUpon]at h2 <;> simp only[Oper.upon]
          case value v=>exact wpAny_of_x hQ fuel _ _ _ h2.2
          case skip=>exact wpAny_of_x hQ fuel _ _ _ h2.2
          case enter f args =>
           refine h2.mono ?_;rintro e w'' ⟨v,rfl,h3,h4⟩;exact wpAny_of_x hQ fuel _ _ _ h4
          case row s args =>
           refine JB h2 ?_;rintro v w'' ⟨h3,h4⟩;exact wpAny_of_x hQ fuel _ _ _ h4
        | halt x w'=>simp only[stepUpon]at h2
      rename_i hw;simp only[hw,Ye]at h2;exact wpAny_of_x hQ fuel _ _ _ h2⟩
def YieldsX (P:Program) (ops:Array Oper) (R:World→World→Prop) (o:Oper) (v:Value) (a:Act) (w:World):Prop :=
 (Region.wanted o (yielded ops a.tmps)=true∧readsOnly o.op=true∧∀w',R w w'→o.quietAt P a (fun _=>True) w' v)∨(Region.wanted o (yielded ops a.tmps)=false∧v=undef)
theorem YieldsX.xOp {i:Nat} {o:Oper} {v:Value} {a:Act} {w:World} (hR:Rel R) (hi:ops[i]?=some o) (hy:YieldsX P ops R o v a w) {K:Act→World→Prop} (h:K (a.put o.dst v) w):xOp P ops R i K a w:=by
 unfold Stg.xOp xOper;simp only[hi];rcases hy with ⟨hw,hro,hv⟩|⟨hw,rfl⟩
 · simp only[hw,hro,Yy];exact⟨v,fun w' hw'=>by subst hw';exact quietAt_same hro (hv _ (hR.refl _)),h⟩
 simp only[hw,ZM,Ye];exact h
theorem firstX {i:Nat} {oi:Oper} {v:Value} (hR:Rel R) (hi:ops[i]?=some oi) (af:∀(j:Nat) (o:Oper) cs b,ops[j]?=some o→o.op≠.select cs b) :
 ∀(fuel:Nat) (listed:Array Bool) (a:Act) (w:World),
  (∀j oj,ops[j]?=some oj→j≠i→listed.getD j true=false→(∀e∈oj.after,Region.binds md e=true→e.on≠i)→oi.apart ops oj=true) →
  i∈Region.ready md ops listed→YieldsX P ops R oi v a w →
  wpX P md ops R F fuel (listed.setIfInBounds i true) (a.put oi.dst v) w→wpX P md ops R F (fuel+1) listed a w:=by
 intro fuel
 induction fuel with
 | zero =>
   intro listed a w _ hr hy H;refine⟨fun h=>(by rw[h]at hr;cases hr),fun j hj=>?_⟩
   by_cases hji:j=i
   · subst hji;exact hy.xOp hR hi H
   have:=XO hj hji;rw[H.1]at this;cases this
 | succ fuel ih =>
   intro listed a w aa hr hy H;refine⟨fun h=>(by rw[h]at hr;cases hr),fun j hj=>?_⟩
   by_cases hji:j=i
   · subst hji;exact hy.xOp hR hi H
   have h1:=H.2 j (XO hj hji);obtain⟨ag,oj,ah,ai⟩:=mem_ready.1 hj
   have aj:∀e∈oj.after,Region.binds md e=true→e.on≠i:=fun e he hb ao=>by
    have h1:=ai e he hb;have h0:=(mem_ready.1 hr).1;rw[ao,unl h0]at h1;cases h1
   obtain⟨p1,p2,p3⟩:=Jf (aa j oj ah hji ag aj)
   have ae:∀k ok,ops[k]?=some ok→k≠i→(listed.setIfInBounds j true).getD k true=false →
    (∀e∈ok.after,Region.binds md e=true→e.on≠i)→oi.apart ops ok=true:=fun k ok hk ap ak aq=>by
    refine aa k ok hk ap ?_ aq
    by_cases hjk:j=k
    · subst hjk;exact ag
    rw[Xx true hjk]at ak;exact ak
   have keep:∀u w',R w w'→YieldsX P ops R oi v (a.put oj.dst u) w':=fun u w' hw'=>by
    unfold YieldsX Oper.quietAt at *;rw[XM oi (af i oi · · hi) a oj.dst u p3,XN oi a oj.dst u p3];exact hy.imp (fun ⟨x,y,z⟩=>⟨x,y,fun w2 h2=>z w2 (hR.trans hw' h2)⟩) id
   have go:∀u w',R w w' →
    wpX P md ops R F fuel ((listed.setIfInBounds i true).setIfInBounds j true) ((a.put oi.dst v).put oj.dst u) w'→wpX P md ops R F (fuel+1) (listed.setIfInBounds j true) (a.put oj.dst u) w':=by
    intro u w' hw' h3;refine ih _ _ _ ae (XO hr (Ya hji)) (keep u w' hw') ?_;rw[X0 _ _ hji,←Q9 a v u p2];exact h3
   unfold Stg.xOp xOper at *;simp only[ah]at h1 ⊢;rw[XN oj a oi.dst v p1]at h1;split
   · rename_i hw;simp only[hw,Yy]at h1
     by_cases hro:readsOnly oj.op=true
     · rw[Zm hro]at h1 ⊢;obtain⟨u,h2,h3⟩:=h1;refine⟨u,fun w' hw'=>?_,go u w (hR.refl _) h3⟩;have:=h2 w' hw';unfold Oper.quietAt at *
       rwa [XM oj (af j oj · · ah) a oi.dst v p1]at this
     rw[Zk hro]at h1 ⊢;unfold stepAt at *;rw[XM oj (af j oj · · ah) a oi.dst v p1]at h1;exact stepUpon_mono (fun u w' ⟨h2,h3⟩=>⟨h2,go u w' h2 h3⟩) h1
   rename_i hw;simp only[hw,Ye]at h1;exact go _ w (hR.refl _) h1
theorem wp_regionX (R:World→World→Prop) (hR:Rel R) {id:Nat} {Q:Exit→Act→World→Prop} {a:Act} {w:World} {l:List Oper} (hm:P.follows .mixedOrders=true)
 (h:wpX P .any l.toArray R (fun a w=>Q .normal a w) l.toArray.size (Array.replicate l.toArray.size false) a w.drew):(Code.region id l.toArray true).wp P Q a w :=
 JH hm (wpAny_of_x (F:=fun a w=>Q .normal a w) (fun _ _ h=>h) _ _ _ _ h)
variable {fuel:Nat} {listed:Array Bool} {a:Act} {w:World}
theorem takeX {l:List Oper} (i:Nat) {o:Oper} (hk:(Region.noSelect l.toArray&&Region.free md l.toArray listed i&&(Region.ready md l.toArray listed).contains i&&readsOnly o.op&&Region.wanted o (yielded l.toArray a.tmps))=true) (hR:Rel R) (hi':l[i]?=some o)
 (h:∀K:Act→Prop,(∀A,wpX P md l.toArray R F fuel (listed.setIfInBounds i true) A w→K A)→o.quiet P a (fun w'=>∃x:Later R w,w'=x.val) K):wpX P md l.toArray R F (fuel+1) listed a w:=by
 simp only[Zw]at hk;obtain⟨⟨⟨⟨hs,hf⟩,hr⟩,hro⟩,hw⟩:=hk;have hi:l.toArray[i]?=some o:=by simpa using hi'
 obtain⟨v,h1,h2⟩:=h (fun A=>wpX P md l.toArray R F fuel (listed.setIfInBounds i true) A w) (fun A h=>h);exact firstX hR hi (Region.noSelect_spec hs) fuel listed a w (Region.free_spec hi hf) (by simpa using hr) (.inl ⟨hw,hro,fun w' hw'=>quietAt_same hro (h1 w' ⟨⟨w',hw'⟩,rfl⟩)⟩) h2
theorem one (i:Nat) (hr:Region.ready md ops listed=[i]) (h:xOp P ops R i (wpX P md ops R F fuel (listed.setIfInBounds i true)) a w):wpX P md ops R F (fuel+1) listed a w :=
 ⟨fun e=>absurd e (by rw[hr];simp),fun j hj=>by
  rw[hr,Zt]at hj;subst hj;exact h⟩
theorem two (i i':Nat) (hr:Region.ready md ops listed=[i,i']) (h:xOp P ops R i (wpX P md ops R F fuel (listed.setIfInBounds i true)) a w) (h':xOp P ops R i' (wpX P md ops R F fuel (listed.setIfInBounds i' true)) a w):wpX P md ops R F (fuel+1) listed a w :=
 ⟨fun e=>absurd e (by rw[hr];simp),fun j hj=>by
  rw[hr]at hj;rcases List.mem_cons.1 hj with e|hj
  · subst e;exact h
  rw[Zt]at hj;subst hj;exact h'⟩
theorem endX (hr:Region.ready md ops listed=[]) (h:F a w):wpX P md ops R F fuel listed a w:=by
 cases fuel with
 | zero=>exact⟨hr,h⟩
 | succ fuel=>exact⟨fun _=>h,fun i hi=>by rw[hr]at hi;cases hi⟩
theorem stepX {l:List Oper} (i:Nat) {o:Oper} (hk:(plainOp o.op&&!readsOnly o.op&&Region.wanted o (yielded l.toArray a.tmps))=true) (hi':l[i]?=some o) {K:Act→World→Prop}
 (h:∀K':Act→World→Prop,(∀A w',R w w'→(∀A',A'=A→K A' w')→K' A w')→o.wp P a w K' (fun _ _ _=>False)):xOp P l.toArray R i K a w:=by
 simp only[Zw,Yu]at hk;obtain⟨⟨hp,hro⟩,hw⟩:=hk;have hi:l.toArray[i]?=some o:=by simpa using hi'
 unfold xOp xOper;simp only[hi,hw,hro,Yy,ZM,Ye];have h1:=h (fun A w'=>R w w'∧K A w') (fun A w' h1 h2=>⟨h1,h2 A rfl⟩);have aa:=noDefer hp a.eval P w;unfold stepAt;unfold Oper.wp at h1;generalize (execOp a.eval o).run P w=r at *;cases r with
 | ok x w' =>
   cases x <;> simp only[Oper.upon]at h1 <;> simp only[stepUpon]
   case value v=>exact h1
   case skip=>exact h1
   case defer d=>exact absurd rfl (aa w' d)
   case enter f args =>
    refine h1.mono fun e w'' he=>?_
    cases e with
    | returned v=>exact⟨v,rfl,he⟩
    | panicked c=>exact absurd he id
    | outgrown=>obtain⟨_,_,he⟩:=he;exact absurd he id
   case row s args=>exact JB h1 fun v w'' he=>he
 | halt x w'=>cases x <;> simp only[Oper.upon]at h1
theorem callX {l:List Oper} (i:Nat) {o:Oper} {fn:Func} (hk:(fn.name != "runtime.NumGoroutine" && fn.body.isSome&&!readsOnly o.op&&Region.wanted o (yielded l.toArray a.tmps))=true) (hi':l[i]?=some o) (f:FuncId) (xs:List Operand) (ts:Array TypeId) (ho:o.op=.call { callee:=.value (.func f),args:=xs.toArray,argTypes:=ts })
 (ae:P.funcs[f]?=some fn) (us:List Value) (hv:xs.map a.eval=us) (T:Ending→World→Prop) (hC:Calls P f us.toArray w T) {K:Act→World→Prop}
 (h:∀e w',T e w'→∃v,e=.returned v∧R w w'∧∀A,A=a.put o.dst v→K A w'):xOp P l.toArray R i K a w:=by
 simp only[Zw,Yu]at hk;obtain⟨⟨⟨af,hbd⟩,hro⟩,hw⟩:=hk;have entry:∀args w,(callFunc f args).run P w=.ok (.enter f args) w:=fun args w=>entered ae af hbd args w
 have hi:l.toArray[i]?=some o:=by simpa using hi'
 unfold xOp xOper;simp only[hi,hw,hro,Yy,ZM,Ye]
 have aa:(execOp a.eval o).run P w=.ok (.enter f us.toArray) w:=by
  have hf:a.eval (.func f)=.func (.func f) #[] #[]:=rfl;unfold execOp;subst hv;simp[ho,resolve,invoke,go_sem,entry,hf]
 unfold stepAt;rw[aa];exact hC.mono fun e w' ht=>let ⟨v,he,h1,h2⟩:=h e w' ht;⟨v,he,h1,h2 _ rfl⟩
end
end Go.Proofs.YtjakbblocbicjaaGreatDoor.Stg
namespace Go.Proofs.YtjakbblocbicjaaGreatDoor
open Go.RowKit
theorem zBf {P:Program} {ops:Array Oper} {rest:List Oper} {o:Oper} {a:Act} {w w':World} {Q:Exit→Act→World→Prop} (aa:o.guard=none) (u:Value) (hr:(execOp a.eval o).run P w=.ok (.value u) w') (h:wpList P ops Q rest (a.put o.dst u) w'):wpList P ops Q (o::rest) a w :=
 Q4 aa fun _ hK=>by
  unfold Oper.wp;rw[hr];exact hK _ _ h
theorem zMl {P:Program} {ops:Array Oper} {o:Oper} {a:Act} {K:Act→World→Prop} {Q:Exit→Act→World→Prop} {E:Prop} {w w':World} (aa:o.guard=none) (u:Value) (hr:(execOp a.eval o).run P w=.ok (.value u) w') (h:K (a.put o.dst u) w') :
 if Region.wanted o (yielded ops a.tmps)=true then Oper.wp P o a w K Q else E:=by
 rw[Zm (by simp[Region.wanted,aa])];unfold Oper.wp;rw[hr];exact h
theorem zEb {P:Program} {o:Oper} {ρ:Operand→Value} {w w':World} (t:TypeId) (ho:o.op=.build t #[]) (u:Value) (hr:(Instr.build t #[]).run P w=.ok u w'):(execOp ρ o).run P w=.ok (.value u) w':=by
 simp only[execOp,ho,YG,Xd,Yr,hr,Yw,Yv]
theorem zJu {P:Program} {o:Oper} {ρ:Operand→Value} {w w':World} (t:TypeId) (k:Nat) (x:Operand) (ho:o.op=.build t #[(k,x)]) (v:Value) (hx:ρ x=v) (u:Value) (hr:(Instr.build t #[(k,v)]).run P w=.ok u w'):(execOp ρ o).run P w=.ok (.value u) w':=by
 subst hx;simp only[execOp,ho,YG,Xd,ZV,Yr,hr,Yw,Yv]
theorem zCo {P:Program} {o:Oper} {ρ:Operand→Value} {w w':World} (t:TypeId) (n k:Nat) (x:Operand) (ho:o.op=.buildSlice t n #[(k,x)]) (v:Value) (hx:ρ x=v) (u:Value) (hr:(Instr.buildSlice t n #[(k,v)]).run P w=.ok u w'):(execOp ρ o).run P w=.ok (.value u) w':=by
 subst hx;simp only[execOp,ho,YG,Xd,ZV,Yr,hr,Yw,Yv]
theorem zCu {P:Program} {o:Oper} {ρ:Operand→Value} {w w':World} (t:TypeId) (x:Operand) (ho:o.op=.load t x) (v:Value) (hx:ρ x=v) (u:Value) (hr:(Instr.loadAt t v).run P w=.ok u w'):(execOp ρ o).run P w=.ok (.value u) w':=by
 subst hx;simp only[execOp,ho,YG,hr,Yw,Yv]
theorem zDv {P:Program} {o:Oper} {ρ:Operand→Value} {w w':World} (s x:Operand) (t:TypeId) (ho:o.op=.call { callee:=.builtin .append,args := #[s,x],argTypes := #[t,t] }) (v u:Value) (hs:ρ s=v) (hx:ρ x=u) (r:Value)
 (hr:(Builtin.append_ #[t,t] o.type #[v,u]).run P w=.ok r w'):(execOp ρ o).run P w=.ok (.value r) w':=by
 subst hs hx;unfold execOp;simp only[ho,resolve,invoke,builtin,YG,Yv,Yw,Xd,ZV,Yr,hr]
section
variable {P:Program} {ops:Array Oper} {Q:Exit→Act→World→Prop} {fuel:Nat} {listed:Array Bool} {a:Act} {w:World}
theorem Pg.take (i:Nat) (op:Op) (d:Option Tmp) (t:TypeId) (v:Value) (ho:(ops[i]?).map (fun o=>(o.op,o.dst,o.type,o.guard))=some (op,d,t,none)) (hs:Region.noSelect ops=true) (hf:Region.free .any ops listed i=true) (hr:(Region.ready .any ops listed).contains i=true)
 (hQ:∀c a w,Q (.panic c) (a.put d v) w→Q (.panic c) a w) (hy:∀o:Oper,o.op=op→∀w,(execOp a.eval o).run P w=.ok (.value v) w)
 (h:wpAny P .any ops Q fuel (listed.setIfInBounds i true) (a.put d v) w):wpAny P .any ops Q (fuel+1) listed a w:=by
 cases hi:ops[i]? with
 | none=>simp[hi]at ho
 | some o =>
   simp only[hi,Zz,Zg,Yx]at ho;obtain⟨h1,h2,h3,h4⟩:=ho;refine wpAny_take (i:=i) (oi:=o) (v:=v) hi hs hf hr (fun c a w=>by rw[h2];exact hQ c a w) (Or.inl ⟨by simp[Region.wanted,h4],hy o h1⟩) ?_;rw[h2];exact h
theorem zBI {i:Nat} {rs:List Nat} (op:Op) (d:Option Tmp) (t:TypeId) (v:Value) (w':World) (ho:(ops[i]?).map (fun o=>(o.op,o.dst,o.type,o.guard))=some (op,d,t,none)) (hr:∀o:Oper,o.op=op→o.type=t→(execOp a.eval o).run P w=.ok (.value v) w')
 (h:wpAny P .any ops Q fuel (listed.setIfInBounds i true) (a.put d v) w') (hs:AllReady P .any ops Q fuel listed a w rs):AllReady P .any ops Q fuel listed a w (i::rs):=by
 cases hi:ops[i]? with
 | none=>simp[hi]at ho
 | some o =>
   simp only[hi,Zz,Zg,Yx]at ho;obtain⟨h1,h2,h3,h4⟩:=ho;refine AllReady.cons hi (fun K hK=>?_) hs;refine zMl h4 v (hr o h1 h3) (hK _ _ ?_);rw[h2];exact h
theorem zH4 {i:Nat} {rs:List Nat} (op:Op) (w':World) (ho:(ops[i]?).map (fun o=>(o.op,o.dst,o.type,o.guard))=some (op,none,0,none)) (hr:∀o:Oper,o.op=op→(execOp a.eval o).run P w=.ok .skip w')
 (h:wpAny P .any ops Q fuel (listed.setIfInBounds i true) a w') (hs:AllReady P .any ops Q fuel listed a w rs):AllReady P .any ops Q fuel listed a w (i::rs):=by
 cases hi:ops[i]? with
 | none=>simp[hi]at ho
 | some o =>
   simp only[hi,Zz,Zg,Yx]at ho;obtain⟨h1,h2,h3,h4⟩:=ho;refine AllReady.cons hi (fun K hK=>?_) hs;rw[Zm (by simp[Region.wanted,h4])];unfold Oper.wp;rw[hr o h1];refine hK _ _ ?_;rw[h2];exact h
end
theorem zEO {P:Program} {o:Oper} {ρ:Operand→Value} {w:World} (x:Operand) (ho:o.op=.move x) (v:Value) (hx:ρ x=v):(execOp ρ o).run P w=.ok (.value v) w:=by
 subst hx;simp only[execOp,ho,Yv]
theorem zD1 {P:Program} {o:Oper} {ρ:Operand→Value} {w:World} (x:Operand) (ho:o.op=.nilCheck x) (a:Addr) (hx:ρ x=.pointer (some a)):(execOp ρ o).run P w=.ok (.value (.pointer (some a))) w:=by
 simp only[execOp,ho,hx,Yv]
theorem zCE {P:Program} {o:Oper} {ρ:Operand→Value} {w w':World} (t:TypeId) (x:Operand) (k:Nat) (ho:o.op=.fieldAddr t x k) (v:Value) (hx:ρ x=v) (u:Value) (hr:(Instr.fieldAt t v k).run P w=.ok u w'):(execOp ρ o).run P w=.ok (.value u) w':=by
 subst hx;simp only[execOp,ho,YG,hr,Yw,Yv]
theorem zEc {P:Program} {o:Oper} {ρ:Operand→Value} {w w':World} (t:TypeId) (p x:Operand) (ho:o.op=.store t p x) (v u:Value) (hp:ρ p=v) (hx:ρ x=u) (hr:(Instr.storeAt t v u).run P w=.ok () w'):(execOp ρ o).run P w=.ok .skip w':=by
 subst hp hx;simp only[execOp,ho,YG,hr,Yw,Yv]
theorem zHC:∀(xs:List Value) (k:Nat) (cs:Array Value),cs.size=k+xs.length→((xs.zipIdx k).foldl (fun (cs:Array Value) (p:Value × Nat)=>cs.setIfInBounds (0+p.2) p.1) cs).toList=cs.toList.take k++xs
 | [],k,cs,h=>by simp;rw[Zi (by simp;simp at h;omega)]
 | x::xs,k,cs,h=>by
   rw[List.zipIdx_cons,YD,zHC xs (k+1) _ (by simp at h ⊢;omega)];have hk:k<cs.toList.length:=by simp at h ⊢;omega
   simp only[Array.toList_setIfInBounds,Z1];rw[ZA,List.take_set_of_le (Za _),List.getElem?_set_self hk];simp
theorem zND (n:Nat) (cs v:Array Value) (h1:v.size=n) (h2:cs.size=n):Instr.fill (fun i=>some (i*n,n)) cs [(0,.agg v)]=some v:=by
 unfold Instr.fill;simp only[];split
 · rename_i h;have e1:(Value.agg v).cells.size=n:=h1;rw[e1]at h;have e2:¬(0*n+n > cs.size):=by omega
   simp[h2]at h
 unfold Instr.fill;congr 1;have:=zHC v.toList 0 cs (by simp;omega);apply Array.ext'
 simp only[Value.cells,JU];rw[←Array.foldl_toList,Array.toList_zipIdx];rw[QG,ZK]at this;exact this
theorem zPv:(Tryz.prog.info? 174).map (fun i=>(i.zero.isSome,i.size,i.bytes))=some (true,256,512):=by kernel_rfl
theorem zQE (w:World) (b:List Int) (hb:b.length=256):(Instr.buildSlice 176 1 #[(0,.agg (Pg.vs b).toArray)]).run Tryz.prog w=.ok (.slice (some ⟨w.heap.size,0,none⟩) 1 1) (w.alloc (.cells (Pg.vs b).toArray 174)):=by
 have hi:=zPv;cases hie:Tryz.prog.info? 174 with
 | none=>simp[hie]at hi
 | some ie =>
   simp only[hie,Zz,Zg,Yx]at hi;obtain⟨z,hz⟩:=Option.isSome_iff_exists.1 hi.1;refine run_buildSlice w _ _ 1 _ _ ie z Tryz.underlying176 hie hz (by rw[hi.2.1];decide) (by rw[hi.2.1];decide) ?_;rw[hi.2.1];exact zND 256 _ _ (by unfold Pg.vs;simp[hb]) (by simp)
theorem zNE (w:World):(Instr.build 174 #[]).run Tryz.prog w=.ok (.agg (Pg.vs zAj).toArray) w:=by kernel_rfl
theorem zS9 (w:World) (v:Addr):(Instr.build 178 #[(1,Value.slice (some v) 1 1)]).run Tryz.prog w=.ok (.agg (Pg.vs (List.replicate 4352 0)++[Value.slice (some v) 1 1]).toArray) w:=by kernel_rfl
theorem zQF:∃(i:TypeInfo) (z:Value),Tryz.prog.info? 174=some i∧i.zero=some z∧i.size=256∧i.bytes=512∧z.cells.size=256:=by
 have hi:(Tryz.prog.info? 174).map (fun i=>(i.zero.map fun z=>z.cells.size,i.size,i.bytes))=some (some 256,256,512):=by kernel_rfl
 cases hie:Tryz.prog.info? 174 with
 | none=>simp[hie]at hi
 | some ie =>
   simp only[hie,Zz,Zg,Yx]at hi;obtain⟨h1,h2,h3⟩:=hi;cases hz:ie.zero with
   | none=>simp[hz]at h1
   | some z=>exact⟨ie,z,rfl,hz,h2,h3,by simpa [hz] using h1⟩
theorem zDn (g:Nat) (w:World):(Instr.fieldAt 178 (.pointer (some ⟨g,0,none⟩)) 1).run Tryz.prog w=.ok (.pointer (some ⟨g,4352,none⟩)) w:=by
 have hu:=Tryz.underlying178;go_simp
theorem zEd (w:World) (b o:Nat) (u:Value) (A:Option Addr) (n c:Nat) (h:w.cell? ⟨b,o,none⟩=some u) (hf:w.frozen? ⟨b,o,none⟩=false):(Instr.storeAt 176 (.pointer (some ⟨b,o,none⟩)) (.slice A n c)).run Tryz.prog w=.ok () (w.setCell ⟨b,o,none⟩ (.slice A n c)):=by
 have hu:=Tryz.underlying176;go_simp
theorem zGt {W:World} {base n pb:Nat} {e:TypeId} {size:Nat} {v:Value} {xs:List Value} {bl:List (List Int)} (h:W.ownsRow base e size v n xs) (hp:Pg.Pl W pb bl):v.ownBlock≠some pb:=by
 intro hv;rcases h.2 with ⟨rfl,_⟩|⟨g,cap,aa,rfl,_,hg,_⟩
 · simp[Value.ownBlock]at hv
 simp only[Value.ownBlock,Zg]at hv;exact hp.notAt hg hv.symm
theorem zHD (w:World) (b o:Nat) (v:Value) (h:w.cell? ⟨b,o,none⟩=some v):(Instr.loadAt 176 (.pointer (some ⟨b,o,none⟩))).run Tryz.prog w=.ok v w:=by
 have hu:=Tryz.underlying176;go_simp
theorem zNF (base:Nat) (W:World) (v:Value) (n:Nat) (xs:List Value) (b:List Int) (hb:b.length=256) (aa:W.ownsRow base 174 256 v n xs) (ae:base≤W.heap.size) (hn:n≤100000) (ty:TypeId) :
 ∃v' w',(Builtin.append_ #[176,176] ty #[v,.slice (some ⟨W.heap.size,0,none⟩) 1 1]).run Tryz.prog (W.alloc (.cells (Pg.vs b).toArray 174))=.ok v' w' ∧
  w'.ownsRow base 174 256 v' (n+1) (xs++Pg.vs b)∧W.grownBy w' v.ownBlock:=by
 obtain⟨i,z,h1,h2,h3,h4,h5⟩:=zQF;have hl:(Pg.vs b).length=1*256:=by unfold Pg.vs;rw[List.length_map,hb]
 obtain⟨v',w',g1,g2,g3,_⟩:=run_append_own (P:=Tryz.prog) (w:=W.alloc (.cells (Pg.vs b).toArray 174)) base 176 ty 174 i z 256 512 Tryz.underlying176 h1 h2 h3 h4 h5 (by decide) v n xs (aa.alloc _) ⟨W.heap.size,0,none⟩ 1 1 (Pg.vs b) hl
  (fun j u hu=>by
    have hj:=Rw.At.new W 174 (Pg.vs b);have:(⟨W.heap.size,0,none⟩:Addr).add j=⟨W.heap.size,0+j,none⟩:=by unfold Addr.add;split <;> simp_all
    rw[this,Z1];exact hj.cell j hu) (fun u hu=>by unfold Pg.vs at hu;obtain⟨y,_,rfl⟩:=List.mem_map.1 hu;rfl) (by simp only[maxLen];omega) (by omega) (by simp;omega)
 exact⟨v',w',g1,g2,zA0 (zLJ (Yl W _ none)) g3⟩
end Go.Proofs.YtjakbblocbicjaaGreatDoor
