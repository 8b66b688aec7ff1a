/- Regions that draw their order: walked once, in the order of the text; calls (steps) may answer anything, reads must answer the same in all later worlds. -/
import Derived.Deep.RegionLaw
import Derived.Test.YtdbpjmfflofadaaGreatDoorSoOwn
set_option maxRecDepth 100000
set_option maxHeartbeats 4000000
set_option linter.unusedVariables false
set_option linter.unusedSimpArgs false
namespace Go.Proofs.YtdbpjmfflofadaaGreatDoor.Stg
open Go Go.RowKit
def readsOnly:Op→Bool
 | .move _ | .assign _ | .pick .. | .load .. | .nilCheck _ | .binOp .. | .unOp .. | .convert .. | .fieldAddr .. | .field .. | .indexAddr .. | .index .. | .lookup .. | .extract .. | .makeInterface .. | .slice .. | .typeAssert .. | .build .. => true
 | .call c=>match c.callee with
   | .builtin .len | .builtin .cap=>true
   | _=>false
 | _=>false
def NE (s:Sem Next):Prop:=∀(P:Program) (w w':World) (f:FuncId) (args:Array Value),¬s.run P w=.ok (.enter f args) w'
theorem NE.bind {α:Type} {s:Sem α} {k:α→Sem Next} (h:∀x,NE (k x)):NE (s >>= k):=by
 intro P w w' f args;rw[YC];cases s.run P w with
 | ok x w1=>simp only[Result.andThen];exact h x P w1 w' f args
 | halt x w1=>simp[Result.andThen]
theorem NE.value (v:Value):NE (pure (Next.value v)):=by
 intro P w w' f args;simp[Ys]
theorem NE.panic:NE (runtimePanic .nilDeref):=by
 intro P w w' f args;simp[go_sem]
theorem noEnter {o:Oper} (h:readsOnly o.op=true) (ρ:Operand→Value):NE (execOp ρ o):=by
 obtain⟨dst,op,type,pos,after,guard⟩:=o;cases op <;> simp only[readsOnly]at h <;> simp only[execOp]
 case call c =>
  obtain⟨cl,aa,ct⟩:=c;cases cl with
  | builtin b =>
    cases b <;> simp only[Bool.false_eq_true]at h <;> (simp only[resolve];intro P w w' f args;simp only[Sem.run_bind,Sem.run_pure,Result.andThen_ok,invoke,builtin];unfold Result.andThen;split <;> simp)
  | invoke r n=>simp at h
  | value f=>simp at h
 case nilCheck x =>
  split
  · exact NE.panic
  · exact NE.panic
  · exact NE.panic
  · split
    · exact NE.panic
    · refine NE.bind fun x=>?_
      refine NE.bind fun x=>?_
      split
      · refine NE.bind fun x=>NE.value _
      exact NE.value _
    exact NE.value _
  exact NE.value _
 case move x=>exact NE.value _
 case assign x=>exact NE.value _
 case pick c a b=>exact NE.bind fun x=>NE.value _
 all_goals first|exact NE.bind fun x=>NE.value _|cases h
def push (w:World) (ws:Nat→World):Nat→World
 | 0=>w
 | k+1=>ws k
theorem push_sub {w:World} {ws:Nat→World} {n l:Nat} (h:l≤n):push w ws (n+1-l)=ws (n-l):=by
 rw[show n+1-l=(n-l)+1 by omega];rfl
def stepUpon (P:Program) (next:Value→World→Prop):Result Next→Prop
 | .ok (.value v) w'=>next v w'
 | .ok .skip w'=>next undef w'
 | .ok (.enter f args) w'=>Calls P f args w' fun e w''=>∃v,e=.returned v∧next v w''
 | .ok (.row row args) w'=>Rows P row args w' next
 | _=>False
def stepAt (P:Program) (o:Oper) (a:Act) (w:World) (next:Value→World→Prop):Prop:=stepUpon P next ((execOp a.eval o).run P w)
theorem stepUpon_mono {P:Program} {next next':Value→World→Prop} (h:∀v w,next v w→next' v w) {r:Result Next} (hh:stepUpon P next r):stepUpon P next' r:=by
 cases r with
 | ok n w' =>
   cases n <;> simp only[stepUpon]at hh ⊢
   case enter f args=>exact hh.mono fun e w'' ⟨v,he,hn⟩=>⟨v,he,h _ _ hn⟩
   case row s args=>exact JO hh fun v w'' hn=>h _ _ hn
   all_goals exact h _ _ hh
 | halt x w'=>simp only[stepUpon]at hh
theorem stepUpon_some {P:Program} {next:Value→World→Prop} {r:Result Next} (hh:stepUpon P next r):∃v w,next v w:=by
 cases r with
 | ok n w' =>
   cases n <;> simp only[stepUpon]at hh
   case enter f args=>obtain⟨e,w2,fr,⟨v,_,hn⟩,_⟩:=hh [];exact⟨v,w2,hn⟩
   case row s args=>obtain⟨v,w2,hn,_⟩:=hh (Frame.enter P 0 #[] .normal) [];exact⟨v,w2,hn⟩
   all_goals exact⟨_,_,hh⟩
 | halt x w'=>simp only[stepUpon]at hh
section
variable {P:Program} {ops:Array Oper} {md:Region.Mode} {R:World→World→Prop} {F:Act→World→Prop}
def sOper (P:Program) (ops:Array Oper) (R:World→World→Prop) (step fin:Bool) (l:Nat) (o:Oper) (K:Act→Nat→(Nat→World)→Prop) (a:Act) (n:Nat) (ws:Nat→World):Prop :=
 if Region.wanted o (yielded ops a.tmps)=true then
  (if step=true then stepAt P o a (ws 0) (fun v w'=>(fin=false→R (ws 0) w')∧K (a.put o.dst v) (n+1) (push w' ws))
   else readsOnly o.op=true∧o.quiet P a (fun w=>R (ws (n-l)) w) (fun a'=>K a' n ws))
 else if step=true then K (a.put o.dst undef) (n+1) (push (ws 0) ws) else K (a.put o.dst undef) n ws
def sOp (P:Program) (ops:Array Oper) (R:World→World→Prop) (st fn:Nat→Bool) (lv:Nat→Nat) (i:Nat) (K:Act→Nat→(Nat→World)→Prop) (a:Act) (n:Nat) (ws:Nat→World):Prop :=
 match ops[i]? with
 | none=>K a n ws
 | some o=>sOper P ops R (st i) (fn i) (lv i) o K a n ws
def wpStg (P:Program) (md:Region.Mode) (ops:Array Oper) (R:World→World→Prop) (st fn:Nat→Bool) (lv:Nat→Nat) (F:Act→World→Prop):Nat→Array Bool→Act→Nat→(Nat→World)→Prop
 | 0,listed,a,_,ws=>Region.ready md ops listed=[]∧F a (ws 0)
 | fuel+1,listed,a,n,ws=>(Region.ready md ops listed=[]→F a (ws 0)) ∧
    ∀i∈Region.ready md ops listed,sOp P ops R st fn lv i (wpStg P md ops R st fn lv F fuel (listed.setIfInBounds i true)) a n ws
variable {st fn:Nat→Bool} {lv:Nat→Nat}
structure Rel (R:World→World→Prop):Prop where
 refl:∀w,R w w
 trans:∀{a b c},R a b→R b c→R a c
structure Sound (md:Region.Mode) (ops:Array Oper) (st fn:Nat→Bool) (lv:Nat→Nat):Prop where
 step:∀j o,ops[j]?=some o→st j=true→1≤lv j∧(lv j=1∨∃e∈o.after,Region.binds md e=true∧lv j≤lv e.on+1)
 read:∀j o,ops[j]?=some o→st j=false→lv j=0∨∃e∈o.after,Region.binds md e=true∧lv j≤lv e.on
 one:∀i j,i<ops.size→j<ops.size→st i=true→st j=true→lv i=lv j→i=j
 fin:∀i,i<ops.size→fn i=true→i+1=ops.size∧∀k,k<i→∃m o,k<m∧m≤i∧ops[m]?=some o∧∃e∈o.after,Region.binds md e=true∧e.on=k
structure Inv (md:Region.Mode) (ops:Array Oper) (st:Nat→Bool) (lv:Nat→Nat) (listed:Array Bool) (n:Nat):Prop where
 size:listed.size=ops.size
 closed:∀j o,ops[j]?=some o→listed.getD j false=true→∀e∈o.after,Region.binds md e=true→listed.getD e.on false=true
 step:∀j,j<ops.size→st j=true→(listed.getD j false=true↔lv j≤n)
 read:∀j,j<ops.size→st j=false→listed.getD j false=true→lv j≤n
def InvW (R:World→World→Prop) (n:Nat) (ws:Nat→World):Prop:=∀k,k≤n→R (ws k) (ws 0)
theorem InvW.push {n:Nat} {ws:Nat→World} (hR:Rel R) (h:InvW R n ws) {w':World} (hw:R (ws 0) w'):InvW R (n+1) (push w' ws):=by
 intro k hk;cases k with
 | zero=>exact hR.refl _
 | succ k=>exact hR.trans (h k (by omega)) hw
theorem Inv.le {listed:Array Bool} {n:Nat} (h:Inv md ops st lv listed n) {j:Nat} (hj:listed.getD j false=true):lv j≤n:=by
 have aa:j<ops.size:=by
  rcases Z3 j listed.size with h'|h'
  · rw[←h.size];exact h'
  simp[YO h']at hj
 cases hs:st j with
 | true=>exact (h.step j aa hs).1 hj
 | false=>exact h.read j aa hs hj
theorem lt_of_ready {listed:Array Bool} {i:Nat} (hi:i∈Region.ready md ops listed):i<ops.size:=by
 obtain⟨_,o,ho,_⟩:=mem_ready.1 hi;exact (Array.getElem?_eq_some_iff.1 ho).1
theorem unl {listed:Array Bool} {i:Nat} (h:listed.getD i true=false):listed.getD i false=false:=by
 rcases Z3 i listed.size with h'|h'
 · simp[h']at h ⊢;exact h
 simp[YO h']
theorem Inv.ready_read {listed:Array Bool} {n:Nat} (hS:Sound md ops st fn lv) (h:Inv md ops st lv listed n) {i:Nat} (hi:i∈Region.ready md ops listed) (hs:st i=false):lv i≤n:=by
 obtain⟨_,o,ho,aa⟩:=mem_ready.1 hi;rcases hS.read i o ho hs with h0|⟨e,he,hb,hl⟩
 · omega
 exact Zh hl (h.le (aa e he hb))
theorem Inv.ready_step {listed:Array Bool} {n:Nat} (hS:Sound md ops st fn lv) (h:Inv md ops st lv listed n) {i:Nat} (hi:i∈Region.ready md ops listed) (hs:st i=true):lv i=n+1:=by
 obtain⟨ae,o,ho,aa⟩:=mem_ready.1 hi;obtain⟨h1,h2⟩:=hS.step i o ho hs
 have af:¬lv i≤n:=fun hle=>by
  have:=(h.step i (lt_of_ready hi) hs).2 hle;rw[unl ae]at this;cases this
 rcases h2 with h0|⟨e,he,hb,hl⟩
 · omega
 have:=h.le (aa e he hb);omega
theorem getD_set_self {listed:Array Bool} {i:Nat} (h:i<listed.size):(listed.setIfInBounds i true).getD i false=true:=by
 simp[h]
theorem closed_set {listed:Array Bool} {i:Nat} (hc:∀j o,ops[j]?=some o→listed.getD j false=true→∀e∈o.after,Region.binds md e=true→listed.getD e.on false=true) (hi:i∈Region.ready md ops listed) :
 ∀j o,ops[j]?=some o→(listed.setIfInBounds i true).getD j false=true→∀e∈o.after,Region.binds md e=true→(listed.setIfInBounds i true).getD e.on false=true:=by
 intro j o ho hj e he hb;obtain⟨_,oi,ae,aa⟩:=mem_ready.1 hi
 by_cases hij:i=j
 · subst hij;rw[ae]at ho;cases ho
   exact getD_set_true (aa e he hb)
 rw[XG false hij]at hj;exact getD_set_true (hc j o ho hj e he hb)
theorem Inv.set_read {listed:Array Bool} {n:Nat} (h:Inv md ops st lv listed n) {i:Nat} (hi:i∈Region.ready md ops listed) (hl:lv i≤n) (hs:st i=false):Inv md ops st lv (listed.setIfInBounds i true) n:=by
 refine⟨by simp[h.size],closed_set h.closed hi,fun j hj aa=>?_,fun j hj aa ae=>?_⟩
 · rw[XG false (fun e=>by subst e;rw[hs]at aa;cases aa)];exact h.step j hj aa
 by_cases hij:i=j
 · subst hij;exact hl
 rw[XG false hij]at ae;exact h.read j hj aa ae
theorem Inv.set_step {listed:Array Bool} {n:Nat} (hS:Sound md ops st fn lv) (h:Inv md ops st lv listed n) {i:Nat} (hr:i∈Region.ready md ops listed) (hi:i<ops.size) (hl:lv i=n+1) (hs:st i=true):Inv md ops st lv (listed.setIfInBounds i true) (n+1):=by
 refine⟨by simp[h.size],closed_set h.closed hr,fun j hj aa=>?_,fun j hj aa ae=>?_⟩
 · by_cases hij:i=j
   · subst hij;rw[getD_set_self (by rw[h.size];exact hi)];simp[hl]
   rw[XG false hij,h.step j hj aa];have:lv j≠n+1:=fun e=>hij (hS.one i j hi hj hs aa (by rw[hl,e]))
   omega
 rw[XG false (fun e=>by subst e;rw[hs]at aa;cases aa)]at ae;have:=h.read j hj aa ae;omega
theorem ready_fin {listed:Array Bool} {n i:Nat} (hS:Sound md ops st fn lv) (hI:Inv md ops st lv listed n) (hi:i∈Region.ready md ops listed) (hf:fn i=true):Region.ready md ops (listed.setIfInBounds i true)=[]:=by
 obtain⟨ak,hE⟩:=hS.fin i (lt_of_ready hi) hf;obtain⟨aj,oi,ag,aa⟩:=mem_ready.1 hi
 have hd:∀d k,k+d=i→0<d→listed.getD k false=true:=by
  intro d
  induction d using Nat.strongRecOn with
  | ind d ih =>
    intro k hk hd;obtain⟨m,o,h1,h2,h3,e,he,hb,ae⟩:=hE k (by omega);rcases Z3 m i with hm|hm
    · have:=ih (i-m) (by omega) m (by omega) (by omega);have:=hI.closed m o h3 this e he hb
      rwa [ae]at this
    have af:m=i:=by omega
    subst af;rw[ag]at h3;cases h3
    have:=aa e he hb
    rwa [ae]at this
 cases hr:Region.ready md ops (listed.setIfInBounds i true) with
 | nil=>rfl
 | cons j l =>
   have hj:j∈Region.ready md ops (listed.setIfInBounds i true):=by rw[hr];exact ZI
   obtain⟨hu,oj,ai,_⟩:=mem_ready.1 hj;have ah:i<listed.size:=by rw[hI.size];exact lt_of_ready hi
   by_cases hji:j=i
   · subst hji;simp[ah]at hu
   have h1:=hd (i-j) j (by have:=lt_of_ready hj;omega) (by have:=lt_of_ready hj;omega);rw[XG true (Yc hji)]at hu;rw[unl hu]at h1;cases h1
theorem wpAny_end {Q:Exit→Act→World→Prop} (hQ:∀a w,F a w→Q .normal a w) {fuel:Nat} {listed:Array Bool} {a:Act} {n:Nat} {ws:Nat→World} (hr:Region.ready md ops listed=[]) (h:wpStg P md ops R st fn lv F fuel listed a n ws):wpAny P md ops Q fuel listed a (ws 0):=by
 cases fuel with
 | zero=>exact⟨h.1,hQ _ _ h.2⟩
 | succ fuel=>exact⟨fun h0=>hQ _ _ (h.1 h0),fun i hi=>by rw[hr]at hi;cases hi⟩
theorem wpAny_of_stg {Q:Exit→Act→World→Prop} (hR:Rel R) (hS:Sound md ops st fn lv) (hQ:∀a w,F a w→Q .normal a w):∀(fuel:Nat) (listed:Array Bool) (a:Act) (n:Nat) (ws:Nat→World),Inv md ops st lv listed n→InvW R n ws →
 wpStg P md ops R st fn lv F fuel listed a n ws→wpAny P md ops Q fuel listed a (ws 0)
 | 0,_,_,_,_,_,_,h=>⟨h.1,hQ _ _ h.2⟩
 | fuel+1,listed,a,n,ws,hI,hW,h=>⟨fun h0=>hQ _ _ (h.1 h0),fun i hi=>by
    have h2:=h.2 i hi;unfold sOp at h2;unfold wpOp;cases ho:ops[i]? with
    | none=>exact absurd (lt_of_ready hi) (by have:=Array.getElem?_eq_none_iff.1 ho;omega)
    | some o =>
      simp only[ho]at h2 ⊢;unfold sOper at h2;split
      · rename_i hw;simp only[hw,Yo]at h2;left
        cases hs:st i with
        | true =>
          simp only[hs,Yo]at h2;have aa:=hI.set_step hS hi (lt_of_ready hi) (hI.ready_step hS hi hs) hs
          have go:∀v w',(fn i=false→R (ws 0) w')→wpStg P md ops R st fn lv F fuel (listed.setIfInBounds i true) (a.put o.dst v) (n+1) (push w' ws)→wpAny P md ops Q fuel (listed.setIfInBounds i true) (a.put o.dst v) w':=by
           intro v w' h3 h4;cases hf:fn i with
           | true=>exact wpAny_end hQ (ready_fin hS hI hi hf) h4
           | false=>exact wpAny_of_stg hR hS hQ fuel _ _ _ _ aa (hW.push hR (h3 hf)) h4
          unfold stepAt at h2;unfold Oper.wp;generalize (execOp a.eval o).run P (ws 0)=r at *;cases r with
          | ok x w' =>
            cases x <;> simp only[stepUpon]at h2 <;> simp only[Oper.upon]
            case value v=>exact go _ _ h2.1 h2.2
            case skip=>exact go _ _ h2.1 h2.2
            case enter f args =>
             refine h2.mono ?_;rintro e w'' ⟨v,rfl,h3,h4⟩;exact go _ _ h3 h4
            case row s args =>
             refine JO h2 ?_;rintro v w'' ⟨h3,h4⟩;exact go _ _ h3 h4
          | halt x w'=>simp only[stepUpon]at h2
        | false =>
          simp only[hs,ZF,Ye]at h2;have hl:=hI.ready_read hS hi hs;obtain⟨hro,v,h3,h4⟩:=h2;have h5:=h3 (ws 0) (hW _ (by omega));have hne:=noEnter hro a.eval P (ws 0);unfold Oper.quietAt at h5;unfold Oper.wp;generalize (execOp a.eval o).run P (ws 0)=r at *;cases r with
          | ok x w' =>
            cases x <;> simp only[Oper.quietUpon]at h5 <;> simp only[Oper.upon]
            case value u=>rw[h5.1,h5.2];exact wpAny_of_stg hR hS hQ fuel _ _ _ _ (hI.set_read hi hl hs) hW h4
            case skip=>rw[h5.1,←h5.2];exact wpAny_of_stg hR hS hQ fuel _ _ _ _ (hI.set_read hi hl hs) hW h4
            case enter f args=>exact absurd rfl (hne w' f args)
          | halt x w'=>simp only[Oper.quietUpon]at h5
      rename_i hw;simp only[hw,Ye]at h2;cases hs:st i with
      | true =>
        simp only[hs,Yo]at h2;exact wpAny_of_stg hR hS hQ fuel _ _ _ (push (ws 0) ws) (hI.set_step hS hi (lt_of_ready hi) (hI.ready_step hS hi hs) hs) (hW.push hR (hR.refl _)) h2
      | false =>
        simp only[hs,ZF,Ye]at h2;exact wpAny_of_stg hR hS hQ fuel _ _ _ _ (hI.set_read hi (hI.ready_read hS hi hs) hs) hW h2⟩
def YieldsR (P:Program) (ops:Array Oper) (R:World→World→Prop) (l:Nat) (o:Oper) (v:Value) (a:Act) (n:Nat) (ws:Nat→World):Prop :=
 (Region.wanted o (yielded ops a.tmps)=true∧readsOnly o.op=true∧∀w,R (ws (n-l)) w→o.quietAt P a (fun w=>R (ws (n-l)) w) w v)∨(Region.wanted o (yielded ops a.tmps)=false∧v=undef)
theorem quietAt_same {o:Oper} {a:Act} (hro:readsOnly o.op=true) {C C':World→Prop} {w:World} {v:Value} (h:o.quietAt P a C w v):o.quietAt P a C' w v:=by
 have hne:=noEnter hro a.eval P w;unfold Oper.quietAt at *;generalize (execOp a.eval o).run P w=r at *;cases r with
 | ok x w' =>
   cases x <;> simp only[Oper.quietUpon]at h ⊢
   case enter f args=>exact absurd rfl (hne w' f args)
   all_goals exact h
 | halt x w'=>simp only[Oper.quietUpon]at h
theorem quietAt_one {o:Oper} {a:Act} (hro:readsOnly o.op=true) {C C':World→Prop} {w:World} {v u:Value} (h:o.quietAt P a C w v) (h':o.quietAt P a C' w u):u=v:=by
 have hne:=noEnter hro a.eval P w;unfold Oper.quietAt at *;generalize (execOp a.eval o).run P w=r at *;cases r with
 | ok x w' =>
   cases x <;> simp only[Oper.quietUpon]at h h'
   case enter f args=>exact absurd rfl (hne w' f args)
   case value x=>rw[←h.2,←h'.2]
   rw[h.2,h'.2]
 | halt x w'=>simp only[Oper.quietUpon]at h
theorem YieldsR.put {i:Nat} {oi oj:Oper} {v:Value} {l n:Nat} {a:Act} {ws:Nat→World} (aa:∀cs b,oi.op≠.select cs b) (h3:∀d,oj.dst=some d→d∉oi.looksAt ops) (u:Value) (hy:YieldsR P ops R l oi v a n ws):YieldsR P ops R l oi v (a.put oj.dst u) n ws:=by
 unfold YieldsR Oper.quietAt at *;rw[XX oi aa a oj.dst u h3,XY oi a oj.dst u h3];exact hy
theorem YieldsR.push {oi:Oper} {v:Value} {l n:Nat} {a:Act} {ws:Nat→World} (hl:l≤n) (w':World) (hy:YieldsR P ops R l oi v a n ws):YieldsR P ops R l oi v a (n+1) (push w' ws):=by
 unfold YieldsR at *;rw[push_sub hl];exact hy
theorem YieldsR.sOp {i:Nat} {o:Oper} {v:Value} {a:Act} {n:Nat} {ws:Nat→World} (hi:ops[i]?=some o) (hs:st i=false) (hy:YieldsR P ops R (lv i) o v a n ws) {K:Act→Nat→(Nat→World)→Prop} (h:K (a.put o.dst v) n ws):sOp P ops R st fn lv i K a n ws:=by
 unfold Stg.sOp sOper;simp only[hi,hs];rcases hy with ⟨hw,hro,hv⟩|⟨hw,rfl⟩
 · simp only[hw,Yo,ZF,Ye];exact⟨hro,v,hv,h⟩
 simp only[hw,ZF,Ye];exact h
theorem first_read {i:Nat} {oi:Oper} {v:Value} (hS:Sound md ops st fn lv) (hi:ops[i]?=some oi) (ak:st i=false) (af:∀(j:Nat) (o:Oper) cs b,ops[j]?=some o→o.op≠.select cs b) :
 ∀(fuel:Nat) (listed:Array Bool) (a:Act) (n:Nat) (ws:Nat→World),Inv md ops st lv listed n →
  (∀j oj,ops[j]?=some oj→j≠i→listed.getD j true=false→(∀e∈oj.after,Region.binds md e=true→e.on≠i)→oi.apart ops oj=true) →
  i∈Region.ready md ops listed→YieldsR P ops R (lv i) oi v a n ws →
  wpStg P md ops R st fn lv F fuel (listed.setIfInBounds i true) (a.put oi.dst v) n ws→wpStg P md ops R st fn lv F (fuel+1) listed a n ws:=by
 intro fuel
 induction fuel with
 | zero =>
   intro listed a n ws _ _ hr hy H;refine⟨fun h=>(by rw[h]at hr;cases hr),fun j hj=>?_⟩
   by_cases hji:j=i
   · subst hji;exact hy.sOp hi ak H
   have:=XZ hj hji;rw[H.1]at this;cases this
 | succ fuel ih =>
   intro listed a n ws hI aa hr hy H;refine⟨fun h=>(by rw[h]at hr;cases hr),fun j hj=>?_⟩
   by_cases hji:j=i
   · subst hji;exact hy.sOp hi ak H
   have h1:=H.2 j (XZ hj hji);have ar:=hI.ready_read hS hr ak;obtain⟨ah,oj,ai,ao⟩:=mem_ready.1 hj
   have ap:∀e∈oj.after,Region.binds md e=true→e.on≠i:=fun e he hb av=>by
    have h1:=ao e he hb;have h0:=(mem_ready.1 hr).1;rw[av,unl h0]at h1;cases h1
   obtain⟨p1,p2,p3⟩:=Jq (aa j oj ai hji ah ap)
   have ag:∀k ok,ops[k]?=some ok→k≠i→(listed.setIfInBounds j true).getD k true=false →
    (∀e∈ok.after,Region.binds md e=true→e.on≠i)→oi.apart ops ok=true:=fun k ok hk au aq aw=>by
    refine aa k ok hk au ?_ aw
    by_cases hjk:j=k
    · subst hjk;exact ah
    rw[XG true hjk]at aq;exact aq
   have go:∀u n' aj,Inv md ops st lv (listed.setIfInBounds j true) n'→YieldsR P ops R (lv i) oi v (a.put oj.dst u) n' aj →
    wpStg P md ops R st fn lv F fuel ((listed.setIfInBounds i true).setIfInBounds j true) ((a.put oi.dst v).put oj.dst u) n' aj→wpStg P md ops R st fn lv F (fuel+1) (listed.setIfInBounds j true) (a.put oj.dst u) n' aj:=by
    intro u n' aj ae hy' h3;refine ih _ _ _ _ ae ag (XZ hr (Yc hji)) hy' ?_;rw[Qd _ _ hji,←Jg a v u p2];exact h3
   have keep:∀u,YieldsR P ops R (lv i) oi v (a.put oj.dst u) n ws:=fun u=>YieldsR.put (i:=i) (af i oi · · hi) p3 u hy
   unfold sOp sOper at *;simp only[ai]at h1 ⊢;rw[XY oj a oi.dst v p1]at h1;cases hsj:st j with
   | true =>
     have ae:=hI.set_step hS hj (lt_of_ready hj) (hI.ready_step hS hj hsj) hsj;simp only[hsj,Yo]at h1 ⊢;split
     · rename_i hw;simp only[hw,Yo]at h1;unfold stepAt at *;rw[XX oj (af j oj · · ai) a oi.dst v p1]at h1;exact stepUpon_mono (fun u w' ⟨h2,h3⟩=>⟨h2,go u _ _ ae ((keep u).push ar w') h3⟩) h1
     rename_i hw;simp only[hw,Ye]at h1;exact go _ _ _ ae ((keep _).push ar _) h1
   | false =>
     have ae:=hI.set_read hj (hI.ready_read hS hj hsj) hsj;simp only[hsj,ZF,Ye]at h1 ⊢;split
     · rename_i hw;simp only[hw,Yo]at h1;obtain⟨hro,u,h2,h3⟩:=h1;refine⟨hro,u,fun w hw'=>?_,go u _ _ ae (keep u) h3⟩;have:=h2 w hw';unfold Oper.quietAt at *
       rwa [XX oj (af j oj · · ai) a oi.dst v p1]at this
     rename_i hw;simp only[hw,Ye]at h1;exact go _ _ _ ae (keep _) h1
def StepS (P:Program) (ops:Array Oper) (R:World→World→Prop) (fin:Bool) (o:Oper) (K:Act→Nat→(Nat→World)→Prop) (a:Act) (n:Nat) (ws:Nat→World):Prop :=
 if Region.wanted o (yielded ops a.tmps)=true then stepAt P o a (ws 0) (fun v w'=>(fin=false→R (ws 0) w')∧K (a.put o.dst v) (n+1) (push w' ws)) else K (a.put o.dst undef) (n+1) (push (ws 0) ws)
theorem first_step {i:Nat} {oi:Oper} (hR:Rel R) (hS:Sound md ops st fn lv) (hi:ops[i]?=some oi) (aj:st i=true) (ae:∀(j:Nat) (o:Oper) cs b,ops[j]?=some o→o.op≠.select cs b) :
 ∀(fuel:Nat) (listed:Array Bool) (a:Act) (n:Nat) (ws:Nat→World),Inv md ops st lv listed n→InvW R n ws →
  (∀j oj,ops[j]?=some oj→j≠i→listed.getD j true=false→(∀e∈oj.after,Region.binds md e=true→e.on≠i)→oi.apart ops oj=true) →
  i∈Region.ready md ops listed→StepS P ops R (fn i) oi (wpStg P md ops R st fn lv F fuel (listed.setIfInBounds i true)) a n ws→wpStg P md ops R st fn lv F (fuel+1) listed a n ws:=by
 intro fuel
 induction fuel with
 | zero =>
   intro listed a n ws hI hW _ hr H;refine⟨fun h=>(by rw[h]at hr;cases hr),fun j hj=>?_⟩
   by_cases hji:j=i
   · subst hji;unfold sOp sOper;simp only[hi,aj,Yo];exact H
   have aq:=XZ hj hji
   have hex:Region.ready md ops (listed.setIfInBounds i true)=[]:=by
    unfold StepS at H;split at H
    · obtain⟨v,w,_,h2⟩:=stepUpon_some H;exact h2.1
    exact H.1
   rw[hex]at aq;cases aq
 | succ fuel ih =>
   intro listed a n ws hI hW aa hr H;refine⟨fun h=>(by rw[h]at hr;cases hr),fun j hj=>?_⟩
   by_cases hji:j=i
   · subst hji;unfold sOp sOper;simp only[hi,aj,Yo];exact H
   have aw:=hI.ready_step hS hr aj;obtain⟨ah,oj,ai,ak⟩:=mem_ready.1 hj
   have af:st j=false:=by
    cases af:st j with
    | false=>rfl
    | true=>exact absurd (hS.one j i (lt_of_ready hj) (lt_of_ready hr) af aj (by rw[hI.ready_step hS hj af,aw])) hji
   have ar:=hI.ready_read hS hj af
   have ao:∀e∈oj.after,Region.binds md e=true→e.on≠i:=fun e he hb ay=>by
    have h1:=ak e he hb;have h0:=(mem_ready.1 hr).1;rw[ay,unl h0]at h1;cases h1
   obtain⟨p1,p2,p3⟩:=Jq (aa j oj ai hji ah ao)
   have ag:∀k ok,ops[k]?=some ok→k≠i→(listed.setIfInBounds j true).getD k true=false →
    (∀e∈ok.after,Region.binds md e=true→e.on≠i)→oi.apart ops ok=true:=fun k ok hk ax ap az=>by
    refine aa k ok hk ax ?_ az
    by_cases hjk:j=k
    · subst hjk;exact ah
    rw[XG true hjk]at ap;exact ap
   have au:=hI.set_read hj ar af
   have go:∀u,StepS P ops R (fn i) oi (wpStg P md ops R st fn lv F fuel ((listed.setIfInBounds j true).setIfInBounds i true)) (a.put oj.dst u) n ws→wpStg P md ops R st fn lv F (fuel+1) (listed.setIfInBounds j true) (a.put oj.dst u) n ws:=fun u h3 =>
    ih _ _ _ _ au hW ag (XZ hr (Yc hji)) h3
   have read:∀v w',wpStg P md ops R st fn lv F (fuel+1) (listed.setIfInBounds i true) (a.put oi.dst v) (n+1) (push w' ws) →
    (Region.wanted oj (yielded ops a.tmps)=true∧readsOnly oj.op=true∧∃u,(∀w,R (ws (n-lv j)) w→oj.quietAt P a (fun w=>R (ws (n-lv j)) w) w u)∧wpStg P md ops R st fn lv F fuel ((listed.setIfInBounds j true).setIfInBounds i true) ((a.put oj.dst u).put oi.dst v) (n+1) (push w' ws)) ∨
    (Region.wanted oj (yielded ops a.tmps)=false∧wpStg P md ops R st fn lv F fuel ((listed.setIfInBounds j true).setIfInBounds i true) ((a.put oj.dst undef).put oi.dst v) (n+1) (push w' ws)):=by
    intro v w' h0;have h1:=h0.2 j (XZ hj hji);unfold sOp sOper at h1;simp only[ai,af,ZF,Ye]at h1;rw[XY oj a oi.dst v p1,push_sub ar,Qd _ _ (Yc hji)]at h1;cases hw:Region.wanted oj (yielded ops a.tmps) with
    | true =>
      simp only[hw,Yo]at h1;obtain⟨hro,u,h2,h3⟩:=h1;refine .inl ⟨rfl,hro,u,fun w av=>?_,by rw[←Jg a v u p2];exact h3⟩;have:=h2 w av;unfold Oper.quietAt at *
      rwa [XX oj (ae j oj · · ai) a oi.dst v p1]at this
    | false =>
      simp only[hw,ZF,Ye]at h1;exact .inr ⟨rfl,by rw[←Jg a v undef p2];exact h1⟩
   unfold sOp sOper;simp only[ai,af,ZF,Ye];unfold StepS at H;cases hwi:Region.wanted oi (yielded ops a.tmps) with
   | false =>
     simp only[hwi,ZF,Ye]at H;rcases read undef (ws 0) H with ⟨hw,hro,u,h2,h3⟩|⟨hw,h3⟩
     · simp only[hw,Yo];refine⟨hro,u,h2,go u ?_⟩;unfold StepS;rw[XY oi a oj.dst u p3];simp only[hwi,ZF,Ye];exact h3
     simp only[hw,ZF,Ye];refine go _ ?_;unfold StepS;rw[XY oi a oj.dst undef p3];simp only[hwi,ZF,Ye];exact h3
   | true =>
     simp only[hwi,Yo]at H;obtain⟨v0,w0,a1,h0⟩:=stepUpon_some H;rcases read v0 w0 h0 with ⟨hw,hro,u,h2,_⟩|⟨hw,_⟩
     · simp only[hw,Yo];refine⟨hro,u,h2,go u ?_⟩;unfold StepS;rw[XY oi a oj.dst u p3];simp only[hwi,Yo];unfold stepAt at *;rw[XX oi (ae i oi · · hi) a oj.dst u p3];refine stepUpon_mono (fun v w' ⟨h4,h5⟩=>⟨h4,?_⟩) H;rcases read v w' h5 with ⟨_,_,u',h6,h7⟩|⟨hw',_⟩
       · have e1:u=u':=quietAt_one hro (h6 (ws 0) (hW _ (by omega))) (h2 (ws 0) (hW _ (by omega)));rw[e1];exact h7
       rw[hw]at hw';cases hw'
     simp only[hw,ZF,Ye];refine go _ ?_;unfold StepS;rw[XY oi a oj.dst undef p3];simp only[hwi,Yo];unfold stepAt at *;rw[XX oi (ae i oi · · hi) a oj.dst undef p3];refine stepUpon_mono (fun v w' ⟨h4,h5⟩=>⟨h4,?_⟩) H;rcases read v w' h5 with ⟨hw',_⟩|⟨_,h7⟩
     · rw[hw]at hw';cases hw'
     exact h7
def wpLex (P:Program) (ops:Array Oper) (R:World→World→Prop) (st fn:Nat→Bool) (lv:Nat→Nat) (F:Act→World→Prop):List Oper→Nat→Act→Nat→(Nat→World)→Prop
 | [],_,a,_,ws=>F a (ws 0)
 | o::l,k,a,n,ws=>sOper P ops R (st k) (fn k) (lv k) o (wpLex P ops R st fn lv F l (k+1)) a n ws
theorem wpStg_lex (hR:Rel R) (hS:Sound md ops st fn lv) (hs:Region.noSelect ops=true):∀(l:List Oper) (k:Nat) (listed:Array Bool) (a:Act) (n:Nat) (ws:Nat→World),(∀j,l[j]?=ops[k+j]?)→Inv md ops st lv listed n→InvW R n ws →
 Region.lexFrom md ops l.length k listed=true→wpLex P ops R st fn lv F l k a n ws→wpStg P md ops R st fn lv F l.length listed a n ws
 | [],_,_,_,_,_,_,_,_,hB,h=>⟨by simpa [Region.lexFrom] using hB,h⟩
 | o::l,k,listed,a,n,ws,hl,hI,hW,hB,h=>by
   have h0:ops[k]?=some o:=by simpa using (hl 0).symm
   simp only[ZB,Region.lexFrom,Zr]at hB;obtain⟨⟨hr,hf⟩,ae⟩:=hB;have aa:k∈Region.ready md ops listed:=by simpa using hr
   have ag:∀j,l[j]?=ops[k+1+j]?:=fun j=>by have:=hl (j+1);simpa [Nat.add_assoc,Nat.add_comm 1 j] using this
   unfold wpLex sOper at h;cases hsk:st k with
   | true =>
     have af:=hI.set_step hS aa (lt_of_ready aa) (hI.ready_step hS aa hsk) hsk;simp only[hsk,Yo]at h;refine first_step hR hS h0 hsk (QB hs) l.length listed a n ws hI hW (Q8 h0 hf) aa ?_;unfold StepS;split
     · rename_i hw;simp only[hw,Yo]at h;refine stepUpon_mono (fun v w' ⟨h1,h2⟩=>⟨h1,?_⟩) h;cases hf:fn k with
       | false=>exact wpStg_lex hR hS hs l (k+1) _ _ _ _ ag af (hW.push hR (h1 hf)) ae h2
       | true =>
         have ah:=ready_fin hS hI aa hf;cases l with
         | nil=>exact⟨ah,h2⟩
         | cons o' l =>
           simp only[ZB,Region.lexFrom,Zr]at ae;have:=ae.1.1;rw[ah]at this;simp at this
     rename_i hw;simp only[hw,Ye]at h;exact wpStg_lex hR hS hs l (k+1) _ _ _ _ ag af (hW.push hR (hR.refl _)) ae h
   | false =>
     have af:=hI.set_read aa (hI.ready_read hS aa hsk) hsk;simp only[hsk,ZF,Ye]at h;cases hw:Region.wanted o (yielded ops a.tmps) with
     | true =>
       simp only[hw,Yo]at h;obtain⟨hro,v,h1,h2⟩:=h;exact first_read hS h0 hsk (QB hs) l.length listed a n ws hI (Q8 h0 hf) aa (.inl ⟨hw,hro,h1⟩) (wpStg_lex hR hS hs l (k+1) _ _ _ _ ag af hW ae h2)
     | false =>
       simp only[hw,ZF,Ye]at h;exact first_read hS h0 hsk (QB hs) l.length listed a n ws hI (Q8 h0 hf) aa (.inr ⟨hw,rfl⟩) (wpStg_lex hR hS hs l (k+1) _ _ _ _ ag af hW ae h)
end
def stOf (ops:Array Oper) (i:Nat):Bool:=match ops[i]? with
 | some o=>!readsOnly o.op
 | none=>false
def lvGo (md:Region.Mode):List Oper→Array Nat→Nat→Array Nat
 | [],acc,_=>acc
 | o::l,acc,c=>if readsOnly o.op then lvGo md l (acc.push ((o.after.toList.filter fun e=>Region.binds md e).foldl (fun m e=>max m (acc.getD e.on 0)) 0)) c else lvGo md l (acc.push (c+1)) (c+1)
def lvs (md:Region.Mode) (ops:Array Oper):Array Nat:=lvGo md ops.toList #[] 0
def lvOf (md:Region.Mode) (ops:Array Oper) (i:Nat):Nat:=(lvs md ops).getD i 0
def waitsFor (md:Region.Mode) (ops:Array Oper) (k:Nat):Nat→Bool
 | 0=>false
 | d+1=>waitsFor md ops k d||match ops[k+1+d]? with
   | some o=>o.after.any fun e=>Region.binds md e&&e.on == k
   | none=>false
def fnOf (md:Region.Mode) (ops:Array Oper) (i:Nat):Bool:=stOf ops i&&(i+1 == ops.size&&(List.range i).all fun k=>waitsFor md ops k (i-k))
theorem waitsFor_spec {md:Region.Mode} {ops:Array Oper} {k:Nat}:∀(d:Nat),waitsFor md ops k d=true→∃m o,k<m∧m≤k+d∧ops[m]?=some o∧∃e∈o.after,Region.binds md e=true∧e.on=k
 | 0,h=>by cases h
 | d+1,h=>by
   unfold waitsFor at h;rw[XM]at h;rcases h with h|h
   · obtain⟨m,o,h1,h2,h3⟩:=waitsFor_spec d h;exact⟨m,o,h1,by omega,h3⟩
   cases ho:ops[k+1+d]? with
   | none=>rw[ho]at h;cases h
   | some o =>
     rw[ho]at h;obtain⟨e,he,hb⟩:=Array.any_eq_true'.1 h;simp only[Zr,YV]at hb;exact⟨k+1+d,o,by omega,by omega,ho,e,he,hb.1,hb.2⟩
def soundAt (md:Region.Mode) (lv:Nat→Nat) (o:Oper) (j:Nat):Bool :=
 if readsOnly o.op then lv j == 0||o.after.any fun e=>Region.binds md e&&decide (lv j≤lv e.on)
 else decide (1≤lv j)&&(lv j == 1||o.after.any fun e=>Region.binds md e&&decide (lv j≤lv e.on+1))
def soundGo (md:Region.Mode) (lv:Nat→Nat):List Oper→Nat→Bool
 | [],_=>true
 | o::l,j=>soundAt md lv o j&&soundGo md lv l (j+1)
def oneB (ops:Array Oper) (lv:Nat→Nat):Bool:=(List.range ops.size).all fun i=>!stOf ops i||(List.range ops.size).all fun j=>!stOf ops j||lv i != lv j||i == j
def soundB (md:Region.Mode) (ops:Array Oper):Bool:=let t:=lvs md ops;soundGo md (fun i=>t.getD i 0) ops.toList 0&&oneB ops (fun i=>t.getD i 0)
section
variable {P:Program} {ops:Array Oper} {md:Region.Mode}
theorem soundGo_at {lv:Nat→Nat}:∀(l:List Oper) (j:Nat),soundGo md lv l j=true→∀i o,l[i]?=some o→soundAt md lv o (j+i)=true
 | [],_,_,i,o,h=>by simp at h
 | o::l,j,hb,i,o',h=>by
   simp only[soundGo,Zr]at hb;cases i with
   | zero=>simp at h;subst h;exact hb.1
   | succ i =>
     have:=soundGo_at l (j+1) hb.2 i o' (by simpa using h)
     rwa [show j+(i+1)=j+1+i by omega]
theorem sound_of (h:soundB md ops=true):Sound md ops (stOf ops) (fnOf md ops) (lvOf md ops):=by
 simp only[soundB,Zr]at h
 have aa:∀j o,ops[j]?=some o→soundAt md (lvOf md ops) o j=true:=fun j o ho=>by
  have:=soundGo_at ops.toList 0 h.1 j o (by simpa using ho);rw[Z4]at this;exact this
 refine⟨fun j o ho hs=>?_,fun j o ho hs=>?_,fun i j hi hj ae af hl=>?_,fun i hi hf=>?_⟩
 · have:=aa j o ho;have hro:readsOnly o.op=false:=by simpa [stOf,ho] using hs
   simp only[soundAt,hro,ZF,Ye,Zr,XM,Zo,YV,J0]at this;exact this
 · have:=aa j o ho;have hro:readsOnly o.op=true:=by simpa [stOf,ho] using hs
   simp only[soundAt,hro,Yo,Zr,XM,Zo,YV,J0]at this;exact this
 · have:=h.2;unfold oneB at this;have h1:=List.all_eq_true.1 this i (List.mem_range.2 hi);rw[ae]at h1;simp only[QZ,Y3]at h1;have h2:=List.all_eq_true.1 h1 j (List.mem_range.2 hj);rw[af]at h2
   have:((lvs md ops).getD i 0 == (lvs md ops).getD j 0)=true:=by
    simp only[YV];exact hl
   simp only[bne,this,QZ,Y3,YV]at h2;exact h2
 unfold fnOf at hf;simp only[Zr,YV]at hf;refine⟨hf.2.1,fun k hk=>?_⟩;obtain⟨m,o,h1,h2,h3⟩:=waitsFor_spec _ (List.all_eq_true.1 hf.2.2 k (List.mem_range.2 hk));exact⟨m,o,h1,by omega,h3⟩
end
structure Later (R:World→World→Prop) (w:World) where
 val:World
 rel:R w val
def Ex (w w':World):Prop:=Below w.heap.size w w'
theorem Ex.rel:Rel Ex:=⟨fun w=>Zd _ _,fun {a b c} h1 h2=>Below.trans h1 (Below.mono h2 h1.size)⟩
instance (w:World):Nonempty (Later Ex w):=⟨⟨w,Ex.rel.refl w⟩⟩
theorem cells {w:World} {b o:Nat} {v:Value} (h:w.cell? ⟨b,o,none⟩=some v) (hb:b<w.heap.size):∀x:Later Ex w,x.val.cell? ⟨b,o,none⟩=some v:=fun x=>((zAU x.rel).1 b o hb).trans h
def Keep (s:Nat→Prop) (w w':World):Prop:=∀b,s b→w'.heap[b]?=w.heap[b]?
theorem Keep.rel (s:Nat→Prop):Rel (Keep s):=⟨fun w b _=>rfl,fun {a b c} h1 h2 k hk=>Eq.trans (h2 k hk) (h1 k hk)⟩
instance (s:Nat→Prop) (w:World):Nonempty (Later (Keep s) w):=⟨⟨w,(Keep.rel s).refl w⟩⟩
theorem Keep.cells {s:Nat→Prop} {w:World} {b o:Nat} {v:Value} (h:w.cell? ⟨b,o,none⟩=some v) (hs:s b):∀x:Later (Keep s) w,x.val.cell? ⟨b,o,none⟩=some v:=fun x=>by
 have:=x.rel b hs;unfold World.cell? at h ⊢;simp only[this];exact h
theorem Keep.of_grown {s:Nat→Prop} {w w':World} {row:Option Nat} (h:w.grownBy w' row) (hs:∀b,s b→b<w.heap.size∧some b≠row):Keep s w w':=fun b hb=>h.block b (hs b hb).1 (hs b hb).2
theorem Keep.of_below {s:Nat→Prop} {w w':World} {n:Nat} (h:Below n w w') (hs:∀b,s b→b<n):Keep s w w':=fun b hb=>h.block b (hs b hb)
def Walk (P:Program) (ops:Array Oper) (R:World→World→Prop) (F:Act→World→Prop):List Oper→Nat→Act→Nat→(Nat→World)→Prop:=wpLex P ops R (stOf ops) (fnOf .any ops) (lvOf .any ops) F
def plainOp:Op→Bool
 | .alloc _ | .box .. | .buildSlice .. | .store .. | .makeMap .. | .makeSlice .. | .mapUpdate .. | .insert .. => true
 | .call c=>match c.callee with
   | .builtin .append | .builtin .copy=>true
   | _=>false
 | _=>false
def ND (s:Sem Next):Prop:=∀(P:Program) (w w':World) (d:Deferred),¬s.run P w=.ok (.defer d) w'
theorem ND.bind {α:Type} {s:Sem α} {k:α→Sem Next} (h:∀x,ND (k x)):ND (s >>= k):=by
 intro P w w' d;rw[YC];cases s.run P w with
 | ok x w1=>simp only[Result.andThen];exact h x P w1 w' d
 | halt x w1=>simp[Result.andThen]
theorem ND.value (v:Value):ND (pure (Next.value v)):=by
 intro P w w' d;simp[Ys]
theorem ND.skip:ND (pure Next.skip):=by
 intro P w w' d;simp[Ys]
theorem noDefer {o:Oper} (h:plainOp o.op=true) (ρ:Operand→Value):ND (execOp ρ o):=by
 obtain⟨dst,op,type,pos,after,guard⟩:=o;cases op <;> simp only[plainOp]at h <;> simp only[execOp]
 case call c =>
  obtain⟨cl,aa,ct⟩:=c;cases cl with
  | builtin b =>
    cases b <;> simp only[Bool.false_eq_true]at h <;> (simp only[resolve];intro P w w' d;simp only[Sem.run_bind,Sem.run_pure,Result.andThen_ok,invoke,builtin];unfold Result.andThen;split <;> simp)
  | invoke r n=>simp at h
  | value f=>simp at h
 all_goals first|exact ND.bind fun x=>ND.value _|exact ND.bind fun x=>ND.skip|cases h
theorem entered {P:Program} {f:FuncId} {fn:Func} (hf:P.funcs[f]?=some fn) (aa:(fn.name != "runtime.NumGoroutine")=true) (hb:fn.body.isSome=true) (args:Array Value) (w:World):(callFunc f args).run P w=.ok (.enter f args) w:=by
 have h1:fn.name ≠ "runtime.NumGoroutine" := by simpa using aa
 obtain⟨c,hc⟩:=Option.isSome_iff_exists.1 hb;simp[callFunc,hf,h1,hc]
section
variable {P:Program} {ops:Array Oper} {R:World→World→Prop} {F:Act→World→Prop} {o:Oper} {l:List Oper} {k n:Nat} {a:Act} {ws:Nat→World}
theorem wp_region' (R:World→World→Prop) (hR:Rel R) {id:Nat} {Q:Exit→Act→World→Prop} {a:Act} {w:World} {l:List Oper}
 (h:Walk P l.toArray R (fun a w=>Q .normal a w) l 0 a 0 (fun _=>w.drew)) (hm:P.follows .mixedOrders=true) (hB:Region.lexB .any l.toArray=true) (hS:soundB .any l.toArray=true):(Code.region id l.toArray true).wp P Q a w:=by
 simp only[Region.lexB,Zr]at hB;refine JT hm ?_;have aa:∀j,j<l.toArray.size→(Array.replicate l.toArray.size false).getD j false=false:=fun j hj=>by rw[Array.getD_eq_getD_getElem?,Array.getElem?_replicate];split <;> rfl
 have hI:Inv .any l.toArray (stOf l.toArray) (lvOf .any l.toArray) (Array.replicate l.toArray.size false) 0:=by
  refine⟨by simp,fun j o ho hj=>?_,fun j hj hs=>?_,fun j hj hs hl=>?_⟩
  · rw[aa j (Array.getElem?_eq_some_iff.1 ho).1]at hj;cases hj
  · rw[aa j hj];obtain⟨o,ho⟩:∃o,l.toArray[j]?=some o:=⟨_,Xr hj⟩;have:=((sound_of hS).step j o ho hs).1;simp only[ZF,false_iff];omega
  rw[aa j hj]at hl;cases hl
 have hW:InvW R 0 (fun _=>w.drew):=fun k hk=>hR.refl _
 have:=wpStg_lex hR (sound_of hS) hB.1 l 0 (Array.replicate l.toArray.size false) a 0 (fun _=>w.drew) (by simp) hI hW (by simpa using hB.2) h;exact wpAny_of_stg (F:=fun a w=>Q .normal a w) hR (sound_of hS) (fun _ _ h=>h) _ _ _ _ _ hI hW (by simpa using this)
theorem wp_region {id:Nat} {Q:Exit→Act→World→Prop} {a:Act} {w:World} {l:List Oper} (hk:(P.follows .mixedOrders&&Region.lexB .any l.toArray&&soundB .any l.toArray)=true) (R:World→World→Prop) (hR:Rel R)
 (h:Walk P l.toArray R (fun a w=>Q .normal a w) l 0 a 0 (fun _=>w.drew)):(Code.region id l.toArray true).wp P Q a w:=by
 rw[Zr,Zr]at hk;exact wp_region' R hR h hk.1.1 hk.1.2 hk.2
theorem nil (W:World) (hb:ws 0=W) (h:F a W):Walk P ops R F [] k a n ws:=by subst hb;exact h
theorem read (d:Nat) (hk:(!stOf ops k&&readsOnly o.op&&Region.wanted o (yielded ops a.tmps)&&n-lvOf .any ops k == d)=true) (base:World) (hb:ws d=base)
 (h:∀K:Act→Prop,(∀a,Walk P ops R F l (k+1) a n ws→K a)→o.quiet P a (fun w'=>∃x:Later R base,w'=x.val) K):Walk P ops R F (o::l) k a n ws:=by
 simp only[Zr,YB,YV]at hk;obtain⟨⟨⟨hs,hr⟩,hw⟩,hd⟩:=hk
 have hC:(fun w'=>∃x:Later R base,w'=x.val)=(fun w=>R (ws (n-lvOf .any ops k)) w):=by
  funext w
  rw[hd,hb];exact propext ⟨fun ⟨x,hx⟩=>by rw[hx];exact x.rel,fun hx=>⟨⟨w,hx⟩,rfl⟩⟩
 have:=h _ (fun a h=>h);rw[hC]at this;unfold Walk wpLex sOper;simp only[hw,hs,Yo,ZF,Ye];exact⟨hr,this⟩
structure Any where
 val:World
instance:Nonempty Any:=⟨⟨default⟩⟩
theorem readW (hk:(!stOf ops k&&readsOnly o.op&&Region.wanted o (yielded ops a.tmps))=true)
 (h:∀K:Act→Prop,(∀a,Walk P ops R F l (k+1) a n ws→K a)→o.quiet P a (fun w'=>∃x:Any,w'=x.val) K):Walk P ops R F (o::l) k a n ws:=by
 simp only[Zr,YB]at hk;obtain⟨⟨hs,hr⟩,hw⟩:=hk;obtain⟨v,h1,h2⟩:=h _ (fun a h=>h);unfold Walk wpLex sOper;simp only[hw,hs,Yo,ZF,Ye];refine⟨hr,v,fun w _=>?_,h2⟩;have h3:=h1 w ⟨⟨w⟩,rfl⟩;have hne:=noEnter hr a.eval P w;unfold Oper.quietAt at *;generalize (execOp a.eval o).run P w=r at *;cases r with
 | ok x w' =>
   cases x <;> simp only[Oper.quietUpon]at h3 ⊢
   case enter f args=>exact absurd rfl (hne w' f args)
   all_goals exact h3
 | halt x w'=>simp only[Oper.quietUpon]at h3
theorem skip (hk:(!stOf ops k&&!Region.wanted o (yielded ops a.tmps))=true) (h:∀A,A=a.put o.dst undef→Walk P ops R F l (k+1) A n ws):Walk P ops R F (o::l) k a n ws:=by
 simp only[Zr,YB]at hk;obtain⟨hs,hw⟩:=hk;unfold Walk wpLex sOper;simp only[hw,hs,ZF,Ye];exact h _ rfl
theorem step (W:World) (hs:stOf ops k=true) (hb:ws 0=W) (hw:Region.wanted o (yielded ops a.tmps)=true)
 (h:stepAt P o a W fun v w'=>(fnOf .any ops k=false→R W w')∧∀A,A=a.put o.dst v→Walk P ops R F l (k+1) A (n+1) (push w' ws)):Walk P ops R F (o::l) k a n ws:=by
 subst hb;unfold Walk wpLex sOper;simp only[hw,hs,Yo];exact stepUpon_mono (fun v w' ⟨h1,h2⟩=>⟨h1,h2 _ rfl⟩) h
theorem stepG (W:World) (hp:plainOp o.op=true) (hs:stOf ops k=true) (hb:ws 0=W) (hw:Region.wanted o (yielded ops a.tmps)=true)
 (h:∀K:Act→World→Prop,(∀A w',(fnOf .any ops k=false→R W w')→(∀A',A'=A→Walk P ops R F l (k+1) A' (n+1) (push w' ws))→K A w')→o.wp P a W K (fun _ _ _=>False)):Walk P ops R F (o::l) k a n ws:=by
 refine step W hs hb hw ?_;have h1:=h (fun A w'=>(fnOf .any ops k=false→R W w')∧Walk P ops R F l (k+1) A (n+1) (push w' ws)) (fun A w' h1 h2=>⟨h1,h2 A rfl⟩);have aa:=noDefer hp a.eval P W;unfold stepAt;unfold Oper.wp at h1;generalize (execOp a.eval o).run P W=r at *;cases r with
 | ok x w' =>
   cases x <;> simp only[Oper.upon]at h1 <;> simp only[stepUpon]
   case value v=>exact⟨h1.1,fun A hA=>by rw[hA];exact h1.2⟩
   case skip=>exact⟨h1.1,fun A hA=>by rw[hA];exact h1.2⟩
   case defer d=>exact absurd rfl (aa w' d)
   case enter f args =>
    refine h1.mono fun e w'' he=>?_
    cases e with
    | returned v=>exact⟨v,rfl,he.1,fun A hA=>by rw[hA];exact he.2⟩
    | panicked c=>exact absurd he id
    | outgrown=>obtain⟨_,_,he⟩:=he;exact absurd he id
   case row s args=>exact JO h1 fun v w'' he=>⟨he.1,fun A hA=>by rw[hA];exact he.2⟩
 | halt x w'=>cases x <;> simp only[Oper.upon]at h1
theorem stepW (hk:(plainOp o.op&&stOf ops k&&Region.wanted o (yielded ops a.tmps))=true) (W:World) (hb:ws 0=W)
 (h:∀K:Act→World→Prop,(∀A w',R W w'→(∀A',A'=A→Walk P ops R F l (k+1) A' (n+1) (push w' ws))→K A w')→o.wp P a W K (fun _ _ _=>False)):Walk P ops R F (o::l) k a n ws:=by
 simp only[Zr]at hk;exact stepG W hk.1.1 hk.1.2 hb hk.2 fun K hK=>h K fun A w' h1 h2=>hK A w' (fun _=>h1) h2
theorem last (hk:(fnOf .any ops k&&plainOp o.op&&stOf ops k&&Region.wanted o (yielded ops a.tmps))=true) (W:World) (hb:ws 0=W)
 (h:∀K:Act→World→Prop,(∀A w',(∀A',A'=A→Walk P ops R F l (k+1) A' (n+1) (push w' ws))→K A w')→o.wp P a W K (fun _ _ _=>False)):Walk P ops R F (o::l) k a n ws:=by
 simp only[Zr]at hk;obtain⟨⟨⟨hf,hp⟩,hs⟩,hw⟩:=hk;exact stepG W hp hs hb hw fun K hK=>h K fun A w' h2=>hK A w' (fun e=>by rw[hf]at e;cases e) h2
theorem call {fn:Func} (f:FuncId) (xs:List Operand) (ts:Array TypeId) (ho:o.op=.call { callee:=.value (.func f),args:=xs.toArray,argTypes:=ts }) (ae:P.funcs[f]?=some fn)
 (us:List Value) (hv:xs.map a.eval=us) (W:World) (T:Ending→World→Prop) (hC:Calls P f us.toArray W T)
 (hk:(fn.name != "runtime.NumGoroutine" && fn.body.isSome&&stOf ops k&&Region.wanted o (yielded ops a.tmps))=true) (hb:ws 0=W)
 (h:∀e w',T e w'→∃v,e=.returned v∧R W w'∧∀A,A=a.put o.dst v→Walk P ops R F l (k+1) A (n+1) (push w' ws)):Walk P ops R F (o::l) k a n ws:=by
 simp only[Zr]at hk;obtain⟨⟨⟨af,hbd⟩,hs⟩,hw⟩:=hk;have entry:∀args w,(callFunc f args).run P w=.ok (.enter f args) w:=fun args w=>entered ae af hbd args w
 refine step W hs hb hw ?_
 have aa:(execOp a.eval o).run P W=.ok (.enter f us.toArray) W:=by
  have hf:a.eval (.func f)=.func (.func f) #[] #[]:=rfl;unfold execOp;subst hv;simp[ho,resolve,invoke,go_sem,entry,hf]
 unfold stepAt;rw[aa];exact hC.mono fun e w' ht=>let ⟨v,he,h1,h2⟩:=h e w' ht;⟨v,he,fun _=>h1,h2⟩
end
end Go.Proofs.YtdbpjmfflofadaaGreatDoor.Stg
namespace Go.Proofs.YtdbpjmfflofadaaGreatDoor
open Go.RowKit
theorem zOe {w:World} {base:Nat} {e:TypeId} {size n c g j:Nat} {xs:List Value} (h:w.ownsRow base e size (.slice (some ⟨g,0,none⟩) n c) n xs) (hj:j<xs.length) (u:Value) :
 (w.setCell ⟨g,j,none⟩ u).ownsRow base e size (.slice (some ⟨g,0,none⟩) n c) n (xs.set j u):=by
 obtain⟨h1,h2⟩:=h;refine⟨by rw[YF];exact h1,?_⟩;rcases h2 with ⟨h2,_⟩|⟨g',cap,aa,hv,hg,hc,hn,hm,hs,ht⟩
 · cases h2
 cases hv
 refine .inr ⟨g,c,aa.set! j u,rfl,hg,?_,hn,hm,by simp[hs],?_⟩
 · simp[World.setCell,YS,hc]
 rw[←ht];apply XU
 intro i;simp only[Yv,XV,Array.toList_set!,Zn,Xk];have hl:n*size≤aa.size:=by rw[hs];exact Nat.mul_le_mul_right _ hn
 rw[h1]at hj
 by_cases h3:j=i
 · subst h3;simp[hj,show j<aa.size by omega];omega
 simp[h3]
theorem zFy {w:World} {base:Nat} {e:TypeId} {size n c b o:Nat} {xs:List Value} (h:w.ownsRow base e size (.slice (some ⟨b,o,none⟩) n c) n xs):o=0∧base≤b∧b<w.heap.size∧∀j,w.frozen? ⟨b,j,none⟩=false:=by
 rcases h.2 with ⟨h2,_⟩|⟨g',cap,aa,hv,hg,hc,hn,hm,hs,ht⟩
 · cases h2
 cases hv
 exact⟨rfl,hg,zCF hc,fun j=>by simp[World.frozen?,hc]⟩
def C.run (a:Int) (n:Nat):List Int:=(List.range n).map fun (i:Nat)=>a+(i:Int)
theorem zQ4 (a:Int) (n:Nat):C.run a (n+1)=C.run a n++[a+(n:Int)]:=by
 unfold C.run;rw[List.range_succ,List.map_append];rfl
theorem C.run_len (a:Int) (n:Nat):(C.run a n).length=n:=by simp[C.run]
def zCI (rs:List (Int × Int)):List Int:=rs.flatMap fun r=>C.run r.1 (r.2-r.1+1).toNat
theorem zJf {rs:List (Int × Int)} {i:Nat} {r:Int × Int} (h:rs[i]?=some r):zCI (rs.take (i+1))=zCI (rs.take i)++C.run r.1 (r.2-r.1+1).toNat:=by
 unfold zCI;rw[Zy,h,Y8];simp
theorem zKA (S:List Int) (aa:C.ok S):∀i,i≤(zAN S).length→((zCI ((zAN S).take i)).length:Int)=zDx S i
 | 0,_=>by simp[zCI,zST]
 | i+1,h=>by
   obtain⟨r,hr⟩:∃r,(zAN S)[i]?=some r:=⟨_,Zb (by omega)⟩;obtain⟨b1,b2,b3,b4⟩:=zL9 aa hr;rw[zJf hr,zIV aa hr,Zc,C.run_len];have:=zKA S aa i (by omega);omega
theorem zRp {w:World} {base:Nat} {e e':TypeId} {size n g:Nat} {v:Value} {xs:List Value} {cs:Array Value} {fr:Nat × Nat} (h:w.ownsRow base e size v n xs) (hb:w.heap[g]?=some (.cells cs e' fr)) (he:e≠e'):some g≠v.ownBlock:=by
 intro hv;rcases h.2 with ⟨rfl,_⟩|⟨g2,cap,ae,rfl,_,aa,_⟩
 · simp[Value.ownBlock]at hv
 simp only[Value.ownBlock,Zg]at hv;subst hv;rw[hb]at aa;simp only[Zg,XN]at aa;exact he aa.2.1.symm
theorem zRq {S:List Int} (aa:C.ok S) {i:Nat} (h:i≤(zAN S).length):(zCI ((zAN S).take i)).length≤1114112:=by
 have h1:=zKA S aa i h;have h2:=(zMh aa i).2;have h3:=(zKf aa).2;omega
def zKB (xs:List Int) (w:World) (e:Ending) (w':World):Prop :=
 ∃A c,e=.returned (.slice A xs.length c)∧w'.ownsRow w.heap.size 21 1 (.slice A xs.length c) xs.length (xs.map (Value.int .i32))∧Below w.heap.size w w'
theorem zJZ (A:Option Addr) (c n B:Nat) (l:List Int) (w:World) (hn:l.length=n) (bq:n≤1000000) (bc:C.ok l) (hB:B≤w.heap.size) (hA:Sl w B A (l.map (Value.int .i32))) :
 Calls Tryz.prog 93 #[.agg #[.slice A n c]] w (zKB (zCI (zAN l)) w):=by
 have HR:=hy' (zMg A c n B l);have HN:=hy' hn;have a8:=hy' bc;have ak:=hy' (fun i=>zRq bc (i:=i));have ax:=zH3 l;rw[hn]at ax;obtain⟨rs,bb⟩:∃rs,zAN l=rs:=⟨_,rfl⟩;have bw:=hy' bb;rw[bb]at HR ax ak ⊢;obtain⟨m,hm⟩:∃m,rs.length=m:=⟨_,rfl⟩;rw[hm]at ax ak;have HM:=hy' hm;have b7:m≤500000:=by omega
 obtain⟨j0,hj0,b5,b3,bx⟩:=Z9 zCv;clear hn bc ax bb hm;go_enter Tryz.func93,Tryz.ntmps93;go_wp2_with fail;have az:Below w.heap.size w (w.alloc (.cells #[.slice A n c] 90)):=(Zd _ _).alloc (Za _) _;refine (HR.o _ HN.o bq (by have:=a8.o.2.2;rw[HN.o]at this;exact this) a8.o.2.1 (by simp;omega) (hA.belowN az hB (Za _))).mono ?_;rintro e w1 ⟨A5,c5,rfl,aa,ap⟩;have hS:=hy' (Sl.of_own aa);have a1:=az.trans (ap.mono (by simp));rw[HM.o]at aa ⊢;clear aa hA ap az;go_wp2;go_loopw [10,3] (fun vi vo wr=>∃(i:Nat) (acc:List Int),i≤m∧vi=.int .i64 i∧acc=zCI (rs.take i)∧wr.ownsRow w1.heap.size 21 1 vo acc.length (acc.map (Value.int .i32))∧Below w1.heap.size w1 wr) (fun vi _ _=>m-(intOf vi).toNat)
 case atStart=>exact⟨0,[],by omega,rfl,rfl,ZG _ _ _ _,Zd _ _⟩
 obtain⟨i,acc,hi,rfl,ag,aa,ar⟩:=hrel;obtain⟨w2,rfl⟩:∃w2:World,w2=wr:=⟨_,rfl⟩;obtain⟨q,hq⟩:∃q,acc.length=q:=⟨_,rfl⟩;rw[hq]at aa;obtain⟨A6,c6,rfl⟩:=zA3 aa;have HQ:=hy' hq;have ba:=hy' ag;have br:w1.heap.size≤w2.heap.size:=ar.size
 by_cases hlt:(i:Int)<m
 rotate_left
 · obtain rfl:i=m:=by omega
   have e0:acc=zCI rs:=by rw[ba.o,Zi (by rw[HM.o];exact Za _)]
   have E0:=hy' e0;clear e0 ag hq;go_wp2;go_ret;refine⟨A6,c6,(by rw[←E0.o,HQ.o];rfl),?_,a1.trans (ar.mono a1.size)⟩;rw[←E0.o,HQ.o];exact own_base aa a1.size
 obtain⟨⟨x,y⟩,hr⟩:∃r,rs[i]?=some r:=⟨_,Zb (by rw[HM.o];omega)⟩;obtain⟨b,o,rfl,b9,bf,bh⟩:=hS.out.pair hr;rw[←(zAU ar).1 _ _ (by omega)]at bf bh;have ao:=zJf hr;have bu:=hr;rw[←bw.o]at hr;obtain⟨r1,r2,r3,r4⟩:=zL9 a8.o hr;have hlen:=ak.o (i+1) (by omega);rw[ao,Zc,C.run_len,←ag,hq]at hlen;rw[←ag]at ao;simp only at r1 r2 r3 r4 ao hlen bf bh;obtain⟨N,hN⟩:∃N:Nat,(y-x+1).toNat=N:=⟨_,rfl⟩;rw[hN]at ao hlen;have bt:=hy' ao;have n0:(0:Int)≤(i:Int):=by omega
 have n1:(i:Int)<m:=by omega
 have bp:y=x+(N:Int)-1:=by omega
 subst bp;obtain⟨W,hW⟩:∃W,w2.alloc (.cells #[.int .i32 x,.int .i32 (x+(N:Int)-1)] 240)=W:=⟨_,rfl⟩;have aq:W.heap[w2.heap.size]?=some (.cells #[.int .i32 x,.int .i32 (x+(N:Int)-1)] 240):=by rw[←hW];exact ZW w2 _
 have au:W.ownsRow w1.heap.size 21 1 (.slice A6 q c6) q (acc.map (Value.int .i32)):=by rw[←hW];exact aa.alloc _
 have ay:Below w1.heap.size w1 W:=by rw[←hW];exact ar.alloc br _
 have b8:W.heap.size=w2.heap.size+1:=by rw[←hW];simp
 have HW:=hy' hW;have a6:=hy' aq;clear hr bu ao ag hq hW aq ar aa;go_wp2;rw[HW.o];go_loopw [3,6] (fun bk vc av=>∃k:Nat,k≤N∧vc=.int .i32 (x+(k:Int))∧av.ownsRow w1.heap.size 21 1 bk (q+k) ((acc++C.run x k).map (Value.int .i32))∧av.heap[w2.heap.size]?=some (.cells #[.int .i32 x,.int .i32 (x+(N:Int)-1)] 240)∧Below w1.heap.size w1 av∧W.heap.size≤av.heap.size) (fun _ vc _=>(x+(N:Int)-intOf vc).toNat)
 case atStart =>
  refine⟨0,by omega,by simp,?_,a6.o,ay,Za _⟩;simpa [C.run] using au
 obtain⟨k,hk,rfl,af,ae,aw,bm⟩:=hrel;obtain⟨w3,rfl⟩:∃w3:World,w3=wr:=⟨_,rfl⟩;obtain⟨A7,c7,rfl⟩:=zA3 af;obtain⟨d0,_⟩:=zIA ae 0;obtain⟨d1,_⟩:=zIA ae 1;simp only[Qt,YX,YY]at d0 d1;have bi:w1.heap.size≤w3.heap.size:=aw.size;have bo:w2.heap.size<w3.heap.size:=by omega
 have b1:0≤x+(k:Int):=by omega
 have b2:x+(k:Int)≤1114112:=by omega
 have bn:=hy' ae;clear ae
 by_cases hlt3:x+(k:Int)≤x+(N:Int)-1
 · have hZ:=hy' (Sl.lit (w:=w3.alloc (.cells #[.int .i32 (x+(k:Int))] 21)) (A:=some ⟨w3.heap.size,0,none⟩) (xs:=[.int .i32 (x+(k:Int))]) rfl 21 (0,0) (ZW w3 _));have a7:Below w3.heap.size w3 (w3.alloc (.cells #[.int .i32 (x+(k:Int))] 21)):=(Zd _ _).alloc (Za _) _;have aj:=hy' (zA6 af a7 (Za _));have b4:w1.heap.size≤(w3.alloc (.cells #[.int .i32 (x+(k:Int))] 21)).heap.size:=by simp;omega
   have bg:=hy' ((a7.block w2.heap.size bo).trans bn.o);have bl:=aw.alloc bi (.cells #[.int .i32 (x+(k:Int))] 21);have bj:w2.heap.size<(w3.alloc (.cells #[.int .i32 (x+(k:Int))] 21)).heap.size:=by simp;omega
   have hne:=zRp aj.out bg.o (by decide);have bz:=hy' (show w3.heap.size≤(w3.alloc (.cells #[.int .i32 (x+(k:Int))] 21)).heap.size by simp);clear af a7 aw;go_wp2_with (at_builtin;refine zAh _ rfl _ _ _ rfl w1.heap.size 21 j0 _ 1 4 Tryz.underlying79 hj0 b5 b3 bx rfl (by omega) _ (q+k) _ rfl aj.out _ (some ⟨w3.heap.size,0,none⟩) 1 1 [.int .i32 (x+(k:Int))] rfl rfl hZ.out (by simp[Value.oneCell']) (by simp only[maxLen];omega) (by omega) b4 ?_;intro v1 w5 ah b6 ai;obtain⟨A8,c8,rfl⟩:=zA3 ah);refine⟨⟨k+1,by omega,by go_num,?_,(ai.block _ bj hne).trans bg.o,bl.trans b6,Zh bm (Zh bz.o ai.size)⟩,by simp[intOf];omega⟩;rw[zQ4,←Zz,ZL,←Yi];exact ah
 obtain rfl:k=N:=by omega
 have bs:w1.heap.size≤w3.heap.size:=bi;go_wp2;refine⟨⟨i+1,acc++C.run x k,by omega,by go_num,bt.o.symm,?_,aw⟩,by simp[intOf];omega⟩;rw[Zc,HQ.o,C.run_len];exact af
end Go.Proofs.YtdbpjmfflofadaaGreatDoor
namespace Go.Proofs.YtdbpjmfflofadaaGreatDoor
theorem zML {a:Int} {n:Nat} {d:Int}:d∈C.run a n↔a≤d∧d<a+(n:Int):=by
 unfold C.run;rw[Jh];constructor
 · rintro⟨i,hi,rfl⟩;rw[Jz]at hi;omega
 rintro⟨h1,h2⟩;exact⟨(d-a).toNat,by rw[Jz];omega,by omega⟩
theorem zKC (rs:List (Int × Int)) (d:Int):d∈zCI rs↔zR6 rs d=true:=by
 unfold zCI zR6;rw[List.mem_flatMap,YG];constructor
 · rintro⟨r,hr,hd⟩;rw[zML]at hd;exact⟨r,hr,by simp;omega⟩
 rintro⟨r,hr,hd⟩;simp at hd;exact⟨r,hr,by rw[zML];omega⟩
theorem zLo {S:List Int} (aa:C.ok S) (hC:∀d,C.mem S d=true→C.isC d=true):C.chars (zCI (zAN S))=S:=by
 obtain⟨h1,h2⟩:=zBL (zCI (zAN S));refine zQU _ _ h1.1 aa.1 fun d=>?_
 rw[h2 d]
 have e:decide (d∈zCI (zAN S))=C.mem S d:=by
  rw[←zHb S aa d,Yx,YE];exact zKC _ d
 rw[e];cases hm:C.mem S d
 · rfl
 rw[hC d hm];rfl
theorem zMM:∀(cs acc:List Int),(zEU cs acc).length≤acc.length+2*cs.length
 | [],acc=>by simp[zEU]
 | c::t,acc=>by
   have h:(C.step C.isC acc c (c+1)).length≤acc.length+2:=by
    unfold C.step;split
    · split
      · rw[Zc,List.length_dropLast];simp;omega
      rw[Zc];simp
    omega
   have h2:=zMM t (C.step C.isC acc c (c+1));show (zEU t (C.step C.isC acc c (c+1))).length≤_;rw[ZB];omega
theorem C.chars_len (l:List Int):(C.chars l).length≤2*l.length:=by
 have h1:=zMM (zEV l) []
 have h2:(zEV l).length≤l.length:=by
  unfold zEV Lib.compactUpTo;rw[Ze];exact Zh (XR _ _) (by simp)
 unfold C.chars;simp at h1;omega
end Go.Proofs.YtdbpjmfflofadaaGreatDoor
namespace Go.Proofs.YtdbpjmfflofadaaGreatDoor
open Go.RowKit
end Go.Proofs.YtdbpjmfflofadaaGreatDoor
namespace Go.Proofs.YtdbpjmfflofadaaGreatDoor
theorem zJg {T:List Rw.Row} {S:List Int} (h:Ud.Ok T S) {a:Int} (ha:C.isC a=true):∀y∈Ud.full T a,C.isC y=true:=by
 obtain⟨l,hl⟩:=zDu h.chk a;have hf:Ud.full T a=l:=by unfold Ud.full;rw[hl];rfl
 rw[hf];unfold Md.full at hl;rw[zBI _ _ _ _ (by simp)]at hl;cases hv:Md.lv (Md.mp T) (T.length+3) a with
 | none=>rw[hv]at hl;cases hl
 | some b =>
   rw[hv,Zv]at hl;unfold zC6 at hl;split at hl
   rotate_left
   · cases hl
   simp only[ZV,Zg]at hl;subst hl;refine zIR (Q:=fun y=>C.isC y=true) (fun c d hd=>?_) _ _ _ hv ha;unfold Md.mp at hd;split at hd
   · rename_i hp;rw[zDw]at hp;simp only[Zo]at hp;have hk:=zH9 c;have aa:zA2 c=4∨zA2 c=5:=by omega
     have hs:=zAy c aa;rcases aa with h4|h5
     · rw[zAY c h4]at hd;simp only[XP,Xa,J7]at hd;unfold C.isC;simp only[Zo];omega
     rw[zBb c h5]at hd;simp only[XP,Xa,J7]at hd;unfold C.isC;simp only[Zo];omega
   unfold zB3 at hd;cases hf:Md.find T c with
   | none=>rw[hf]at hd;simp at hd
   | some r =>
     rw[hf]at hd;exact ((h.good r (zAx hf).1).2.2.2.2.2 d (by simpa using hd)).1
end Go.Proofs.YtdbpjmfflofadaaGreatDoor
namespace Go.Proofs.YtdbpjmfflofadaaGreatDoor
open Go.RowKit
theorem zMN (a b:Int):(Hg.joinK a b).2=true→zAl (Hg.joinK a b).1=(a,b,true):=by
 unfold Hg.joinK;split
 · rename_i h;obtain⟨ha,hb⟩:=h;have h1:=zG2 a ha;have h2:=zEQ b hb;intro _;simp only[];rw[zAY _ (zD2 _ (by omega) (by omega) (by omega))];refine QI ?_ (QI ?_ rfl) <;> simp only[] <;> omega
 split
 · rename_i h;obtain⟨ha,hb⟩:=h;have h1:=zAy a (.inl ha);have h2:=zHG b hb;have h3:(a-44032)%28=0:=by unfold zA2 at ha;grind
   intro _;simp only[];have h5:zA2 (a+b-4519)=5:=by unfold zA2;grind
   rw[zBb _ h5];refine QI ?_ (QI ?_ rfl) <;> simp only[] <;> omega
 intro h;simp at h
theorem zQ5 (a b:Int):(Hg.joinK a b).2=decide ((zA2 a=1∧zA2 b=2)∨(zA2 a=4∧zA2 b=3)):=by
 unfold Hg.joinK;split
 · rename_i h;simp[h]
 split
 · rename_i h;simp[h]
 rename_i h h';simp[h,h']
theorem zTI {z:Int} {k:Nat} (h:z=k) (hk:k≤4000000):wrap64 z=k:=by
 subst h;unfold wrap64;omega
theorem zSN {z y:Int} (h:z=y) (hk:0≤y∧y≤4000000):wrap64 z=y:=by
 subst h;unfold wrap64;omega
def Ss.At (w:World) (g sz:Nat) (Z:List Int):Prop:=∃R:List Value,Z.length+R.length=sz∧Rw.At w g 21 (Z.map (Value.int .i32)++R)
theorem Ss.At.cell {w:World} {g sz:Nat} {Z:List Int} (h:Ss.At w g sz Z) {i:Nat} {x:Int} (hx:Z[i]?=some x):w.cell? ⟨g,i,none⟩=some (.int .i32 x):=by
 obtain⟨R,hs,h⟩:=h;refine Rw.At.cell h i ?_;rw[Z1 (by rw[Ze];exact (List.getElem?_eq_some_iff.1 hx).1),Zt,hx];rfl
theorem Ss.At.fro {w:World} {g sz:Nat} {Z:List Int} (h:Ss.At w g sz Z) (i:Nat):w.frozen? ⟨g,i,none⟩=false:=by
 obtain⟨R,hs,h⟩:=h;exact Rw.At.frozen h i
theorem Ss.At.lt {w:World} {g sz:Nat} {Z:List Int} (h:Ss.At w g sz Z):g<w.heap.size:=by
 obtain⟨R,hs,h⟩:=h;exact Rw.At.lt h
theorem Ss.At.set {w:World} {g sz:Nat} {Z:List Int} (h:Ss.At w g sz Z) (i:Nat) (hi:i<Z.length) (x:Int):Ss.At (w.setCell ⟨g,i,none⟩ (.int .i32 x)) g sz (Z.set i x):=by
 obtain⟨R,hs,h⟩:=h;refine⟨R,by rw[YF];exact hs,?_⟩;rw[QH,←JD _ _ (by rw[Ze];exact hi)];exact Rw.At.set h i _
theorem Ss.At.swapA {w:World} {g sz:Nat} {P M Q:List Int} {x y:Int} (h:Ss.At w g sz (P++x::(M++y::Q))):Ss.At ((w.setCell ⟨g,P.length,none⟩ (.int .i32 y)).setCell ⟨g,P.length+1+M.length,none⟩ (.int .i32 x)) g sz (P++y::(M++x::Q)):=by
 have:=(h.set P.length (by simp) y).set (P.length+1+M.length) (by simp;omega) x;rw[zLi]at this;exact this
theorem Ss.At.swapB {w:World} {g sz:Nat} {P M Q:List Int} {x y:Int} (h:Ss.At w g sz (P++x::(M++y::Q))):Ss.At ((w.setCell ⟨g,P.length+1+M.length,none⟩ (.int .i32 x)).setCell ⟨g,P.length,none⟩ (.int .i32 y)) g sz (P++y::(M++x::Q)):=by
 have:=(h.set (P.length+1+M.length) (by simp;omega) x).set P.length (by simp) y;rw[zRi]at this;exact this
theorem Ss.At.below {w w':World} {g sz:Nat} {Z:List Int} (h:Ss.At w g sz Z) (hb:Below w.heap.size w w'):Ss.At w' g sz Z:=by
 obtain⟨R,hs,h⟩:=h;exact⟨R,hs,Rw.At.below h hb⟩
theorem Ss.At.drew {w:World} {g sz:Nat} {Z:List Int} (h:Ss.At w g sz Z):Ss.At w.drew g sz Z:=h
theorem Ss.grown_drew {w w':World} {row:Option Nat} (h:w.grownBy w' row):w.grownBy w'.drew row:=⟨h.os,h.tape,h.output,h.size,h.block⟩
theorem zAT (w:World) (row:Option Nat):w.grownBy w row:=⟨rfl,rfl,rfl,Za _,fun _ _ _=>rfl⟩
theorem Ss.grown_below {w w':World} {row:Option Nat} (h:Below w.heap.size w w'):w.grownBy w' row:=⟨h.os,h.tape,h.output,h.size,fun k hk _=>h.block k hk⟩
theorem Ss.grown_set {w w':World} {g:Nat} (h:w.grownBy w' (some g)) (i:Nat) (v:Value):w.grownBy (w'.setCell ⟨g,i,none⟩ v) (some g):=zA0 h (Rw.grown_set g i v)
theorem zIt (sz g o n0 cap a b n:Nat) (cv:Value) (P X M Y Q:List Int) (w:World) (hZ:Ss.At w g sz (P++(X++(M++(Y++Q))))) (hP:P.length=o+a) (hX:X.length=n) (hY:Y.length=n) (hM:a+n+M.length=b) (hn:b+n≤n0) (av:n0≤1000000) :
 Calls Tryz.prog 262 #[.slice (some ⟨g,o,none⟩) n0 cap,.int .i64 a,.int .i64 b,.int .i64 n,cv] w fun e w'=>e=.returned (.tuple #[])∧Ss.At w' g sz (P++(Y++(M++(X++Q))))∧w.grownBy w' (some g):=by
 have ag:=hy' (Ss.mid_all (P:=P) (M:=M) (Q:=Q) hX hY);have HZ:=hy' hZ;have HX:=hy' hX;have HY:=hy' hY;have HP:=hy' hP;have HM:=hy' hM;clear hZ hX hY hP hM;go_enter Tryz.func262,Tryz.ntmps262;go_wp2_with fail;go_loopw [10] (fun i wr=>∃t:Nat,t≤n∧i=.int .i64 t∧Ss.At wr g sz (Ss.mid P X M Y Q t)∧w.grownBy wr (some g)) (fun i _=>n-(intOf i).toNat)
 case atStart=>exact⟨0,Zq _,rfl,by rw[zO8];exact HZ.o,zAT _ _⟩
 obtain⟨t,ht,rfl,aa,af⟩:=hrel;have aj:=hy' af
 by_cases hlt:t<n
 rotate_left
 · obtain rfl:t=n:=by omega
   have tI:¬(t:Int)<t:=by omega
   rw[ag.o]at aa;have aq:=hy' aa;clear aa af;go_wp2_with fail;go_end0;exact⟨rfl,aq.o,aj.o⟩
 obtain⟨x,hx⟩:∃x,X[t]?=some x:=⟨_,Zb (by rw[HX.o];exact hlt)⟩;obtain⟨y,hy⟩:∃y,Y[t]?=some y:=⟨_,Zb (by rw[HY.o];exact hlt)⟩;obtain⟨e1,e2⟩:=zO9 (P:=P) (M:=M) (Q:=Q) hx hy;obtain⟨l1,l2⟩:=Ss.mid_len (P:=P) (M:=M) HX.o HY.o hlt;rw[HP.o]at l1 l2;have ao:(P++Y.take t).length+1+(X.drop (t+1)++(M++X.take t)).length=o+(b+t):=by have:=HM.o;omega
 have ak:(P++Y.take t).length=o+(a+t):=by omega
 have ah:=hy' ak;have ai:=hy' ao;clear l1 l2 ak ao;rw[e1]at aa;have c1:=aa.cell (zC7 _ _ _);have c2:=aa.cell (zBw _ _ _ _ _);rw[ah.o]at c1;rw[ai.o]at c2;have f1:=aa.fro (o+(a+t));have f2:=aa.fro (o+(b+t));have gl:=aa.lt;have ae:=aa.swapA;rw[←e2,ai.o,ah.o]at ae;have tI:(t:Int)<n:=by omega
 have a0:(0:Int)≤(a:Int)+t:=by omega
 have a1:(a:Int)+t<n0:=by have:=HM.o;omega
 have b0:(0:Int)≤(b:Int)+t:=by omega
 have b1:(b:Int)+t<n0:=by omega
 have ar:¬a=b:=by have:=HM.o;omega
 have au:¬b=a:=fun h=>ar h.symm
 have wA:wrap64 ((a:Int)+t)=(a:Int)+t:=zSN (by omega) (by omega);have wB:wrap64 ((b:Int)+t)=(b:Int)+t:=zSN (by omega) (by omega);have tA:((a:Int)+t).toNat=a+t:=by omega
 have tB:((b:Int)+t).toNat=b+t:=by omega
 have ap:=hy' ae;clear hx hy e1 e2 aa af ae;go_wp2;go_region;go_wp2;exact⟨⟨t+1,by omega,by go_num,ap.o,Ss.grown_drew (Ss.grown_set (Ss.grown_set aj.o _ _) _ _)⟩,by simp[intOf];omega⟩
def zCk (a b:Int):Int:=if a<b then -1 else if b<a then 1 else 0
theorem zD8 (a b:Int):zCk a b<0↔a<b:=by
 unfold zCk;split
 · simp;assumption
 split
 · constructor
   · intro h;omega
   intro h;omega
 constructor
 · intro h;omega
 intro h;omega
def Ss.Cmp (fid:FuncId) (cd:Option Addr) (k:Int→Int) (g:Nat) (w:World):Prop:=∀W,w.grownBy W (some g)→∀x y:Int,Calls Tryz.prog fid #[.int .i32 x,.int .i32 y,.pointer cd] W fun e w'=>e=.returned (.int .i64 (zCk (k x) (k y)))∧Below W.heap.size W w'
theorem Ss.Cmp.grown {fid:FuncId} {cd:Option Addr} {k:Int→Int} {g:Nat} {w w':World} (h:Ss.Cmp fid cd k g w) (hg:w.grownBy w' (some g)):Ss.Cmp fid cd k g w':=fun W hW=>h W (zA0 hg hW)
theorem zLp (sz g o n0 cap a m b:Nat) (cv:Value) (P U V Q:List Int) (w:World) (hZ:Ss.At w g sz (P++(U++(V++Q)))) (hP:P.length=o+a) (hU:a+U.length=m) (hV:m+V.length=b) (hu:a<m) (hv:m<b) (hn:b≤n0) (bh:n0≤1000000) :
 Calls Tryz.prog 257 #[.slice (some ⟨g,o,none⟩) n0 cap,.int .i64 a,.int .i64 m,.int .i64 b,cv] w fun e w'=>e=.returned (.tuple #[])∧Ss.At w' g sz (P++(V++(U++Q)))∧w.grownBy w' (some g):=by
 have ba:=hy' (fun i k n P X M Y Q W h1 h2 h3 h4 h5 h6=>zIt sz g o n0 cap i k n cv P X M Y Q W h1 h2 h3 h4 h5 h6 bh);have HZ:=hy' hZ;have HP:=hy' hP;have HU:=hy' hU;have HV:=hy' hV;clear hZ hP hU hV;go_enter Tryz.func257,Tryz.ntmps257;go_wp2_with fail;go_loopw [10,11] (fun vi vj wr=>∃(i j:Nat) (X Y Pl Sr:List Int),1≤i∧1≤j∧i≤m∧m+j≤b∧vi=.int .i64 i∧vj=.int .i64 j∧X.length=i∧Y.length=j∧Ss.At wr g sz (Pl++(X++(Y++Sr)))∧Pl.length=o+(m-i)∧Pl++(Y++(X++Sr))=P++(V++(U++Q))∧w.grownBy wr (some g)) (fun vi vj _=>(intOf vi).toNat+(intOf vj).toNat)
 case atStart=>exact⟨m-a,b-m,U,V,P,Q,by omega,by omega,by omega,by omega,ZR (Value.int .i64) (by omega),ZR (Value.int .i64) (by omega),by have:=HU.o;omega,by have:=HV.o;omega,HZ.o,by rw[HP.o];omega,rfl,zAT _ _⟩
 obtain⟨i,j,X,Y,Pl,Sr,bj,bg,bk,bn,rfl,rfl,hX,hY,ai,ak,aq,au⟩:=hrel;have a1:=hy' au;have a8:=hy' aq;have bc:=hy' ak;have HX:=hy' hX;have HY:=hy' hY;rcases Qj i j with hij|hij|hij
 · have ag:Y=Y.take (j-i)++Y.drop (j-i):=(Zu _ _).symm;have ay:(Y.take (j-i)).length=j-i:=by rw[Zn];omega
   have ar:(Y.drop (j-i)).length=i:=by rw[ZH];omega
   obtain⟨Y1,aw⟩:∃l,Y.take (j-i)=l:=⟨_,rfl⟩;obtain⟨Y2,ax⟩:∃l,Y.drop (j-i)=l:=⟨_,rfl⟩;rw[aw,ax]at ag;rw[aw]at ay;rw[ax]at ar;have aa:Ss.At wr g sz (Pl++(X++(Y1++(Y2++Sr)))):=by rw[ag]at ai;simpa using ai
   have hS:=hy' (ba.o (m-i) (m+j-i) i Pl X Y1 Y2 Sr wr aa ak hX ar (by omega) (by omega));have hne:((i:Int) != (j:Int))=true:=by simp;omega
   have hgt:¬((i:Int) > (j:Int)):=by omega
   have az:=hy' ag;have bf:=hy' ay;have bm:=hy' ar;clear ai aa ag aw ax au aq ak hX hY ay ar;go_wp2_with fail;rw[show (m:Int)-i=((m-i:Nat):Int) from by omega,show (m:Int)+j-i=((m+j-i:Nat):Int) from by omega];refine hS.out.mono ?_;rintro e w1 ⟨rfl,ae,aj⟩;have af:=hy' ae;have ao:=hy' (zA0 a1.o aj);clear ae aj hS;go_wp2_with fail;exact⟨⟨i,j-i,Y2,Y1,Pl,X++Sr,bj,by omega,bk,by omega,rfl,ZR (Value.int .i64) (by omega),bm.o,bf.o,af.o,bc.o,by rw[←a8.o,az.o];simp,ao.o⟩,by simp[intOf];omega⟩
 · subst hij;have aa:Ss.At wr g sz (Pl++(X++([]++(Y++Sr)))):=by simpa using ai
   have hS:=hy' (ba.o (m-i) m i Pl X [] Y Sr wr aa ak hX hY (by simp;omega) (by omega));have hne:((i:Int) != (i:Int))=false:=by simp
   clear ai aa au aq ak hX hY;go_wp2_with fail;rw[show (m:Int)-i=((m-i:Nat):Int) from by omega];refine hS.out.mono ?_;rintro e w1 ⟨rfl,ae,aj⟩;have af:=hy' ae;have ao:=hy' (zA0 a1.o aj);clear ae aj hS;go_wp2_with fail;go_end0;exact⟨rfl,by rw[←a8.o];simpa using af.o,ao.o⟩
 have ah:X=X.take j++X.drop j:=(Zu _ _).symm;have ap:(X.take j).length=j:=by rw[Zn];omega
 have a7:(X.drop j).length=i-j:=by rw[ZH];omega
 obtain⟨X1,a6⟩:∃l,X.take j=l:=⟨_,rfl⟩;obtain⟨X2,bb⟩:∃l,X.drop j=l:=⟨_,rfl⟩;rw[a6,bb]at ah;rw[a6]at ap;rw[bb]at a7;have aa:Ss.At wr g sz (Pl++(X1++(X2++(Y++Sr)))):=by rw[ah]at ai;simpa using ai
 have hS:=hy' (ba.o (m-i) m j Pl X1 X2 Y Sr wr aa ak ap hY (by omega) (by omega));have hne:((i:Int) != (j:Int))=true:=by simp;omega
 have hgt:(i:Int) > (j:Int):=by omega
 have av:=hy' ah;have bi:=hy' ap;have bl:=hy' a7;clear ai aa ah a6 bb au aq ak hX hY ap a7;go_wp2_with fail;rw[show (m:Int)-i=((m-i:Nat):Int) from by omega];refine hS.out.mono ?_;rintro e w1 ⟨rfl,ae,aj⟩;have af:=hy' ae;have ao:=hy' (zA0 a1.o aj);clear ae aj hS;go_wp2_with fail;exact⟨⟨i-j,j,X2,X1,Pl++Y,Sr,by omega,bg,by omega,bn,congrArg (Value.int .i64) (by omega),rfl,bl.o,bi.o,by simpa using af.o,by rw[List.length_append,bc.o,HY.o];omega,by rw[←a8.o,av.o];simp,ao.o⟩,by simp[intOf];omega⟩
theorem zJh (l:List Int):l=[]∨∃s x,l=s++[x]:=by
 rcases YT l with h|⟨s,x,h⟩
 · exact .inl h
 exact .inr ⟨s,x,by rw[h,YU]⟩
theorem zIu (fid:FuncId) (cd:Option Addr) (k:Int→Int) (ap:∀(args:Array Value) (w:World),(callFunc fid args).run Tryz.prog w=.ok (.enter fid args) w)
 (sz g o n0 cap a b:Nat) (P B Q:List Int) (w:World) (hC:Ss.Cmp fid cd k g w) (hZ:Ss.At w g sz (P++(B++Q))) (hP:P.length=o+a) (hB:a+B.length=b) (hn:b≤n0) (bu:n0≤1000000) :
 Calls Tryz.prog 240 #[.slice (some ⟨g,o,none⟩) n0 cap,.int .i64 a,.int .i64 b,.func (.func fid) #[] #[.pointer cd]] w fun e w'=>e=.returned (.tuple #[])∧(∃B',Ss.so k B'∧Ss.eqv k B B'∧Ss.At w' g sz (P++(B'++Q)))∧w.grownBy w' (some g):=by
 have ba:=hy' ap;have HC:=hy' hC;have HZ:=hy' hZ;have HP:=hy' hP;have HB:=hy' hB;clear ap hC hZ hP hB;go_enter Tryz.func240,Tryz.ntmps240;go_wp2_with fail;go_loopw [8,9] (fun i _ wr=>∃(t:Nat) (S:List Int),1≤t∧t≤B.length+1∧i=.int .i64 ((a+t:Nat):Int)∧Ss.so k S∧Ss.eqv k (B.take t) S∧Ss.At wr g sz (P++(S++(B.drop t++Q)))∧w.grownBy wr (some g)) (fun i _ _=>b+1-(intOf i).toNat)
 case atStart =>
  refine⟨1,B.take 1,Za _,by omega,ZR (Value.int .i64) (zTI (by omega) (by have:=HB.o;omega)),?_,Ss.eqv.refl _ _,by rw[←Zz (B.take 1),Zu];exact HZ.o,zAT _ _⟩;cases B with
  | nil=>exact zGB k
  | cons x l=>exact zMy k x
 obtain⟨t,S,bt,bx,rfl,au,aj,aa,af⟩:=hrel
 by_cases hlt:t<B.length
 rotate_left
 · have hd:B.drop t=[]:=YP (by omega);have aq:B.take t=B:=Zi (by omega);rw[hd,ZV]at aa;rw[aq]at aj;have jI:¬((a+t:Nat):Int)<b:=by have:=HB.o;omega
   have F1:=hy' au;have F2:=hy' aj;have F3:=hy' aa;have ar:=hy' af;clear au aj aa af hd aq;go_wp2_with fail;go_end0;exact⟨rfl,⟨S,F1.o,F2.o,F3.o⟩,ar.o⟩
 obtain⟨x,hx⟩:∃x,B[t]?=some x:=⟨_,Zb hlt⟩;obtain⟨a1,b1⟩:=List.getElem?_eq_some_iff.1 hx;have hdr:B.drop t=x::B.drop (t+1):=by rw[ZJ a1,b1]
 have aq:B.take (t+1)=B.take t++[x]:=by rw[Zy,hx];rfl
 obtain⟨D,hD⟩:∃D,B.drop (t+1)=D:=⟨_,rfl⟩;rw[hD]at hdr;rw[hdr]at aa;have a8:S.length=t:=by rw[aj.length,Zn];omega
 have jI:((a+t:Nat):Int)<b:=by have:=HB.o;omega
 have a7:=hy' au;have bq:=hy' aj;have ay:=hy' af;have bn:=hy' aq;have HD:=hy' hD;have bo:=hy' aa;have bc:=hy' a8;have bk:=hy' HB.o;clear au aj af aq hD hdr hx aa a8;go_wp2_with fail;obtain⟨w1,rfl⟩:∃w1:World,w1=wr:=⟨_,rfl⟩;go_loopw [9] (fun j wq=>∃(S1 G:List Int) (jj:Nat),S1++G=S∧j=.int .i64 jj∧jj=a+S1.length∧(∀y∈G,k x<k y)∧Ss.At wq g sz (P++(S1++(x::(G++(D++Q)))))∧w1.grownBy wq (some g)) (fun j _=>(intOf j).toNat-a)
 case atStart=>exact⟨S,[],a+t,by simp,rfl,by rw[bc.o],fun y hy=>by simp at hy,bo.o,zAT _ _⟩
 obtain⟨S1,G,jj,ai,rfl,ao,hG,aa,af⟩:=hrel
 have ag:(∀y∈S1,k y≤k x)→Ss.so k (S1++x::G)∧Ss.eqv k (B.take (t+1)) (S1++x::G)∧P++(S1++(x::(G++(D++Q))))=P++((S1++x::G)++(B.drop (t+1)++Q)):=fun bh=>by
  have h1:=a7.o;rw[←ai]at h1;obtain⟨h2,h3⟩:=Ss.insert h1 bh hG;refine⟨h2,?_,by rw[HD.o];simp⟩;rw[bn.o];have h4:=bq.o.app (Ss.eqv.refl k [x]);rw[←ai]at h4;exact h4.trans h3
 rcases zJh S1 with rfl|⟨S2,s,rfl⟩
 · obtain⟨f1,f2,f3⟩:=ag (fun y hy=>by simp at hy);rw[f3]at aa;have F1:=hy' f1;have F2:=hy' f2;have F3:=hy' aa;have ar:=hy' (zA0 ay.o af);have hj:¬(a<jj):=by simp at ao;omega
   have gl:=aa.lt;clear ag f1 f2 f3 aa ai hG af ao;go_wp2_with fail;refine zAa (by kernel_rfl) (by kernel_rfl) ?_
   repeat (go_big_quiet_step (fail))
   refine wpQuiet_nil ?_;intro xw;have ax:=hy' (F3.o.below xw.below);have ak:=hy' (zA0 ar.o (Ss.grown_below xw.below));go_wp2_with fail;exact⟨⟨t+1,[]++x::G,by omega,by omega,by go_num,F1.o,F2.o,ax.o,ak.o⟩,by simp[intOf];omega⟩
 obtain⟨j1,rfl⟩:∃j1,jj=j1+1:=⟨a+S2.length,by rw[ao,Zc];rfl⟩;have av:j1=a+S2.length:=by simp at ao;omega
 have e1:P++((S2++[s])++(x::(G++(D++Q))))=(P++S2)++s::([]++x::(G++(D++Q))):=by simp
 have e2:(P++S2)++x::([]++s::(G++(D++Q)))=P++(S2++(x::((s::G)++(D++Q)))):=by simp
 have ae:=aa;rw[e1]at ae;have l1:(P++S2).length=o+j1:=by rw[Zc,HP.o];omega
 have l2:(P++S2).length+1+([]:List Int).length=o+(j1+1):=by rw[l1];rfl
 have L1:=hy' l1;have L2:=hy' l2;clear l1 l2;have c1:=ae.cell (zC7 _ _ _);have c2:=ae.cell (zBw _ _ _ _ _);rw[L1.o]at c1;rw[L2.o]at c2;have gl:=aa.lt;have f1:=aa.fro (o+j1);have f2:=aa.fro (o+(j1+1))
 have b2:j1+1<n0:=by
  have h1:=ZR List.length ai;have h2:=bc.o;have h3:=bk.o;simp at h1;omega
 have j0:(0:Int)≤j1:=by omega
 have bz:(j1:Int)<n0:=by omega
 have bw:(0:Int)≤(j1:Int)+1:=by omega
 have bi:(j1:Int)+1<n0:=by omega
 have bs:(a:Int)<(j1:Int)+1:=by omega
 have tj:((j1:Int)+1).toNat=j1+1:=by omega
 have aw:=hy' ae;have bp:=hy' aa;have ar:=hy' (zA0 ay.o af);have bg:=hy' af;have C1:=hy' (Ext.call (w:=wr) fun W hW=>HC.o W (zA0 (zA0 ay.o af) (Ss.grown_below hW)) x s);have x1:=Ext.cells c1 gl;have x2:=Ext.cells c2 gl
 by_cases hk:k x<k s
 · have hv:zCk (k x) (k s) = -1:=Zl hk;rw[hv]at C1
   have bm:Hy (∀y∈s::G,k x<k y):=hy' fun y hy=>by
    rcases List.mem_cons.1 hy with rfl|hy
    · exact hk
    exact hG y hy
   have bl:Hy (S2++(s::G)=S):=hy' (by rw[←ai];simp);have E2:=hy' e2;have bj:=hy' av;clear ag aa ae hG ai af ao e1 e2 hv av;go_wp2_with fail;refine zAa (by kernel_rfl) (by kernel_rfl) ?_;have ap:=ba.o
   repeat (go_big_quiet_step (with_reducible exact C1.o _))
   clear ap;refine wpQuiet_nil ?_;intro xw;have ah:=aw.o.below xw.below;have az:=ah.swapB;rw[E2.o,L2.o,L1.o]at az;have a6:=hy' az;have ak:=hy' (zA0 bg.o (Ss.grown_below xw.below));have k1:=x1 xw;have k2:=x2 xw;have g1:=ah.fro (o+j1);have g2:=ah.fro (o+(j1+1));have bf:=ah.lt;obtain⟨wx,bb⟩:∃wx,xw.val=wx:=⟨_,rfl⟩;rw[bb]at a6 ak k1 k2 g1 g2 bf ⊢;clear x1 x2 c1 c2 f1 f2 gl ah az bb;go_wp2_with fail;go_region;go_wp2;exact⟨⟨S2,s::G,j1,bl.o,rfl,bj.o,bm.o,a6.o,Ss.grown_drew (Ss.grown_set (Ss.grown_set ak.o _ _) _ _)⟩,by simp[intOf];omega⟩
 obtain⟨v,hv⟩:∃v,zCk (k x) (k s)=v:=⟨_,rfl⟩;have br:¬v<0:=by rw[←hv,zD8];exact hk
 rw[hv]at C1
 have hle:∀y∈S2++[s],k y≤k x:=by
  have h1:=a7.o;rw[←ai]at h1;have h2:=h1.left;intro y hy;rcases List.mem_append.1 hy with hy|hy
  · have:=h2.cross y hy s ZI;omega
  rw[ZE]at hy;rw[hy];omega
 obtain⟨q1,q2,q3⟩:=ag hle;rw[q3]at aa;have F1:=hy' q1;have F2:=hy' q2;have F3:=hy' aa;clear ag aa ae hG ai af ao e1 e2 hv av q1 q2 q3 hle hk;go_wp2_with fail;refine zAa (by kernel_rfl) (by kernel_rfl) ?_;have ap:=ba.o
 repeat (go_big_quiet_step (with_reducible exact C1.o _))
 clear ap;refine wpQuiet_nil ?_;intro xw;have ax:=hy' (F3.o.below xw.below);have ak:=hy' (zA0 ar.o (Ss.grown_below xw.below));go_wp2_with fail;exact⟨⟨t+1,(S2++[s])++x::G,by omega,by omega,by go_num,F1.o,F2.o,ax.o,ak.o⟩,by simp[intOf];omega⟩
def zGJ (k:Int→Int) (sz g:Nat) (P A B Q:List Int) (w:World) (e:Ending) (w':World):Prop:=e=.returned (.tuple #[])∧(∃C,Ss.so k C∧Ss.eqv k (A++B) C∧Ss.At w' g sz (P++(C++Q)))∧w.grownBy w' (some g)
theorem zF1 {P A B Q:List Int} {t:Nat} {y:Int} (h:B[t]?=some y):(P++(A++(B++Q)))[P.length+A.length+t]?=some y:=by
 rw[ZO (by omega),ZO (by omega),Z1 (by have:=(List.getElem?_eq_some_iff.1 h).1;omega)];rw[←h];congr 1;omega
theorem zGe {P A R:List Int} {t:Nat} {y:Int} (h:A[t]?=some y):(P++(A++R))[P.length+t]?=some y:=by
 rw[ZO (by omega),Z1 (by have:=(List.getElem?_eq_some_iff.1 h).1;omega)];rw[←h];congr 1;omega
theorem zQ6 (fid:FuncId) (cd:Option Addr) (k:Int→Int) (ah:∀(args:Array Value) (w:World),(callFunc fid args).run Tryz.prog w=.ok (.enter fid args) w)
 (sz g o n0 cap a m b:Nat) (P:List Int) (x:Int) (B Q:List Int) (w:World) (hC:Ss.Cmp fid cd k g w) (hZ:Ss.At w g sz (P++([x]++(B++Q)))) (hP:P.length=o+a) (hm:a+1=m) (hB:m+B.length=b) (hn:b≤n0) (a7:n0≤1000000) (hs:Ss.so k B) :
 Calls Tryz.prog 241 #[.slice (some ⟨g,o,none⟩) n0 cap,.int .i64 a,.int .i64 m,.int .i64 b,.func (.func fid) #[] #[.pointer cd]] w (zGJ k sz g P [x] B Q w):=by
 have ay:=hy' ah;have HC:=hy' hC;have HZ:=hy' hZ;have HP:=hy' hP;have HB:=hy' hB;have HS:=hy' hs;subst hm
 have gz:∀(wr:World),Ss.At wr g sz (P++([x]++(B++Q)))→wr.cell? ⟨g,o+a,none⟩=some (.int .i32 x):=fun wr h=>by
  have:=h.cell (zGe (P:=P) (A:=[x]) (R:=B++Q) (t:=0) rfl);rw[YQ,HP.o]at this;exact this
 have GZ:=hy' gz;clear ah hC hZ hP hB hs gz;go_enter Tryz.func241,Tryz.ntmps241;go_wp2_with fail;go_loopw [10,11,12] (fun vi vj _ wr=>∃i j:Nat,a+1≤i∧i≤j∧j≤b∧vi=.int .i64 i∧vj=.int .i64 j∧(∀y,a+1<i→B[i-(a+1)-1]?=some y→k y<k x)∧(∀y,B[j-(a+1)]?=some y→k x≤k y)∧Ss.At wr g sz (P++([x]++(B++Q)))∧w.grownBy wr (some g)) (fun vi vj _ _=>(intOf vj).toNat-(intOf vi).toNat)
 case atStart =>
  have:=HB.o;refine⟨a+1,b,Za _,by omega,Za _,rfl,rfl,fun y h=>by omega,fun y h=>?_,HZ.o,zAT _ _⟩;rw[Yn (by omega)]at h;cases h
 obtain⟨i,j,hi,hij,az,rfl,rfl,h1,h2,aa,ae⟩:=hrel
 by_cases hlt:i<j
 · have a6:=HB.o;obtain⟨y,hy⟩:∃y,B[(i+j)/2-(a+1)]?=some y:=⟨_,Zb (by omega)⟩;have c1:=aa.cell (zF1 (P:=P) (A:=[x]) (Q:=Q) hy);rw[HP.o,show o+a+([x]:List Int).length+((i+j)/2-(a+1))=o+(i+j)/2 by simp;omega]at c1;have c2:=GZ.o wr aa;have gl:=aa.lt;have iI:(i:Int)<j:=by omega
   have m0:(0:Int)≤(((i+j)/2:Nat):Int):=by omega
   have m1:(((i+j)/2:Nat):Int)<n0:=by omega
   have a0:(0:Int)≤(a:Int):=by omega
   have a1:(a:Int)<n0:=by omega
   have C1:=hy' (Ext.call (w:=wr) fun W hW=>HC.o W (zA0 ae (Ss.grown_below hW)) y x);have x1:=Ext.cells c1 gl;have x2:=Ext.cells c2 gl;have aj:=hy' aa;have ao:=hy' ae;have H1:=hy' h1;have H2:=hy' h2;have HY:=hy' hy;clear h1 h2 hy aa ae;go_wp2_with fail;refine zAa (by kernel_rfl) (by kernel_rfl) ?_;have ah:=ay.o
   repeat (go_big_quiet_step (with_reducible exact C1.o _))
   clear ah;refine wpQuiet_nil ?_;intro xw;have ag:=hy' (aj.o.below xw.below);have ap:=hy' (zA0 ao.o (Ss.grown_below xw.below));clear x1 x2 c1 c2 gl
   by_cases hk:k y<k x
   · have hv:zCk (k y) (k x)<0:=(zD8 _ _).2 hk;have HK:=hy' hk;clear hk;go_wp2_with fail;refine⟨⟨(i+j)/2+1,j,by omega,by omega,az,by go_num,rfl,fun z _ hz=>?_,H2.o,ag.o,ap.o⟩,by simp[intOf];omega⟩;rw[show (i+j)/2+1-(a+1)-1=(i+j)/2-(a+1) by omega,HY.o]at hz;cases hz
     exact HK.o
   have hv:¬zCk (k y) (k x)<0:=fun h=>hk ((zD8 _ _).1 h)
   have HK:=hy' hk;clear hk;go_wp2_with fail;refine⟨⟨i,(i+j)/2,hi,by omega,by omega,rfl,by go_num,H1.o,fun z hz=>?_,ag.o,ap.o⟩,by simp[intOf];omega⟩;rw[HY.o]at hz;cases hz
   have:=HK.o;omega
 obtain rfl:i=j:=by omega
 have iI:¬(i:Int)<i:=by omega
 have a6:=HB.o;obtain⟨s,aw⟩:∃s,i=a+1+s:=⟨i-(a+1),by omega⟩;subst aw
 have au:∀y∈B.take s,k y<k x:=fun y hy=>by
  obtain⟨q,hq,af⟩:=zEm hy;have av:=(List.getElem?_eq_some_iff.1 af).1;obtain⟨z,hz⟩:∃z,B[s-1]?=some z:=⟨_,Zb (by omega)⟩;have g1:=h1 z (by omega) (by rw[show a+1+s-(a+1)-1=s-1 by omega];exact hz);have g2:=HS.o.get af hz (by omega);omega
 have ar:∀y∈B.drop s,k x≤k y:=fun y hy=>by
  obtain⟨q,hq,af⟩:=zEn hy;have av:=(List.getElem?_eq_some_iff.1 af).1;obtain⟨z,hz⟩:∃z,B[s]?=some z:=⟨_,Zb (by omega)⟩;have g1:=h2 z (by rw[show a+1+s-(a+1)=s by omega];exact hz);have g2:=HS.o.get hz af hq;omega
 obtain⟨r1,r2⟩:=zLh (x:=x) (b1:=B.take s) (b2:=B.drop s) (by rw[Zu];exact HS.o) au ar;rw[Zu]at r2;have R1:=hy' r1;have R2:=hy' r2;have aj:Hy (Ss.At wr g sz (P++(B.take 0++(x::(B.drop 0++Q))))):=hy' (by simpa using aa);have ao:=hy' ae;clear r1 r2 au ar h1 h2 aa ae hi hij;go_wp2_with fail;obtain⟨w1,rfl⟩:∃w1:World,w1=wr:=⟨_,rfl⟩;go_loopw [13] (fun vk wq=>∃t:Nat,t≤s∧vk=.int .i64 ((a+t:Nat):Int)∧Ss.At wq g sz (P++(B.take t++(x::(B.drop t++Q))))∧w.grownBy wq (some g)) (fun vk _=>a+s+1-(intOf vk).toNat)
 case atStart=>exact⟨0,Zq _,rfl,aj.o,ao.o⟩
 obtain⟨t,ht,rfl,aa,ae⟩:=hrel
 by_cases hts:t<s
 rotate_left
 · obtain rfl:t=s:=by omega
   have tI:¬((a+t:Nat):Int)<((a+t:Nat):Int):=by omega
   have HA:=hy' aa;have ai:=hy' ae;clear aa ae;go_wp2_with fail;go_end0;exact⟨rfl,⟨B.take t++x::B.drop t,R1.o,R2.o,by simpa using HA.o⟩,ai.o⟩
 obtain⟨y,hy⟩:∃y,B[t]?=some y:=⟨_,Zb (by omega)⟩;obtain⟨u1,u2⟩:=List.getElem?_eq_some_iff.1 hy;have hdr:B.drop t=y::B.drop (t+1):=by rw[ZJ u1,u2]
 have aq:B.take (t+1)=B.take t++[y]:=by rw[Zy,hy];rfl
 have e1:P++(B.take t++(x::(B.drop t++Q)))=(P++B.take t)++x::([]++y::(B.drop (t+1)++Q)):=by rw[hdr];simp
 have e2:(P++B.take t)++y::([]++x::(B.drop (t+1)++Q))=P++(B.take (t+1)++(x::(B.drop (t+1)++Q))):=by rw[aq];simp
 rw[e1]at aa;have l1:(P++B.take t).length=o+(a+t):=by rw[Zc,HP.o,Zn];omega
 have l2:(P++B.take t).length+1+([]:List Int).length=o+(a+t+1):=by rw[l1];rfl
 have L1:=hy' l1;have L2:=hy' l2;clear l1 l2;have c1:=aa.cell (zC7 _ _ _);have c2:=aa.cell (zBw _ _ _ _ _);rw[L1.o]at c1;rw[L2.o]at c2;have f1:=aa.fro (o+(a+t));have f2:=aa.fro (o+(a+t+1));have gl:=aa.lt;have ak:=aa.swapA;rw[e2,L2.o,L1.o]at ak;have tI:((a+t:Nat):Int)<((a+s:Nat):Int):=by omega
 have k0:(0:Int)≤((a+t:Nat):Int):=by omega
 have k1:((a+t:Nat):Int)<n0:=by omega
 have k2:(0:Int)≤((a+t+1:Nat):Int):=by omega
 have k3:((a+t+1:Nat):Int)<n0:=by omega
 have ax:=hy' ak;have ai:=hy' ae;clear hy u1 u2 hdr aq e1 e2 aa ak ae;go_wp2;go_region;go_wp2;exact⟨⟨t+1,by omega,by go_num,ax.o,Ss.grown_drew (Ss.grown_set (Ss.grown_set ai.o _ _) _ _)⟩,by simp[intOf];omega⟩
theorem zOf (fid:FuncId) (cd:Option Addr) (k:Int→Int) (ah:∀(args:Array Value) (w:World),(callFunc fid args).run Tryz.prog w=.ok (.enter fid args) w)
 (sz g o n0 cap a m b:Nat) (P A:List Int) (y:Int) (Q:List Int) (w:World) (hC:Ss.Cmp fid cd k g w) (hZ:Ss.At w g sz (P++(A++([y]++Q)))) (hP:P.length=o+a) (hA:a+A.length=m) (hA2:2≤A.length) (hm:m+1=b) (hn:b≤n0) (a7:n0≤1000000) (hs:Ss.so k A) :
 Calls Tryz.prog 241 #[.slice (some ⟨g,o,none⟩) n0 cap,.int .i64 a,.int .i64 m,.int .i64 b,.func (.func fid) #[] #[.pointer cd]] w (zGJ k sz g P A [y] Q w):=by
 have az:=hy' ah;have HC:=hy' hC;have HZ:=hy' hZ;have HP:=hy' hP;have HA:=hy' hA;have HS:=hy' hs;subst hm;have e1:(((m-a:Nat):Int) == 1)=false:=by simp;omega
 have gz:∀(wr:World),Ss.At wr g sz (P++(A++([y]++Q)))→wr.cell? ⟨g,o+m,none⟩=some (.int .i32 y):=fun wr h=>by
  have:=h.cell (zF1 (P:=P) (A:=A) (B:=[y]) (Q:=Q) (t:=0) rfl);rw[YQ,HP.o,Yi,HA.o]at this;exact this
 have GZ:=hy' gz;clear ah hC hZ hP hs gz;go_enter Tryz.func241,Tryz.ntmps241;go_wp2_with fail;clear e1;go_loopw [14,15,16] (fun vi vj _ wr=>∃i j:Nat,a≤i∧i≤j∧j≤m∧vi=.int .i64 i∧vj=.int .i64 j∧(∀z,a<i→A[i-a-1]?=some z→k z≤k y)∧(∀z,A[j-a]?=some z→k y<k z)∧Ss.At wr g sz (P++(A++([y]++Q)))∧w.grownBy wr (some g)) (fun vi vj _ _=>(intOf vj).toNat-(intOf vi).toNat)
 case atStart =>
  refine⟨a,m,Za _,by omega,Za _,rfl,rfl,fun z h=>by omega,fun z h=>?_,HZ.o,zAT _ _⟩;rw[Yn (by omega)]at h;cases h
 obtain⟨i,j,hi,hij,a6,rfl,rfl,h1,h2,aa,ae⟩:=hrel
 by_cases hlt:i<j
 · obtain⟨z,hz⟩:∃z,A[(i+j)/2-a]?=some z:=⟨_,Zb (by omega)⟩;have c1:=aa.cell (zGe (P:=P) (R:=[y]++Q) hz);rw[HP.o,show o+a+((i+j)/2-a)=o+(i+j)/2 by omega]at c1;have c2:=GZ.o wr aa;have gl:=aa.lt;have iI:(i:Int)<j:=by omega
   have m0:(0:Int)≤(((i+j)/2:Nat):Int):=by omega
   have m1:(((i+j)/2:Nat):Int)<n0:=by omega
   have a0:(0:Int)≤(m:Int):=by omega
   have a1:(m:Int)<n0:=by omega
   have C1:=hy' (Ext.call (w:=wr) fun W hW=>HC.o W (zA0 ae (Ss.grown_below hW)) y z);have x1:=Ext.cells c1 gl;have x2:=Ext.cells c2 gl;have aj:=hy' aa;have ao:=hy' ae;have H1:=hy' h1;have H2:=hy' h2;have HY:=hy' hz;clear h1 h2 hz aa ae;go_wp2_with fail;refine zAa (by kernel_rfl) (by kernel_rfl) ?_;have ah:=az.o
   repeat (go_big_quiet_step (with_reducible exact C1.o _))
   clear ah;refine wpQuiet_nil ?_;intro xw;have ag:=hy' (aj.o.below xw.below);have ap:=hy' (zA0 ao.o (Ss.grown_below xw.below));clear x1 x2 c1 c2 gl
   by_cases hk:k y<k z
   · have hv:decide (zCk (k y) (k z)<0)=true:=Zs ((zD8 _ _).2 hk);rw[hv,QZ];clear hv;have HK:=hy' hk;clear hk;go_wp2_with fail;refine⟨⟨i,(i+j)/2,hi,by omega,by omega,rfl,by go_num,H1.o,fun u hu=>?_,ag.o,ap.o⟩,by simp[intOf];omega⟩;rw[HY.o]at hu;cases hu
     exact HK.o
   have hv:decide (zCk (k y) (k z)<0)=false:=Zp fun h=>hk ((zD8 _ _).1 h)
   rw[hv,JE];clear hv;have HK:=hy' hk;clear hk;go_wp2_with fail;refine⟨⟨(i+j)/2+1,j,by omega,by omega,a6,by go_num,rfl,fun u _ hu=>?_,H2.o,ag.o,ap.o⟩,by simp[intOf];omega⟩;rw[show (i+j)/2+1-a-1=(i+j)/2-a by omega,HY.o]at hu;cases hu
   have:=HK.o;omega
 obtain rfl:i=j:=by omega
 have iI:¬(i:Int)<i:=by omega
 obtain⟨s,ax⟩:∃s,i=a+s:=⟨i-a,by omega⟩;subst ax
 have au:∀u∈A.take s,k u≤k y:=fun u hu=>by
  obtain⟨q,hq,af⟩:=zEm hu;have av:=(List.getElem?_eq_some_iff.1 af).1;obtain⟨z,hz⟩:∃z,A[s-1]?=some z:=⟨_,Zb (by omega)⟩;have g1:=h1 z (by omega) (by rw[show a+s-a-1=s-1 by omega];exact hz);have g2:=HS.o.get af hz (by omega);omega
 have ar:∀u∈A.drop s,k y<k u:=fun u hu=>by
  obtain⟨q,hq,af⟩:=zEn hu;have av:=(List.getElem?_eq_some_iff.1 af).1;obtain⟨z,hz⟩:∃z,A[s]?=some z:=⟨_,Zb (by omega)⟩;have g1:=h2 z (by rw[show a+s-a=s by omega];exact hz);have g2:=HS.o.get hz af hq;omega
 obtain⟨r1,r2⟩:=Ss.insert (x:=y) (s:=A.take s) (g:=A.drop s) (by rw[Zu];exact HS.o) au ar;rw[Zu]at r2;have R1:=hy' r1;have R2:=hy' r2;have aj:Hy (Ss.At wr g sz (P++(A.take A.length++(y::(A.drop A.length++Q))))):=hy' (by simpa using aa);have ao:=hy' ae;clear r1 r2 au ar h1 h2 aa ae hi hij;go_wp2_with fail;obtain⟨w1,rfl⟩:∃w1:World,w1=wr:=⟨_,rfl⟩;go_loopw [17] (fun vk wq=>∃t:Nat,s≤t∧t≤A.length∧vk=.int .i64 ((a+t:Nat):Int)∧Ss.At wq g sz (P++(A.take t++(y::(A.drop t++Q))))∧w.grownBy wq (some g)) (fun vk _=>(intOf vk).toNat)
 case atStart=>exact⟨A.length,by omega,Za _,by rw[hA],aj.o,ao.o⟩
 obtain⟨t,a8,ht,rfl,aa,ae⟩:=hrel
 by_cases hts:s<t
 rotate_left
 · obtain rfl:t=s:=by omega
   have tI:¬((a+t:Nat):Int) > ((a+t:Nat):Int):=by omega
   have aw:=hy' aa;have ai:=hy' ae;clear aa ae;go_wp2_with fail;go_end0;exact⟨rfl,⟨A.take t++y::A.drop t,R1.o,R2.o,by simpa using aw.o⟩,ai.o⟩
 obtain⟨t1,rfl⟩:∃t1,t=t1+1:=⟨t-1,by omega⟩;obtain⟨u,hu⟩:∃u,A[t1]?=some u:=⟨_,Zb (by omega)⟩;obtain⟨u1,u2⟩:=List.getElem?_eq_some_iff.1 hu;have hdr:A.drop t1=u::A.drop (t1+1):=by rw[ZJ u1,u2]
 have aq:A.take (t1+1)=A.take t1++[u]:=by rw[Zy,hu];rfl
 have e1:P++(A.take (t1+1)++(y::(A.drop (t1+1)++Q)))=(P++A.take t1)++u::([]++y::(A.drop (t1+1)++Q)):=by rw[aq];simp
 have e2:(P++A.take t1)++y::([]++u::(A.drop (t1+1)++Q))=P++(A.take t1++(y::(A.drop t1++Q))):=by rw[hdr];simp
 rw[e1]at aa;have l1:(P++A.take t1).length=o+(a+t1):=by rw[Zc,HP.o,Zn];omega
 have l2:(P++A.take t1).length+1+([]:List Int).length=o+(a+(t1+1)):=by rw[l1,ZY];omega
 have L1:=hy' l1;have L2:=hy' l2;clear l1 l2;have c1:=aa.cell (zC7 _ _ _);have c2:=aa.cell (zBw _ _ _ _ _);rw[L1.o]at c1;rw[L2.o]at c2;have f1:=aa.fro (o+(a+t1));have f2:=aa.fro (o+(a+(t1+1)));have gl:=aa.lt;have ak:=aa.swapB;rw[e2,L2.o,L1.o]at ak;have tI:((a+(t1+1):Nat):Int) > ((a+s:Nat):Int):=by omega
 have k0:(0:Int)≤((a+(t1+1):Nat):Int):=by omega
 have k1:((a+(t1+1):Nat):Int)<n0:=by omega
 have k2:(0:Int)≤((a+t1:Nat):Int):=by omega
 have k3:((a+t1:Nat):Int)<n0:=by omega
 have ay:=hy' ak;have ai:=hy' ae;clear hu u1 u2 hdr aq e1 e2 aa ak ae;go_wp2;go_region;go_wp2;exact⟨⟨t1,by omega,by omega,by go_num,ay.o,Ss.grown_drew (Ss.grown_set (Ss.grown_set ai.o _ _) _ _)⟩,by simp[intOf];omega⟩
end Go.Proofs.YtdbpjmfflofadaaGreatDoor
