/- A range over an iterator that keeps its state in a cell of its own (strings.Lines, strings.SplitSeq): one law for the caller, at the wide fence. -/
import Derived.RangeFuncNested
import Derived.RangeFuncBound
import Derived.OwnWalkIn
import Derived.TacticsInMore
import Derived.LoopNIn
import Derived.LoopIn
import Derived.Test.YthngjlllojiacaaGreatDoorUtfC
import Derived.Lib.Bytealg
import Derived.Lib.ItoaMem
import Derived.Deep.DeepCutAuto
set_option maxRecDepth 100000
set_option maxHeartbeats 4000000
set_option linter.unusedVariables false
set_option linter.unusedSimpArgs false
namespace Go.Proofs.YthngjlllojiacaaGreatDoor
open Go.Proofs.Tryz
section
open Go.RowKit
def zHS {β:Type} (B b:Nat) (I:β→World→Prop):Prop :=
 ∀s W W' row,I s W→W.grownBy W' row→(∀r,row=some r→r=b∨(B≤r∧∃o:Obj,W.heap[r]?=some o∧o.isCells=false))→I s W'
def zQg {β:Type} (b:Nat) (J:β→World→Prop):Prop:=∀s W W' row,J s W→W.grownBy W' row→(∀r,row=some r→r=b)→J s W'
def R.Kept (ks:List Nat) (W W':World):Prop:=∀k∈ks,∀o,W.heap[k]?=some o→W'.heap[k]?=some o
def zRH {α:Type} (n:Nat) (P:Program) (g:Nat) (lb:Array Value) (encs:α→Array Value) (b:Nat) (ks:List Nat) (S Sp:List α→Prop) (N:Nat) (W:World):Prop :=
 ∀(l:Nat) (J Jx:List α→World→Prop),zQg b J→zQg b Jx →
  (∀pre x W1,J pre W1→pre.length<N→Sp (pre++[x])→YieldAt Fence.wide (n-1) P l (encs x) W1 fun e W' =>
    (e=.returned (.bool true)∧J (pre++[x]) W'∧R.Kept ks W1 W')∨(e=.returned (.bool false)∧Jx (pre++[x]) W')) →
  J [] W →
  CallsIn Fence.wide n P g (#[.func (.yield l) #[] #[]]++lb) W fun e W'=>(∃v,e=.returned v)∧((∃xs,S xs∧J xs W')∨(∃pre,Sp pre∧Jx pre W'))
def zSg {α:Type} (B:Nat) (ks:List Nat) (I:List α→World→Prop) (Ix:Code→List α→World→Prop) (xs:List α) (W:World):Exit→Act→World→Prop
 | .normal,_,W'=>KeepsFrom B W W'∧R.Kept ks W W'∧I xs W'
 | .ret,_,W'=>KeepsFrom B W W'∧Ix .ret xs W'
 | .exit id,_,W'=>KeepsFrom B W W'∧Ix (.exit id) xs W'
 | .goto t,_,W'=>KeepsFrom B W W'∧Ix (.goto t) xs W'
 | .panic _,_,_=>False
 | .outgrown,_,_=>False
theorem zFs {β:Type} {B b:Nat} {I:β→World→Prop} (h:zHS B b I) {s:β} {W:World} (o:Obj) (hs:I s W):I s (W.alloc o) :=
 h s W _ none hs (YW W o none) (fun r e=>by cases e)
theorem zBG {β:Type} {B b:Nat} {I:β→World→Prop} (h:zHS B b I) {s:β} {W:World} {l:Nat} {o:Obj} (o':Obj) (hs:I s W) (hB:B≤l) (hl:W.heap[l]?=some o) (ho:o.isCells=false):I s (W.putObj l o') :=
 h s W _ (some l) hs (grownBy_putObj' W l o') (fun r e=>by cases e;exact .inr ⟨hB,o,hl,ho⟩)
theorem zDn {b k:Nat} {W W':World} {row:Option Nat} {o:Obj} (hg:W.grownBy W' row) (hr:∀r,row=some r→r=b) (hk:W.heap[k]?=some o) (hne:k≠b):W'.heap[k]?=some o :=
 (hg.block k (Array.getElem?_eq_some_iff.1 hk).1 (fun e=>hne (hr k e.symm))).trans hk
theorem R.range {α:Type} {n:Nat} {P:Program} {g:Operand} {ps:Array Tmp} {assign body:Code} {Q:Exit→Act→World→Prop} {a:Act} {w:World} (h1:1≤n)
 {gf:Nat} {lb:Array Value} (hg:a.eval g=.func (.func gf) #[] lb) (eg:∀args w,(callFunc gf args).run P w=.ok (.enter gf args) w)
 {encs:α→Array Value} {b:Nat} (hb:b<w.heap.size) {ks:List Nat} (au:∀k∈ks,k<w.heap.size) {S Sp:List α→Prop} {N:Nat} (aw:∀W,Below w.heap.size w W→zRH (n-1) P gf lb encs b ks S Sp N W) (a7:∀x,(encs x).size=ps.size)
 (I:List α→World→Prop) (Ix:Code→List α→World→Prop) (hI:zHS w.heap.size b I) (ak:∀c,zHS w.heap.size b (Ix c)) (h0:I [] w) (a₁:α→Act)
 (ae:∀(l:Nat) (x:α) (W:World) (K:Act→World→Prop),K (a₁ x) W →
   assign.wpIn (Fence.wide.inRound l) (n-1-1) P (Exit.then K (fun _ _ _=>False)) { tmps:=(ps.zip (encs x)).foldl (fun t (p,v)=>t.setIfInBounds p v) a.tmps,defers:=[] } W)
 (ai:∀(l:Nat) (pre:List α) (x:α) (W:World),I pre W→pre.length<N→Sp (pre++[x])→body.wpIn (Fence.wide.inRound l) (n-1-1) P (zSg w.heap.size ks I Ix (pre++[x]) W) (a₁ x) W)
 (ag:∀(D:Nat) (xs:List α) (W:World),w.heap.size≤D→S xs→I xs W→W.heap[D]?=some (.deferred (some []))→Q .normal { a with defers:={ target:=.collected D,args := #[] }::a.defers } W)
 (ah:∀(D:Nat) (c:Code) (pre:List α) (W:World),w.heap.size≤D→Sp pre→Ix c pre W→W.heap[D]?=some (.deferred (some []))→c.wpIn Fence.wide n P Q { a with defers:={ target:=.collected D,args := #[] }::a.defers } W) :
 (Code.rangeFunc g ps assign body).wpIn Fence.wide n P Q a w:=by
 refine wpIn_rangeFunc fun fn bb=>?_
 show ∃(l:Nat) (mark:List Deferred) (w₁:World) (d:Deferred) (bf:World) (f:FuncId) (args:Array Value) (w₂:World),_
 let rec':LoopState→Option Code→Loop:=fun st pe=>{ state:=st,pending:=pe,fn,tmps:=a.tmps,params:=ps,assign,body,defers:=w.heap.size }
 obtain⟨D,hD⟩:∃D,w.heap.size=D:=⟨_,rfl⟩;obtain⟨lr,af⟩:∃lr,lr=rec':=⟨_,rfl⟩;obtain⟨V,hV⟩:∃V,(w.alloc (.deferred (some []))).alloc (.loop (lr .ready none))=V:=⟨_,rfl⟩
 have ar:V.heap[D+1]?=some (.loop (lr .ready none)):=by
  have h:=World.alloc_heap_new (w.alloc (.deferred (some []))) (.loop (lr .ready none));rw[ZK,hV,hD]at h;exact h
 have av:V.heap[D]?=some (.deferred (some [])):=by
  rw[←hV,←hD];exact (QQ _ _ _ (by simp)).trans (World.alloc_heap_new w _)
 have inv1:I [] V:=by
  rw[←hV];exact zFs hI _ (zFs hI _ h0)
 have aq:Below w.heap.size w V:=by
  rw[←hV];exact ((Zc _ w).alloc (Za _) _).alloc (by simp) _
 rw[hD]at hI ak hb au ai ag ah;refine⟨D+1,[{ target:=.collected D,args := #[] }],V,{ target:=.fn (.func gf) lb,args := #[.func (.yield (D+1)) #[] #[]] },V,gf,#[.func (.yield (D+1)) #[] #[]]++lb,V,?_,?_,?_,?_,fun _=>h1,?_⟩
 · rw[←hV,←hD,af];exact run_enterLoop_outer _ _ _ _ _
 · simp only[resolve,hg];simp[go_sem]
 · intro f' a1;simp[Target.leads]at a1;subst a1;exact trivial
 · simp[invoke,go_sem,eg]
 have bd:D≠b:=by omega
 have az:D+1≠b:=by omega
 refine ((aw V aq) (D+1)
  (fun pre W=>I pre W∧W.heap[D+1]?=some (.loop (lr .ready none))∧W.heap[D]?=some (.deferred (some [])))
  (fun pre W=>∃c,Ix c pre W∧W.heap[D+1]?=some (.loop (lr .done (some c)))∧W.heap[D]?=some (.deferred (some [])))
  (fun s X Y row hs aj hr=>⟨hI s X Y row hs.1 aj (fun r e=>.inl (hr r e)),zDn aj hr hs.2.1 az,zDn aj hr hs.2.2 bd⟩)
  (fun s X Y row hs aj hr=>by
    obtain⟨c,i0,i1,i2⟩:=hs;exact⟨c,ak c s X Y row i0 aj (fun r e=>.inl (hr r e)),zDn aj hr i1 az,zDn aj hr i2 bd⟩)
  ?_ ⟨inv1,ar,av⟩).mono ?_
 rotate_left
 · rintro e X ⟨⟨v,rfl⟩,(⟨xs,hS,hi,aa,ao⟩|⟨pre,a6,c,hi,aa,ao⟩)⟩
   · have h:=run_endLoop (P:=P) aa (by rw[af];simp[rec']);rw[af]at h;exact⟨none,_,h,ag D xs _ (Za _) hS (zBG hI _ hi (by omega) aa rfl) ((World.putObj_heap_other (by omega)).trans ao)⟩
   have h:=run_endLoop (P:=P) aa (by rw[af];simp[rec']);rw[af]at h;exact⟨some c,_,h,ah D c pre _ (Za _) a6 (zBG (ak c) _ hi (by omega) aa rfl) ((World.putObj_heap_other (by omega)).trans ao)⟩
 rintro pre x W ⟨hi,aa,ao⟩ hlen a8;have ba:D+1<W.heap.size:=(Array.getElem?_eq_some_iff.1 aa).1;have hy:=run_yield (P:=P) (args:=encs x) aa (by rw[af];exact a7 x);rw[af]at hy;refine⟨fn,_,assign,body,hy,roundIn_of_wpIn bb (ae _ x W _ ⟨_,run_beginRound aa (by rw[af]),?_⟩)⟩;obtain⟨U,hU⟩:∃U,W.putObj (D+1) (.loop { lr .ready none with state:=.busy })=U:=⟨_,rfl⟩;have ax:U.heap[D+1]?=some (.loop { lr .ready none with state:=.busy }):=by rw[←hU];exact World.putObj_heap_same ba
 have ay:U.heap[D]?=some (.deferred (some [])):=by rw[←hU];exact (World.putObj_heap_other (by omega)).trans ao
 have ap:R.Kept ks W U:=by rw[←hU];exact fun k hk o ho=>(World.putObj_heap_other (by have:=au k hk;omega)).trans ho
 have inv2:I pre U:=by rw[←hU];exact zBG hI _ hi (by omega) aa rfl
 have fin:∀(jump:Option Code) (X:World),KeepsFrom D U X →
  (Instr.endRound (D+1) jump).run P X=.ok (.bool jump.isNone) (X.putObj (D+1) (.loop (lr (if jump.isNone then .ready else .done) jump))) ∧
  X.heap[D+1]?=some (.loop { lr .ready none with state:=.busy }) ∧
  (X.putObj (D+1) (.loop (lr (if jump.isNone then .ready else .done) jump))).heap[D+1]?=some (.loop (lr (if jump.isNone then .ready else .done) jump)) ∧
  (X.putObj (D+1) (.loop (lr (if jump.isNone then .ready else .done) jump))).heap[D]?=some (.deferred (some [])):=by
  intro jump X hX;have r3:=hX.same (D+1) _ (by omega) ax rfl;have d3:=hX.same D _ (by omega) ay rfl;have he:=run_endRound (P:=P) jump r3;rw[af]at he r3 ⊢;exact⟨he,r3,World.putObj_heap_same (Array.getElem?_eq_some_iff.1 r3).1,(World.putObj_heap_other (by omega)).trans d3⟩
 have goal:=ai (D+1) pre x U inv2 hlen a8;rw[←hU]at goal;refine wpIn_mono goal ?_;rw[hU];rintro e a3 X hp;cases e with
 | normal =>
   obtain⟨k3,bc,i3⟩:=hp;obtain⟨e1,e2,e3,e4⟩:=fin none X k3;exact⟨_,_,e1,.inl ⟨rfl,⟨zBG hI _ i3 (by omega) e2 rfl,e3,e4⟩,fun k hk o ho=>(World.putObj_heap_other (by have:=au k hk;omega)).trans (bc k hk o (ap k hk o ho))⟩⟩
 | ret =>
   obtain⟨k3,i3⟩:=hp;obtain⟨e1,e2,e3,e4⟩:=fin (some .ret) X k3;exact⟨_,_,e1,.inr ⟨rfl,.ret,zBG (ak _) _ i3 (by omega) e2 rfl,e3,e4⟩⟩
 | exit id =>
   obtain⟨k3,i3⟩:=hp;obtain⟨e1,e2,e3,e4⟩:=fin (some (.exit id)) X k3;exact⟨_,_,e1,.inr ⟨rfl,.exit id,zBG (ak _) _ i3 (by omega) e2 rfl,e3,e4⟩⟩
 | goto t =>
   obtain⟨k3,i3⟩:=hp;obtain⟨e1,e2,e3,e4⟩:=fin (some (.goto t)) X k3;exact⟨_,_,e1,.inr ⟨rfl,.goto t,zBG (ak _) _ i3 (by omega) e2 rfl,e3,e4⟩⟩
 | panic ch=>exact hp.elim
 | outgrown=>exact hp.elim
theorem zC2 {W W':World} {row:Option Nat} {B b D:Nat} {t:TypeId} {v:Value} (h:Boxed W B t v) (hg:W.grownBy W' row)
 (hr:∀r,row=some r→r=b∨(D≤r∧∃o:Obj,W.heap[r]?=some o∧o.isCells=false)) (hne:B≠b):Boxed W' B t v:=by
 refine h.kept hg fun e=>?_
 rcases hr B e.symm with h1|⟨_,o,ho,hc⟩
 · exact hne h1
 rw[show W.heap[B]?=_ from h]at ho;cases ho
 cases hc
theorem zJW {W W':World} {row:Option Nat} {b D base:Nat} {e:TypeId} {size:Nat} {v:Value} {k:Nat} {xs:List Value} (h:W.ownsRow base e size v k xs) (hg:W.grownBy W' row)
 (hr:∀r,row=some r→r=b∨(D≤r∧∃o:Obj,W.heap[r]?=some o∧o.isCells=false)) (hb:b<base):W'.ownsRow base e size v k xs:=by
 refine h.kept hg ?_;rcases h.2 with ⟨rfl,_⟩|⟨g,cap,aa,rfl,ae,hh,_⟩
 · exact .inl rfl
 refine .inr fun e'=>?_
 rcases hr g (by simpa [Value.ownBlock] using e'.symm) with h1|⟨_,o,ho,hc⟩
 · omega
 rw[hh]at ho;cases ho
 cases hc
theorem zEK {n₀:Nat} {w W W':World} {row:Option Nat} {b D:Nat} (h:Below n₀ w W) (hs:n₀≤W.heap.size) (hg:W.grownBy W' row)
 (hr:∀r,row=some r→r=b∨(D≤r∧∃o:Obj,W.heap[r]?=some o∧o.isCells=false)) (h1:n₀≤b) (h2:n₀≤D):Below n₀ w W' :=
 h.grown hg hs fun k e=>by rcases hr k e with h3|⟨h3,_⟩ <;> omega
theorem zFe {W:World} {base aa:Nat} {e:TypeId} {size:Nat} {v:Value} {k:Nat} {xs:List Value} (h:W.ownsRow base e size v k xs) (hb:aa≤base):W.ownsRow aa e size v k xs:=by
 obtain⟨h1,h2⟩:=h;refine⟨h1,?_⟩;rcases h2 with h2|⟨g,cap,ae,hv,hg,r⟩
 · exact .inl h2
 exact .inr ⟨g,cap,ae,hv,by omega,r⟩
theorem R.Kept.trans {ks:List Nat} {A B C:World} (h:R.Kept ks A B) (h':R.Kept ks B C):R.Kept ks A C:=fun k hk o ho=>h' k hk o (h k hk o ho)
theorem zPa {ks:List Nat} {W:World} {B:Nat} (h:∀k∈ks,k≠B) (v:Value):R.Kept ks W (W.setCell ⟨B,0,none⟩ v):=fun k hk o ho=>(Yl _ _ _ k (fun e=>h k hk e)).trans ho
theorem R.appended {W w1:World} {D B n₀:Nat} {t e:TypeId} {size:Nat} {v v':Value} {k m:Nat} {xs ys:List Value} {tmp:Obj} {ks:List Nat}
 (hv:Boxed W B t v) (ag:t≠e) (af:W.ownsRow D e size v k xs) (aj:D≤W.heap.size) (hn:n₀≤B) (ak:B<D) (ah:∀q∈ks,q<D∧q≠B)
 (aa:w1.ownsRow D e size v' m ys) (ae:(W.alloc tmp).grownBy w1 v.ownBlock) :
 Boxed w1 B t v∧Boxed (w1.setCell ⟨B,0,none⟩ v') B t v'∧(w1.setCell ⟨B,0,none⟩ v').ownsRow D e size v' m ys∧KeepsFrom D W (w1.setCell ⟨B,0,none⟩ v')∧R.Kept ks W (w1.setCell ⟨B,0,none⟩ v')∧Below n₀ W (w1.setCell ⟨B,0,none⟩ v') ∧
  (∀B' t' u,B'≠B→B'<D→Boxed W B' t' u→Boxed (w1.setCell ⟨B,0,none⟩ v') B' t' u):=by
 obtain⟨a1,a2,_,a4,a5⟩:=hv.appended ag (zFe af (show n₀≤D by omega)) (by omega) hn (zFe aa (show n₀≤D by omega)) ae
 have low:∀q,q<D→∀o,W.heap[q]?=some o→w1.heap[q]?=some o:=fun q hq o ho=>by
  have h1:(W.alloc tmp).heap[q]?=some o:=(QQ _ _ _ (by omega)).trans ho;refine (ae.block q (Array.getElem?_eq_some_iff.1 h1).1 fun e=>?_).trans h1;rcases af.2 with ⟨rfl,_⟩|⟨g,cap,ao,rfl,ap,_⟩
  · simp[Value.ownBlock]at e
  have:q=g:=by simpa [Value.ownBlock] using e
  omega
 refine⟨a1,a2,aa.kept (grownBy_setCell' w1 B v') (.inr (a1.not_row ag aa).symm),a4.from _,?_,a5,?_⟩
 · exact fun q hq o ho=>(zPa (ks:=ks) (fun k hk=>(ah k hk).2) v') q hq o (low q (ah q hq).1 o ho)
 exact fun B' t' u hne ai hb=>Boxed.other (show Boxed w1 B' t' u from low B' ai _ hb) hne v'
#print axioms R.range
end
section
open Go.RowKit Go.Stop
def zBP (d:Nat):UInt8:=UInt8.ofNat (if d<10 then 48+d else 55+d)
def zDM (d:Nat):UInt8:=UInt8.ofNat (if d<10 then 48+d else 87+d)
def Fi.low:Nat→Nat→List Nat
 | 0,_=>[]
 | k+1,n=>Fi.low k (n/16)++[n%16]
def zBb (n:Nat):Nat:=if h:n<16 then 1 else zBb (n/16)+1
 termination_by n
 decreasing_by omega
def Fi.text (n:Nat):List UInt8:=(Fi.low (max 4 (zBb n)) n).map zBP
theorem zII (n:Nat):1≤zBb n:=by rw[zBb];split <;> omega
theorem zBQ:∀(k n:Nat),n<16 ^ (k+1)→zBb n≤k+1
 | 0,n,h=>by rw[zBb,dif_pos (by simpa using h)];exact Nat.le_refl _
 | k+1,n,h=>by
   rw[zBb];split
   · omega
   have:=zBQ k (n/16) (by rw[Xa]at h;omega);omega
theorem zGj (n:Nat):n<16 ^ zBb n:=by
 rw[zBb];split
 · simpa
 · have:=zGj (n/16);rw[Xa];omega
 termination_by n
 decreasing_by omega
theorem zOf (n k:Nat) (h:16 ^ k≤n):k+1≤zBb n:=by
 rcases ZZ (zBb n) (k+1) with hl|hl
 · have h1:=zGj n;have h2:16 ^ zBb n≤16 ^ k:=Xg (by decide) (by omega);omega
 exact hl
theorem zCP:∀k n,(Fi.low k n).length=k
 | 0,_=>rfl
 | k+1,n=>by simp[Fi.low,zCP k]
theorem zCf:∀(k n:Nat),Fi.low (k+1) n=(n/16 ^ k%16)::Fi.low k n
 | 0,n=>by simp[Fi.low]
 | k+1,n=>by
   rw[Fi.low,zCf k (n/16),Fi.low,Qb,Xa,Q0 16];rfl
theorem zJX:∀(k n j:Nat),j<k→(Fi.low k n)[j]?=some (n/16 ^ (k-1-j)%16)
 | 0,_,_,h=>by omega
 | k+1,n,0,_=>by rw[zCf];simp
 | k+1,n,j+1,h=>by
   rw[zCf,YM,zJX k n j (by omega),show k-1-j=k+1-1-(j+1) by omega]
theorem zJY (n:Nat):∀(j k:Nat),n<16 ^ k→Fi.low (j+k) n=List.replicate j 0++Fi.low k n
 | 0,k,_=>by simp
 | j+1,k,h=>by
   have hk:n<16 ^ (j+k):=Zf h (Xg (by decide) (by omega));rw[show j+1+k=(j+k)+1 by omega,zCf,J0 hk,zJY n j k h];rfl
theorem zDN:∀(k n:Nat),∀d∈Fi.low k n,d<16
 | 0,_,d,h=>by simp[Fi.low]at h
 | k+1,n,d,h=>by
   rw[Fi.low,Xb]at h;rcases h with h|h
   · exact zDN k _ d h
   simp at h;omega
theorem zPb (n:Nat):Fi.text n=List.replicate (4-zBb n) 48++(Fi.low (zBb n) n).map zBP:=by
 unfold Fi.text;rw[show max 4 (zBb n)=(4-zBb n)+zBb n by omega,zJY n _ _ (zGj n),ZO,JK];rfl
theorem Fi.text_len (n:Nat):(Fi.text n).length=max 4 (zBb n):=by simp[Fi.text,zCP]
theorem zAD (n:Nat) (h:n≤1114111):(Fi.text n).length≤6:=by
 rw[Fi.text_len]
 have:=zBQ 5 n (by
  have:(16:Nat) ^ 6=16777216:=by decide
  rw[this];omega)
 omega
def zAG (b:UInt8):Int:=if 48≤b.toNat∧b.toNat≤57 then (b.toNat:Int)-48 else if 65≤b.toNat∧b.toNat≤70 then (b.toNat:Int)-55 else -1
theorem zJb:∀i:Fin 256,Lib.indexByte [48,49,50,51,52,53,54,55,56,57,65,66,67,68,69,70] (UInt8.ofNat i.val)=zAG (UInt8.ofNat i.val):=by decide +kernel
theorem zCp (b:UInt8):Lib.indexByte [48,49,50,51,52,53,54,55,56,57,65,66,67,68,69,70] b=zAG b:=by
 have h:=zJb ⟨b.toNat,b.toNat_lt⟩;simpa using h
theorem zIJ:∀d:Fin 16,zAG (zBP d.val)=d.val:=by decide
theorem zFR (b:UInt8):zAG b<16 ∧ -1≤zAG b:=by unfold zAG;split <;> (try split) <;> omega
theorem zNh (b:UInt8) (h:0≤zAG b):zBP (zAG b).toNat=b:=by
 have h2:=b.toNat_lt;apply UInt8.toNat_inj.1
 unfold zBP;unfold zAG at h ⊢;split at h
 · rename_i hc;rw[Zl hc,Zl (by omega),X4,Xv (by omega)];omega
 rename_i hc;rw[Zj hc];split at h
 · rename_i hd;rw[Zl hd,Zj (by omega),X4,Xv (by omega)];omega
 omega
def Fi.val (l:List UInt8):Int:=l.foldl (fun n b=>n*16+zAG b) 0
def Fi.good (l:List UInt8):Bool:=l.all fun b=>decide (0≤zAG b)
def zD4 (l:List UInt8):Bool:=decide (4≤l.length)&&(decide (l.length≤6)&&!(decide (4<l.length)&&l.head? == some 48))
def zAE (l:List UInt8):Option Int:=if zD4 l&&(Fi.good l&&decide (Fi.val l≤1114111)) then some (Fi.val l) else none
theorem zEa (l:List UInt8) (b:UInt8):Fi.val (l++[b])=Fi.val l*16+zAG b:=by simp[Fi.val,YJ]
theorem zCw (l:List UInt8) (b:UInt8):Fi.good (l++[b])=(Fi.good l&&decide (0≤zAG b)):=by simp[Fi.good,J7]
theorem zJZ:∀(k n:Nat),Fi.val ((Fi.low k n).map zBP)=((n%16 ^ k:Nat):Int)
 | 0,n=>by simp[Fi.low,Fi.val,Nat.mod_one]
 | k+1,n=>by
   rw[Fi.low,ZO,ZX,Yq,zEa,zJZ k,zIJ ⟨n%16,by omega⟩];have h1:n%16 ^ (k+1)=n%16+16*(n/16%16 ^ k):=by rw[Xa,Q0,Nat.mod_mul]
   rw[h1];simp only[Int.natCast_add,J8];omega
theorem zNi (k n:Nat):Fi.good ((Fi.low k n).map zBP)=true:=by
 simp only[Fi.good,Yf,Q4];rintro b ⟨d,hd,rfl⟩;rw[zIJ ⟨d,zDN _ _ d hd⟩];simp
theorem zNj:∀(n:Nat) (l:List UInt8),l.length=n→Fi.good l=true→0≤Fi.val l∧Fi.val l<((16 ^ l.length:Nat):Int)∧(Fi.low l.length (Fi.val l).toNat).map zBP=l:=by
 intro n
 induction n with
 | zero =>
   intro l hl _;obtain rfl:l=[]:=List.length_eq_zero_iff.1 hl;simp[Fi.val,Fi.low]
 | succ n ih =>
   intro l hl h;rcases YZ l with rfl|⟨m,b,hmb⟩
   · simp at hl
   rw[Y0]at hmb;subst hmb;rw[Zd,Ym]at hl;rw[zCw,Zs]at h;obtain⟨h1,h2⟩:=h;have h2:=YI h2;obtain⟨i0,i1,i2⟩:=ih m (by omega) h1;have h3:=(zFR b).1;rw[zEa,Zd,Ym];refine⟨by omega,?_,?_⟩
   · rw[Xa,J8];omega
   rw[Fi.low,ZO,XC,show (Fi.val m*16+zAG b).toNat/16=(Fi.val m).toNat by omega,i2,
    show (Fi.val m*16+zAG b).toNat%16=(zAG b).toNat by omega,zNh b h2]
theorem zPc (l:List UInt8) (h:Fi.good l=true):0≤Fi.val l∧Fi.val l<((16 ^ l.length:Nat):Int)∧(Fi.low l.length (Fi.val l).toNat).map zBP=l:=zNj _ l rfl h
theorem zFS (c:Nat) (h:c≤1114111):zAE (Fi.text c)=some (c:Int):=by
 have hv:Fi.val (Fi.text c)=c:=by
  unfold Fi.text;rw[zJZ];have h1:=zGj c;have h2:16 ^ zBb c≤16 ^ max 4 (zBb c):=Xg (by decide) (by omega);rw[Xv (by omega)]
 have hg:Fi.good (Fi.text c)=true:=zNi _ _;have hl:=zAD c h;have ag:=Fi.text_len c
 have aa:zD4 (Fi.text c)=true:=by
  unfold zD4;rw[Zu (by omega),Zu hl,Xe,Xe];rcases ZZ 4 (Fi.text c).length with h4|h4
  rotate_left
  · rw[Zt (by omega)];rfl
  rw[Zu h4,Xe];have af:max 4 (zBb c)=zBb c:=by omega
  obtain⟨k,hk⟩:∃k,zBb c=k+1:=⟨zBb c-1,by have:=zII c;omega⟩;unfold Fi.text;rw[af,hk,zCf,ZX];have h1:=zGj c;rw[hk,Xa]at h1;have h2:c/16 ^ k<16:=Nat.div_lt_of_lt_mul (by omega)
  have h3:16 ^ k≤c:=by
   rcases ZZ c (16 ^ k) with ae|hge
   · have ah:1≤k:=by omega
     have:=zBQ (k-1) c (by rw[show k-1+1=k by omega];exact ae);omega
   exact hge
  have h4:0<c/16 ^ k:=Nat.div_pos h3 (Jt (by decide));rw[Xv h2];have key:∀d:Fin 16,0<d.val→zBP d.val≠48:=by decide
  have:=key ⟨c/16 ^ k,h2⟩ h4;simp[this]
 unfold zAE;rw[aa,hg,hv,Zu (by omega)];rfl
def Fi.Laid (w:World):Prop:=(∃m:Int,w.cell? ⟨1,0,none⟩=some (.int .i64 m))∧w.cell? ⟨9,15,none⟩=some (.int .u8 4)
theorem zNk (w:World):Calls prog 240 #[.int .i64 16] w fun e w'=>e=.returned (.bool true)∧w'=w:=by
 have h:bits .and .i64 16 15=0:=by decide +kernel
 go_enter func240,ntmps240;go_wp2;go_ret;exact⟨by simp[h],rfl⟩
theorem zNl (w:World) (hL:Fi.Laid w):Calls prog 258 #[.int .u64 16] w fun e w'=>e=.returned (.int .i64 4)∧w'=w:=by
 have hc:=hL.2;have h1:IntKind.u64.wrap (-16)=18446744073709551600:=by decide +kernel
 have h2:bits .and .u64 16 18446744073709551600=16:=by decide +kernel
 clear hL;go_enter func258,ntmps258;go_wp2_with fail;go_ret;exact⟨rfl,rfl⟩
theorem zQh (w:World) (hL:Fi.Laid w):Calls prog 241 #[.int .u64 16] w fun e w'=>e=.returned (.int .i64 4)∧w'=w:=by
 go_enter func241,ntmps241;go_wp2_with (refine (zNl _ (by assumption)).mono ?_;rintro e w1 ⟨rfl,rfl⟩);go_ret;exact⟨rfl,rfl⟩
def zM2:ByteArray:=⟨#[48,49,50,51,52,53,54,55,56,57,97,98,99,100,101,102,103,104,105,106,107,108,109,110,111,112,113,114,115,116,117,118,119,120,121,122]⟩
theorem zQi:∀d:Fin 16,zM2.data.toList.getD d.val 0=zDM d.val:=by decide
theorem zIK:zM2.size=36:=rfl
theorem zPd (W:World) (d:Nat) (h:d<16):(Instr.index 9 (.string ⟨#[48,49,50,51,52,53,54,55,56,57,97,98,99,100,101,102,103,104,105,106,107,108,109,110,111,112,113,114,115,116,117,118,119,120,121,122]⟩) (.int .u64 (d:Int))).run prog W=.ok (.int .u8 ((zDM d).toNat:Int)) W:=by
 show (Instr.index 9 (.string zM2) (.int .u64 (d:Int))).run prog W=_;rw[run_index_string W 9 zM2 .u64 _ underlying9,dif_pos ⟨by omega,by rw[zIK];omega⟩];have e:((d:Int)).toNat=d:=by omega
 simp only[e];rw[Lib.getD_at zM2 d (by rw[zIK];omega),zQi ⟨d,h⟩]
def zM3 (c k j:Nat):Int:=if 65-k≤j then ((zDM (c/16 ^ (64-j)%16)).toNat:Int) else 0
def Fi.Arr (W:World) (B c k:Nat):Prop:=(∀j,j<65→W.cell? ⟨B,j,none⟩=some (.int .u8 (zM3 c k j))∧W.frozen? ⟨B,j,none⟩=false)
theorem Fi.Arr.put {W:World} {B c k:Nat} (h:Fi.Arr W B c k) (hk:k<65) (v:Nat) (hv:(zDM (c/16 ^ k%16)).toNat=v):Fi.Arr (W.setCell ⟨B,64-k,none⟩ (.int .u8 (v:Int))) B c (k+1):=by
 intro j hj;refine⟨?_,by rw[World.frozen?_setCell];exact (h j hj).2⟩;rcases Nat.decEq j (64-k) with hne|rfl
 · rw[World.cell?_setCell_other _ _ _ _ (by simp;try omega),(h j hj).1];unfold zM3
   by_cases h1:65-k≤j
   · rw[Zl h1,Zl (by omega)]
   rw[Zj h1,Zj (by omega)]
 rw[World.cell?_setCell_same _ _ _ (h _ hj).1];unfold zM3;rw[Zl (by omega),show 64-(64-k)=k by omega,hv]
theorem zPe (j:Fin 65):(Tryz.zeroCells320)[j.val]?=some (.int .u8 0):=by
 have e:Tryz.zeroCells320=Array.replicate 65 (.int .u8 0):=by kernel_rfl
 rw[e];simp[j.isLt]
theorem Fi.Laid.alloc {w:World} (h:Fi.Laid w) (o:Obj):Fi.Laid (w.alloc o):=by
 obtain⟨⟨m,h1⟩,h2⟩:=h;exact⟨⟨m,by rw[Ju _ _ _ (YN w _ h1)];exact h1⟩,by rw[Ju _ _ _ (YN w _ h2)];exact h2⟩
theorem zNm (c:Nat) (hc:c<16777216) (w:World) (hL:Fi.Laid w) :
 Calls prog 213 #[.slice none 0 0,.int .u64 c,.int .i64 16,.bool false,.bool false] w fun e w'=>e=.returned (.tuple #[.slice none 0 0,.string ⟨((Fi.low (zBb c) c).map zDM).toArray⟩])∧Below w.heap.size w w':=by
 obtain⟨W1,ae⟩:∃W1,w.alloc (Obj.cells Tryz.zeroCells320 320)=W1:=⟨_,rfl⟩;have L1:Fi.Laid W1:=by rw[←ae];exact hL.alloc _
 have B1:Below w.heap.size w W1:=by rw[←ae];exact (Zc _ _).alloc (Za _) _
 have A1:Fi.Arr W1 w.heap.size c 0:=by
  rw[←ae];intro j hj;refine⟨?_,World.frozen?_alloc_new _ _ _ _⟩;rw[Jd,zPe ⟨j,hj⟩];unfold zM3;rw[Zj (by omega)]
 have S1:w.heap.size<W1.heap.size:=by rw[←ae];simp
 obtain⟨B,hB⟩:∃B,w.heap.size=B:=⟨_,rfl⟩;have au:=hy' hB;rw[hB]at B1 A1 S1;have HW:=hy' ae;have HB:=hy' B1;have HA:=hy' A1;have hq:1≤zBb c∧zBb c≤6:=⟨zII c,zBQ 5 c (by rw[show (16:Nat) ^ (5+1)=16777216 from by decide];exact hc)⟩;clear ae B1 A1 hL;go_enter func213,ntmps213;go_upto_region 7 with (fail)
 rw[HW.o];go_wp2_with (fail);refine (zNk _).mono ?_;rintro e w1 ⟨rfl,rfl⟩;go_wp2_with (fail);refine (zQh _ L1).mono ?_;rintro e w2 ⟨rfl,rfl⟩;go_wp2_with (fail);go_loopw [1,13] (fun vu vi wr=>∃k x:Nat,vu=.int .u64 x∧vi=.int .i64 (65-(k:Int))∧k+1≤zBb c∧x=c/16 ^ k∧Fi.Arr wr B c k∧Below B w wr∧B<wr.heap.size) (fun vu _ _=>(intOf vu).toNat)
 case atStart=>exact⟨0,c,rfl,rfl,by omega,by simp,HA.o,HB.o,S1⟩
 obtain⟨k,x,rfl,rfl,hk,hx,hA,ag,hS⟩:=hrel;obtain⟨w3,rfl⟩:∃w3:World,w3=wr:=⟨_,rfl⟩;have hd:x%16<16:=by omega
 have az:x<16777216:=by
  have:=J9 c (16 ^ k);omega
 have aq:(0:Int)≤65-(k:Int)-1:=by omega
 have av:(65-(k:Int)-1)<65:=by omega
 have hz:(65-(k:Int)-1).toNat=64-k:=by omega
 obtain⟨d,hdd⟩:∃d,x%16=d:=⟨_,rfl⟩;rw[hdd]at hd;have HK:=hy' hk;have HX:=hy' hx;have ai:=hy' ag;have HD:=hy' hdd;obtain⟨v,hv⟩:∃v,(zDM d).toNat=v:=⟨_,rfl⟩;have hA2:Fi.Arr (w3.setCell ⟨B,64-k,none⟩ (.int .u8 (v:Int))) B c (k+1):=hA.put (by omega) v (by rw[←hx,hdd,hv]);have hcell:=(hA (64-k) (by omega)).1;have aj:=(hA (64-k) (by omega)).2;have ar:=hy' hA2;have aw:∀W,(Instr.index 9 (.string ⟨#[48,49,50,51,52,53,54,55,56,57,97,98,99,100,101,102,103,104,105,106,107,108,109,110,111,112,113,114,115,116,117,118,119,120,121,122]⟩) (.int .u64 (d:Int))).run prog W=.ok (.int .u8 (v:Int)) W:=fun W=>by rw[←hv];exact zPd W d hd
 by_cases hge:(x:Int)≥16
 · have a1:bits .and .u64 (x:Int) 15=(d:Int):=by
    rw[show (15:Int)=((15:Nat):Int) from rfl,u64_and_nat x 15 (by omega) (by omega),show 15=2 ^ 4-1 from rfl,Yj,←hdd]
   have a7:((x:Int)).fdiv (2 ^ min (Int.toNat 4) IntKind.u64.bits)=((x/16:Nat):Int):=by
    rw[show (2:Int) ^ min (Int.toNat 4) IntKind.u64.bits=16 from rfl,Int.fdiv_eq_ediv_of_nonneg _ (by decide)];omega
   have aa:k+2≤zBb c:=by
    have h1:16 ^ (k+1)≤c:=by
     have ap:16≤c/16 ^ k:=by rw[←hx];omega
     have:=(Nat.le_div_iff_mul_le (Jt (by decide):0<16 ^ k)).1 ap;rw[Xa];omega
    have:=zOf c (k+1) h1;omega
   have ak:x/16=c/16 ^ (k+1):=by rw[hx,Qb,←Xa]
   have ay:=hy' ak;have ax:=hy' aa;clear hA hA2 hx ag hdd hv hk ak aa;go_wp2_with (fail);exact⟨⟨k+1,x/16,by go_num,by go_num,ax.o,ay.o,ar.o,ai.o.setCell (Nat.le_refl _) _,by simpa [World.setCell] using hS⟩,by simp[intOf];omega⟩
 have ao:d=x:=by omega
 subst ao
 have aa:zBb c=k+1:=by
  have:zBb c≤k+1:=zBQ k c (by
   have h1:c/16 ^ k<16:=by rw[←hx];omega
   have:=(Nat.div_lt_iff_lt_mul (Jt (by decide):0<16 ^ k)).1 h1;rw[Xa];omega)
  omega
 have af:prog.arrayLen 320=65:=by kernel_rfl
 have a6:∀W,(Instr.sliceAt 320 (.pointer (some ⟨B,0,none⟩)) (some (.int .i64 (65-(k:Int)-1))) none none).run prog W=.ok (.slice (some ⟨B,64-k,none⟩) (k+1) (k+1)) W:=fun W=>by
  rw[run_sliceAt_array_l W 320 ⟨B,0,none⟩ (by kernel_rfl) .i64 (65-(k:Int)-1) (by omega) (by rw[af];omega),af];go_simp;omega
 have hcv:(convert 30 9 (.slice (some ⟨B,64-k,none⟩) (k+1) (k+1))).run prog (w3.setCell ⟨B,64-k,none⟩ (.int .u8 (v:Int)))=.ok (.string ⟨((Fi.low (zBb c) c).map zDM).toArray⟩) (w3.setCell ⟨B,64-k,none⟩ (.int .u8 (v:Int))):=by
  have hlen:((Fi.low (zBb c) c).map zDM).length=k+1:=by rw[Ze,zCP,aa]
  have h:=run_convert_bytes_back (P:=prog) (w3.setCell ⟨B,64-k,none⟩ (.int .u8 (v:Int))) 30 9 5 ⟨B,64-k,none⟩ (k+1) ((Fi.low (zBb c) c).map zDM) underlying30 underlying5 underlying9 (fun j hj=>by
   rw[hlen]at hj;rw[Lib.add_plain,(hA2 (64-k+j) (by omega)).1];unfold zM3;rw[Zl (by omega),show 64-(64-k+j)=k-j by omega];congr 2
   have ah:(Fi.low (zBb c) c)[j]?=some (c/16 ^ (k-j)%16):=by
    rw[aa,zJX (k+1) c j (by omega)];congr 3
   rw[List.getElem_map,(List.getElem?_eq_some_iff.1 ah).2])
  rw[hlen]at h;exact h
 clear af hA hA2 hx ag hdd hv hk aa;go_wp2_with (fail);go_ret2;exact⟨rfl,by first|exact ai.o.setCell (Za _) _|(rw[au.o];exact ai.o.setCell (Za _) _)⟩
theorem zKH (c:Nat) (hc:c<16777216) (w:World) (hL:Fi.Laid w) :
 Calls prog 135 #[.int .i64 c,.int .i64 16] w fun e w'=>e=.returned (.string ⟨((Fi.low (zBb c) c).map zDM).toArray⟩)∧Below w.heap.size w w':=by
 have inner:∀w:World,Fi.Laid w→Calls prog 175 #[.int .i64 c,.int .i64 16] w fun e w'=>e=.returned (.string ⟨((Fi.low (zBb c) c).map zDM).toArray⟩)∧Below w.heap.size w w':=by
  intro w hL;have aa:¬(c:Int)<0:=by omega
  go_enter func175,ntmps175;go_wp2_with (refine (zNm c hc _ (by assumption)).mono ?_;rintro e w1 ⟨rfl,hb⟩);go_ret;exact⟨rfl,hb⟩
 go_enter func135,ntmps135;go_wp2_with (refine (inner _ (by assumption)).mono ?_;rintro e w1 ⟨rfl,hb⟩);go_ret;exact⟨rfl,hb⟩
end
end Go.Proofs.YthngjlllojiacaaGreatDoor
