/- RowsPlain, plain: rows that say nothing, put between; no program in sight. -/
import Derived.Test.YtdbpjmfflofadaaGreatDoorRwPlain
import Derived.Test.YtdbpjmfflofadaaGreatDoorChar
import Derived.RangeFuncNested
import Derived.RangeFuncBound
import Derived.OwnWalkIn
import Derived.TacticsInMore
import Derived.LoopNIn
import Derived.LoopIn
import Derived.Lib.AppendIntMem
set_option maxRecDepth 100000
set_option maxHeartbeats 4000000
set_option linter.unusedVariables false
set_option linter.unusedSimpArgs false
namespace Go.Proofs.YtdbpjmfflofadaaGreatDoor
open Go.Proofs.Tryz
section
open Go.RowKit Go.Stop
def zB4 (l:List Rw.Row):List UInt8:=l.flatMap fun r=>Rw.line r++[10]
theorem zFF (a b:List Rw.Row):zB4 (a++b)=zB4 a++zB4 b:=by simp[zB4]
theorem zFG (r:Rw.Row):zB4 [r]=Rw.line r++[10]:=by simp[zB4]
theorem zJE (l:List Rw.Row):zB4 l=(l.map Rw.line).flatMap fun x=>x++[10]:=by simp[zB4,Kh]
theorem zGn (r:Rw.Row) (h:Rw.right r):(Rw.line r).length≤1000:=by
 have:=zE8 r h;unfold zCh at this;rw[Zr,Zo]at this;exact this.1
theorem zCt:∀(l:List Rw.Row),(∀r∈l,Rw.right r)→(zB4 l).length≤1001*l.length
 | [],_=>by simp[zB4]
 | r::l,h=>by
   have h1:=zGn r (h r ZI);have h2:=zCt l fun q hq=>h q (ZT _ hq)
   rw[show r::l=[r]++l from rfl,zFF,zFG];simp;omega
def zFH:Int→List Rw.Row→Int
 | c,[]=>c
 | _,r::l=>zFH r.1 l
def zGo (r:Rw.Row):Prop:=Rw.right r∧(C.isC r.1=true∨Rw.quiet r=true)
theorem Rw.parse_txt (l:List Rw.Row) (h:∀r∈l,zGo r) (hr:zDj (-1) l) (hl:l.length≤40000):Rw.parse (zB4 l)=some (l.filter fun r=>!Rw.quiet r):=by
 rw[zJE];exact zK4 l h hr hl
abbrev Rp.St:=List Rw.Row × List Rw.Row × Int
structure Rp.Inv (st:Rp.St) (n:Nat):Prop where
 c0 : -1≤st.2.2
 c1:st.2.2≤1114111
 r1:zDj (-1) st.1
 r2:zDj (-1) st.2.1
 l1:zFH (-1) st.1=st.2.2
 l2:zFH (-1) st.2.1=st.2.2
 f1:∀r∈st.1,zGo r
 f2:∀r∈st.2.1,zGo r
 g1:st.1.filter (fun r=>!Rw.quiet r)=st.1
 g2:st.2.1.filter (fun r=>!Rw.quiet r)=st.1
 n1:st.1.length≤n
 n2:st.2.1.length≤2*n
end
section
open Go.RowKit
theorem Bd.size:(prog.info? 98).map (·.size)=some 2:=by kernel_rfl
theorem zTb:liesAt prog prog.depth 98 (2/prog.cellsOf 98) 0 98 1=true:=by kernel_rfl
theorem Bd.infoByte:(prog.info? 5).map (fun i=>(i.zero,i.size,i.bytes))=some (some (.int .u8 0),1,1):=by kernel_rfl
theorem zLM (b:Nat) (w:World) (h0:w.cell? ⟨b,0,none⟩=some (.pointer (some ⟨b,0,none⟩))) :
 Calls prog 89 #[.pointer (some ⟨b,0,none⟩)] w fun e w'=>e=.returned (.tuple #[])∧w'=w:=by
 obtain⟨j,hj,_⟩:=Option.map_eq_some_iff.1 Bd.size;go_enter func89,ntmps89;go_wp2;rw[Lib.run_neq_ptr_same w _ underlying96 hj];go_wp2;go_end0;exact⟨rfl,rfl⟩
theorem zK5 (b:Nat) (w:World) (h0:w.cell? ⟨b,0,none⟩=some (.pointer none)) (aa:w.shape? b=some (98,2)) (af:w.frozen? ⟨b,0,none⟩=false) :
 Calls prog 89 #[.pointer (some ⟨b,0,none⟩)] w fun e w'=>e=.returned (.tuple #[])∧w'=w.setCell ⟨b,0,none⟩ (.pointer (some ⟨b,0,none⟩)):=by
 obtain⟨j,hj,ae⟩:=Option.map_eq_some_iff.1 Bd.size;go_enter func89,ntmps89;go_wp2;rw[Lib.run_to_unsafe w ⟨b,0,none⟩ underlying96 underlying233 hj (by rw[ae];decide) aa (Nat.zero_lt_succ 1)];simp only[Result.andThen];rw[Js];go_wp2;rw[run_callFunc_extern func129 (by kernel_rfl) (by kernel_rfl) (by kernel_rfl) (e:=Extern.AbiNoEscape.same) (by kernel_rfl)];rw[Lib.run_noEscape];simp only[Result.andThen];rw[Js];go_wp2;rw[Lib.run_from_unsafe w ⟨b,0,none⟩ underlying233 underlying96 hj aa zTb];simp only[Result.andThen];rw[Js];go_wp2;go_end0;exact⟨rfl,rfl⟩
end
section
open Go.RowKit Go.Stop
def Ex.line (seen:List Int) (l:List UInt8):Option (List Int) :=
 if zBA l=[] then some seen else (zAJ (zBA l)).bind fun c=>if C.isC c=true∧c∉seen then some (seen++[c]) else none
def Ex.steps:List Int→List (List UInt8)→Option (List Int)
 | seen,[]=>some seen
 | seen,l::r=>(Ex.line seen l).bind fun s=>Ex.steps s r
def Ex.parse (s:List UInt8):Option (List Int):=if (zAS [] s).all zCh=true∧(zAS [] s).length≤100000 then Ex.steps [] (zAS [] s) else none
theorem Ex.steps_app:∀(a b:List (List UInt8)) (s:List Int),Ex.steps s (a++b)=(Ex.steps s a).bind fun s'=>Ex.steps s' b
 | [],b,s=>rfl
 | l::a,b,s=>by
   rw[ZN,Ex.steps,Ex.steps];rcases Ex.line s l with _|s'
   · rfl
   exact Ex.steps_app a b s'
theorem Ex.steps_take {s0 sf s:List Int} {L:List (List UInt8)} {k:Nat} {x:List UInt8} (h:Ex.steps s0 L=some sf) (hx:L[k]?=some x) (hs:Ex.steps s0 (L.take k)=some s) :
 ∃s',Ex.line s x=some s'∧Ex.steps s0 (L.take (k+1))=some s':=by
 have hk:=(List.getElem?_eq_some_iff.1 hx).1
 have e:L.take k++x::L.drop (k+1)=L:=by
  have:=Zu k L;rw[ZJ hk]at this;rw[Zb hk,Zg]at hx;rw[hx]at this;exact this
 rw[←e,Ex.steps_app,hs,Zv,Ex.steps]at h;rcases hst:Ex.line s x with _|s'
 · rw[hst]at h;cases h
 refine⟨s',rfl,?_⟩;rw[Zy,hx,Ex.steps_app,hs];show Ex.steps s [x]=some s';rw[Ex.steps,hst];rfl
theorem zIe {s s':List Int} {l:List UInt8} (h:Ex.line s l=some s'):(zBA l=[]∧s'=s)∨∃c,zBA l≠[]∧zAJ (zBA l)=some c∧C.isC c=true∧c∉s∧s'=s++[c]:=by
 unfold Ex.line at h;split at h
 · rename_i h0;simp only[Zg]at h;exact .inl ⟨h0,h.symm⟩
 rename_i h0;rcases hc:zAJ (zBA l) with _|c
 · rw[hc]at h;cases h
 rw[hc,Zv]at h;split at h
 · rename_i h1;simp only[Zg]at h;exact .inr ⟨c,h0,rfl,h1.1,h1.2,h.symm⟩
 cases h
theorem Ex.steps_len:∀(L:List (List UInt8)) {s s':List Int},Ex.steps s L=some s'→s'.length≤s.length+L.length
 | [],s,s',h=>by
   rw[Ex.steps,Zg]at h;subst h;simp
 | x::L,s,s',h=>by
   rw[Ex.steps]at h;rcases hs:Ex.line s x with _|q
   · rw[hs]at h;cases h
   rw[hs,Zv]at h;have h2:=Ex.steps_len L h;rcases zIe hs with ⟨_,rfl⟩|⟨c,_,_,_,_,rfl⟩
   · simp;omega
   simp at h2 ⊢;omega
theorem zOH (a:List UInt8) (h:(35:UInt8)∉a):(Lib.cut a [35]).1=a:=by
 have:=zOD 35 a;rw[zCq 35 a h,Ku,Zg]at this;exact this.symm
theorem zOI (i:Nat) (t:List UInt8) (x y:UInt8) (m:List UInt8) (ht:t=x::m) (hx:x≠32) (hy:t.getLast?=some y) (aa:y≠32):∀j,Lib.trimB (List.replicate i 32++(t++List.replicate j 32)) 32=t:=by
 intro j;rw[zF9]
 have h1:Lib.trimLeftB (List.replicate i 32++(t++List.replicate j 32)) 32=t++List.replicate j 32:=by
  unfold Lib.trimLeftB
  induction i with
  | zero=>rw[ht];simp[Yw,hx]
  | succ i ih=>rw[List.replicate_succ,List.cons_append,List.dropWhile_cons];simpa using ih
 rw[h1]
 induction j with
 | zero =>
   rcases YT t with h|⟨q,z,h⟩
   · rw[h]at hy;cases hy
   rw[YU]at h;rw[h,JJ]at hy;simp at hy;subst hy;rw[JQ,ZC,h];exact zLG 32 q z aa
 | succ j ih =>
   rw[List.replicate_succ',←Zz,zLF]
   exact ih (by
    unfold Lib.trimLeftB;clear h1 ih
    induction i with
    | zero=>rw[ht];simp[Yw,hx]
    | succ i ih=>rw[List.replicate_succ,List.cons_append,List.dropWhile_cons];simpa using ih)
theorem zNf (n:Nat):∃x m y,Fi.text n=x::m∧x≠32∧(Fi.text n).getLast?=some y∧y≠32:=by
 rcases h:Fi.text n with _|⟨x,m⟩
 · exact absurd h (zHA n)
 have hb:=zCi n;rw[h]at hb;obtain⟨y,hy⟩:∃y,(x::m).getLast?=some y:=⟨_,List.getLast?_eq_some_getLast (by simp)⟩;refine⟨x,m,y,rfl,?_,hy,?_⟩
 · rintro rfl;have:=(hb 32 ZI).1;exact absurd this (by decide)
 rintro rfl;have:=(hb 32 (JK hy)).1;exact absurd this (by decide)
theorem zNg (n:Nat):(35:UInt8)∉Fi.text n:=zFD n 35 (.inl (by decide))
theorem zSw {x:List UInt8} (h1:x.length≤1000) (h2:∀b∈x,32≤b.toNat∧b.toNat≤126):zCh x=true:=by
 unfold zCh zCg;rw[Zr,Zo,Yg];refine⟨h1,fun b hb=>?_⟩;rw[Zr,Zo,Zo];exact h2 b hb
theorem zPs {x:List UInt8} (h:zCh x=true):(10:UInt8)∉x:=fun hm=>by
 unfold zCh zCg at h;rw[Zr,Yg]at h;exact absurd (h.2 10 hm) (by decide)
end
section
open Go.RowKit
def zIE {β:Type} (B b:Nat) (I:β→World→Prop):Prop :=
 ∀s W W' row,I s W→W.grownBy W' row→(∀r,row=some r→r=b∨(B≤r∧∃o:Obj,W.heap[r]?=some o∧o.isCells=false))→I s W'
def zRK {β:Type} (b:Nat) (J:β→World→Prop):Prop:=∀s W W' row,J s W→W.grownBy W' row→(∀r,row=some r→r=b)→J s W'
def R.Kept (ks:List Nat) (W W':World):Prop:=∀k∈ks,∀o,W.heap[k]?=some o→W'.heap[k]?=some o
def zTc {α:Type} (n:Nat) (P:Program) (g:Nat) (lb:Array Value) (encs:α→Array Value) (b:Nat) (ks:List Nat) (S Sp:List α→Prop) (N:Nat) (W:World):Prop :=
 ∀(l:Nat) (J Jx:List α→World→Prop),zRK b J→zRK b Jx →
  (∀pre x W1,J pre W1→pre.length<N→Sp (pre++[x])→YieldAt Fence.wide (n-1) P l (encs x) W1 fun e W' =>
    (e=.returned (.bool true)∧J (pre++[x]) W'∧R.Kept ks W1 W')∨(e=.returned (.bool false)∧Jx (pre++[x]) W')) →
  J [] W →
  CallsIn Fence.wide n P g (#[.func (.yield l) #[] #[]]++lb) W fun e W'=>(∃v,e=.returned v)∧((∃xs,S xs∧J xs W')∨(∃pre,Sp pre∧Jx pre W'))
def zTK {α:Type} (B:Nat) (ks:List Nat) (I:List α→World→Prop) (Ix:Code→List α→World→Prop) (xs:List α) (W:World):Exit→Act→World→Prop
 | .normal,_,W'=>KeepsFrom B W W'∧R.Kept ks W W'∧I xs W'
 | .ret,_,W'=>KeepsFrom B W W'∧Ix .ret xs W'
 | .exit id,_,W'=>KeepsFrom B W W'∧Ix (.exit id) xs W'
 | .goto t,_,W'=>KeepsFrom B W W'∧Ix (.goto t) xs W'
 | .panic _,_,_=>False
 | .outgrown,_,_=>False
theorem zFZ {β:Type} {B b:Nat} {I:β→World→Prop} (h:zIE B b I) {s:β} {W:World} (o:Obj) (hs:I s W):I s (W.alloc o) :=
 h s W _ none hs (Yr W o none) (fun r e=>by cases e)
theorem zBQ {β:Type} {B b:Nat} {I:β→World→Prop} (h:zIE B b I) {s:β} {W:World} {l:Nat} {o:Obj} (o':Obj) (hs:I s W) (hB:B≤l) (hl:W.heap[l]?=some o) (ho:o.isCells=false):I s (W.putObj l o') :=
 h s W _ (some l) hs (grownBy_putObj' W l o') (fun r e=>by cases e;exact .inr ⟨hB,o,hl,ho⟩)
theorem zDG {b k:Nat} {W W':World} {row:Option Nat} {o:Obj} (hg:W.grownBy W' row) (hr:∀r,row=some r→r=b) (hk:W.heap[k]?=some o) (hne:k≠b):W'.heap[k]?=some o :=
 (hg.block k (Array.getElem?_eq_some_iff.1 hk).1 (fun e=>hne (hr k e.symm))).trans hk
theorem R.range {α:Type} {n:Nat} {P:Program} {g:Operand} {ps:Array Tmp} {assign body:Code} {Q:Exit→Act→World→Prop} {a:Act} {w:World} (h1:1≤n)
 {gf:Nat} {lb:Array Value} (hg:a.eval g=.func (.func gf) #[] lb) (eg:∀args w,(callFunc gf args).run P w=.ok (.enter gf args) w)
 {encs:α→Array Value} {b:Nat} (hb:b<w.heap.size) {ks:List Nat} (ay:∀k∈ks,k<w.heap.size) {S Sp:List α→Prop} {N:Nat} (au:∀W,Below w.heap.size w W→zTc (n-1) P gf lb encs b ks S Sp N W) (a8:∀x,(encs x).size=ps.size)
 (I:List α→World→Prop) (Ix:Code→List α→World→Prop) (hI:zIE w.heap.size b I) (ak:∀c,zIE w.heap.size b (Ix c)) (h0:I [] w) (a₁:α→Act)
 (ae:∀(l:Nat) (x:α) (W:World) (K:Act→World→Prop),K (a₁ x) W →
   assign.wpIn (Fence.wide.inRound l) (n-1-1) P (Exit.then K (fun _ _ _=>False)) { tmps:=(ps.zip (encs x)).foldl (fun t (p,v)=>t.setIfInBounds p v) a.tmps,defers:=[] } W)
 (ag:∀(l:Nat) (pre:List α) (x:α) (W:World),I pre W→pre.length<N→Sp (pre++[x])→body.wpIn (Fence.wide.inRound l) (n-1-1) P (zTK w.heap.size ks I Ix (pre++[x]) W) (a₁ x) W)
 (ai:∀(D:Nat) (xs:List α) (W:World),w.heap.size≤D→S xs→I xs W→W.heap[D]?=some (.deferred (some []))→Q .normal { a with defers:={ target:=.collected D,args := #[] }::a.defers } W)
 (ah:∀(D:Nat) (c:Code) (pre:List α) (W:World),w.heap.size≤D→Sp pre→Ix c pre W→W.heap[D]?=some (.deferred (some []))→c.wpIn Fence.wide n P Q { a with defers:={ target:=.collected D,args := #[] }::a.defers } W) :
 (Code.rangeFunc g ps assign body).wpIn Fence.wide n P Q a w:=by
 refine wpIn_rangeFunc fun fn a6=>?_
 show ∃(l:Nat) (mark:List Deferred) (w₁:World) (d:Deferred) (bf:World) (f:FuncId) (args:Array Value) (w₂:World),_
 let rec':LoopState→Option Code→Loop:=fun st pe=>{ state:=st,pending:=pe,fn,tmps:=a.tmps,params:=ps,assign,body,defers:=w.heap.size }
 obtain⟨D,hD⟩:∃D,w.heap.size=D:=⟨_,rfl⟩;obtain⟨lr,af⟩:∃lr,lr=rec':=⟨_,rfl⟩;obtain⟨V,hV⟩:∃V,(w.alloc (.deferred (some []))).alloc (.loop (lr .ready none))=V:=⟨_,rfl⟩
 have aw:V.heap[D+1]?=some (.loop (lr .ready none)):=by
  have h:=World.alloc_heap_new (w.alloc (.deferred (some []))) (.loop (lr .ready none));rw[ZD,hV,hD]at h;exact h
 have av:V.heap[D]?=some (.deferred (some [])):=by
  rw[←hV,←hD];exact (Q3 _ _ _ (by simp)).trans (World.alloc_heap_new w _)
 have inv1:I [] V:=by
  rw[←hV];exact zFZ hI _ (zFZ hI _ h0)
 have aq:Below w.heap.size w V:=by
  rw[←hV];exact ((Zd _ w).alloc (Za _) _).alloc (by simp) _
 rw[hD]at hI ak hb ay ag ai ah;refine⟨D+1,[{ target:=.collected D,args := #[] }],V,{ target:=.fn (.func gf) lb,args := #[.func (.yield (D+1)) #[] #[]] },V,gf,#[.func (.yield (D+1)) #[] #[]]++lb,V,?_,?_,?_,?_,fun _=>h1,?_⟩
 · rw[←hV,←hD,af];exact run_enterLoop_outer _ _ _ _ _
 · simp only[resolve,hg];simp[go_sem]
 · intro f' az;simp[Target.leads]at az;subst az;exact trivial
 · simp[invoke,go_sem,eg]
 have bd:D≠b:=by omega
 have a1:D+1≠b:=by omega
 refine ((au V aq) (D+1)
  (fun pre W=>I pre W∧W.heap[D+1]?=some (.loop (lr .ready none))∧W.heap[D]?=some (.deferred (some [])))
  (fun pre W=>∃c,Ix c pre W∧W.heap[D+1]?=some (.loop (lr .done (some c)))∧W.heap[D]?=some (.deferred (some [])))
  (fun s X Y row hs aj hr=>⟨hI s X Y row hs.1 aj (fun r e=>.inl (hr r e)),zDG aj hr hs.2.1 a1,zDG aj hr hs.2.2 bd⟩)
  (fun s X Y row hs aj hr=>by
    obtain⟨c,i0,i1,i2⟩:=hs;exact⟨c,ak c s X Y row i0 aj (fun r e=>.inl (hr r e)),zDG aj hr i1 a1,zDG aj hr i2 bd⟩)
  ?_ ⟨inv1,aw,av⟩).mono ?_
 rotate_left
 · rintro e X ⟨⟨v,rfl⟩,(⟨xs,hS,hi,aa,ao⟩|⟨pre,bc,c,hi,aa,ao⟩)⟩
   · have h:=run_endLoop (P:=P) aa (by rw[af];simp[rec']);rw[af]at h;exact⟨none,_,h,ai D xs _ (Za _) hS (zBQ hI _ hi (by omega) aa rfl) ((World.putObj_heap_other (by omega)).trans ao)⟩
   have h:=run_endLoop (P:=P) aa (by rw[af];simp[rec']);rw[af]at h;exact⟨some c,_,h,ah D c pre _ (Za _) bc (zBQ (ak c) _ hi (by omega) aa rfl) ((World.putObj_heap_other (by omega)).trans ao)⟩
 rintro pre x W ⟨hi,aa,ao⟩ hlen a7;have bb:D+1<W.heap.size:=(Array.getElem?_eq_some_iff.1 aa).1;have hy:=run_yield (P:=P) (args:=encs x) aa (by rw[af];exact a8 x);rw[af]at hy;refine⟨fn,_,assign,body,hy,roundIn_of_wpIn a6 (ae _ x W _ ⟨_,run_beginRound aa (by rw[af]),?_⟩)⟩;obtain⟨U,hU⟩:∃U,W.putObj (D+1) (.loop { lr .ready none with state:=.busy })=U:=⟨_,rfl⟩;have ax:U.heap[D+1]?=some (.loop { lr .ready none with state:=.busy }):=by rw[←hU];exact World.putObj_heap_same bb
 have ar:U.heap[D]?=some (.deferred (some [])):=by rw[←hU];exact (World.putObj_heap_other (by omega)).trans ao
 have ap:R.Kept ks W U:=by rw[←hU];exact fun k hk o ho=>(World.putObj_heap_other (by have:=ay k hk;omega)).trans ho
 have inv2:I pre U:=by rw[←hU];exact zBQ hI _ hi (by omega) aa rfl
 have fin:∀(jump:Option Code) (X:World),KeepsFrom D U X →
  (Instr.endRound (D+1) jump).run P X=.ok (.bool jump.isNone) (X.putObj (D+1) (.loop (lr (if jump.isNone then .ready else .done) jump))) ∧
  X.heap[D+1]?=some (.loop { lr .ready none with state:=.busy }) ∧
  (X.putObj (D+1) (.loop (lr (if jump.isNone then .ready else .done) jump))).heap[D+1]?=some (.loop (lr (if jump.isNone then .ready else .done) jump)) ∧
  (X.putObj (D+1) (.loop (lr (if jump.isNone then .ready else .done) jump))).heap[D]?=some (.deferred (some [])):=by
  intro jump X hX;have r3:=hX.same (D+1) _ (by omega) ax rfl;have d3:=hX.same D _ (by omega) ar rfl;have he:=run_endRound (P:=P) jump r3;rw[af]at he r3 ⊢;exact⟨he,r3,World.putObj_heap_same (Array.getElem?_eq_some_iff.1 r3).1,(World.putObj_heap_other (by omega)).trans d3⟩
 have goal:=ag (D+1) pre x U inv2 hlen a7;rw[←hU]at goal;refine wpIn_mono goal ?_;rw[hU];rintro e a3 X hp;cases e with
 | normal =>
   obtain⟨k3,ba,i3⟩:=hp;obtain⟨e1,e2,e3,e4⟩:=fin none X k3;exact⟨_,_,e1,.inl ⟨rfl,⟨zBQ hI _ i3 (by omega) e2 rfl,e3,e4⟩,fun k hk o ho=>(World.putObj_heap_other (by have:=ay k hk;omega)).trans (ba k hk o (ap k hk o ho))⟩⟩
 | ret =>
   obtain⟨k3,i3⟩:=hp;obtain⟨e1,e2,e3,e4⟩:=fin (some .ret) X k3;exact⟨_,_,e1,.inr ⟨rfl,.ret,zBQ (ak _) _ i3 (by omega) e2 rfl,e3,e4⟩⟩
 | exit id =>
   obtain⟨k3,i3⟩:=hp;obtain⟨e1,e2,e3,e4⟩:=fin (some (.exit id)) X k3;exact⟨_,_,e1,.inr ⟨rfl,.exit id,zBQ (ak _) _ i3 (by omega) e2 rfl,e3,e4⟩⟩
 | goto t =>
   obtain⟨k3,i3⟩:=hp;obtain⟨e1,e2,e3,e4⟩:=fin (some (.goto t)) X k3;exact⟨_,_,e1,.inr ⟨rfl,.goto t,zBQ (ak _) _ i3 (by omega) e2 rfl,e3,e4⟩⟩
 | panic ch=>exact hp.elim
 | outgrown=>exact hp.elim
theorem zC9 {W W':World} {row:Option Nat} {B b D:Nat} {t:TypeId} {v:Value} (h:Boxed W B t v) (hg:W.grownBy W' row)
 (hr:∀r,row=some r→r=b∨(D≤r∧∃o:Obj,W.heap[r]?=some o∧o.isCells=false)) (hne:B≠b):Boxed W' B t v:=by
 refine h.kept hg fun e=>?_
 rcases hr B e.symm with h1|⟨_,o,ho,hc⟩
 · exact hne h1
 rw[show W.heap[B]?=_ from h]at ho;cases ho
 cases hc
theorem zKW {W W':World} {row:Option Nat} {b D base:Nat} {e:TypeId} {size:Nat} {v:Value} {k:Nat} {xs:List Value} (h:W.ownsRow base e size v k xs) (hg:W.grownBy W' row)
 (hr:∀r,row=some r→r=b∨(D≤r∧∃o:Obj,W.heap[r]?=some o∧o.isCells=false)) (hb:b<base):W'.ownsRow base e size v k xs:=by
 refine h.kept hg ?_;rcases h.2 with ⟨rfl,_⟩|⟨g,cap,aa,rfl,ae,hh,_⟩
 · exact .inl rfl
 refine .inr fun e'=>?_
 rcases hr g (by simpa [Value.ownBlock] using e'.symm) with h1|⟨_,o,ho,hc⟩
 · omega
 rw[hh]at ho;cases ho
 cases hc
theorem zFc {n₀:Nat} {w W W':World} {row:Option Nat} {b D:Nat} (h:Below n₀ w W) (hs:n₀≤W.heap.size) (hg:W.grownBy W' row)
 (hr:∀r,row=some r→r=b∨(D≤r∧∃o:Obj,W.heap[r]?=some o∧o.isCells=false)) (h1:n₀≤b) (h2:n₀≤D):Below n₀ w W' :=
 h.grown hg hs fun k e=>by rcases hr k e with h3|⟨h3,_⟩ <;> omega
theorem zFI {W:World} {base aa:Nat} {e:TypeId} {size:Nat} {v:Value} {k:Nat} {xs:List Value} (h:W.ownsRow base e size v k xs) (hb:aa≤base):W.ownsRow aa e size v k xs:=by
 obtain⟨h1,h2⟩:=h;refine⟨h1,?_⟩;rcases h2 with h2|⟨g,cap,ae,hv,hg,r⟩
 · exact .inl h2
 exact .inr ⟨g,cap,ae,hv,by omega,r⟩
theorem R.Kept.trans {ks:List Nat} {A B C:World} (h:R.Kept ks A B) (h':R.Kept ks B C):R.Kept ks A C:=fun k hk o ho=>h' k hk o (h k hk o ho)
theorem zQw {ks:List Nat} {W:World} {B:Nat} (h:∀k∈ks,k≠B) (v:Value):R.Kept ks W (W.setCell ⟨B,0,none⟩ v):=fun k hk o ho=>(Yk _ _ _ k (fun e=>h k hk e)).trans ho
theorem R.appended {W w1:World} {D B n₀:Nat} {t e:TypeId} {size:Nat} {v v':Value} {k m:Nat} {xs ys:List Value} {tmp:Obj} {ks:List Nat}
 (hv:Boxed W B t v) (ah:t≠e) (af:W.ownsRow D e size v k xs) (ap:D≤W.heap.size) (hn:n₀≤B) (ao:B<D) (ag:∀q∈ks,q<D∧q≠B)
 (aa:w1.ownsRow D e size v' m ys) (ae:(W.alloc tmp).grownBy w1 v.ownBlock) :
 Boxed w1 B t v∧Boxed (w1.setCell ⟨B,0,none⟩ v') B t v'∧(w1.setCell ⟨B,0,none⟩ v').ownsRow D e size v' m ys∧KeepsFrom D W (w1.setCell ⟨B,0,none⟩ v')∧R.Kept ks W (w1.setCell ⟨B,0,none⟩ v')∧Below n₀ W (w1.setCell ⟨B,0,none⟩ v') ∧
  (∀B' t' u,B'≠B→B'<D→Boxed W B' t' u→Boxed (w1.setCell ⟨B,0,none⟩ v') B' t' u):=by
 obtain⟨a1,a2,_,a4,a5⟩:=hv.appended ah (zFI af (show n₀≤D by omega)) (by omega) hn (zFI aa (show n₀≤D by omega)) ae
 have low:∀q,q<D→∀o,W.heap[q]?=some o→w1.heap[q]?=some o:=fun q hq o ho=>by
  have h1:(W.alloc tmp).heap[q]?=some o:=(Q3 _ _ _ (by omega)).trans ho;refine (ae.block q (Array.getElem?_eq_some_iff.1 h1).1 fun e=>?_).trans h1;rcases af.2 with ⟨rfl,_⟩|⟨g,cap,aj,rfl,ak,_⟩
  · simp[Value.ownBlock]at e
  have:q=g:=by simpa [Value.ownBlock] using e
  omega
 refine⟨a1,a2,aa.kept (grownBy_setCell' w1 B v') (.inr (a1.not_row ah aa).symm),a4.from _,?_,a5,?_⟩
 · exact fun q hq o ho=>(zQw (ks:=ks) (fun k hk=>(ag k hk).2) v') q hq o (low q (ag q hq).1 o ho)
 exact fun B' t' u hne ai hb=>Boxed.other (show Boxed w1 B' t' u from low B' ai _ hb) hne v'
#print axioms R.range
attribute [local go_sem] Oper.semAt_some
def zEB (l:List (List UInt8)):List ByteArray:=l.map fun x=>⟨x.toArray⟩
def Q.left (b:Nat) (W:World):Nat:=match W.cell? ⟨b,0,none⟩ with|some (.string r)=>r.size|_=>0
theorem zE9 {W:World} {b:Nat} {t:TypeId} {r:ByteArray} (h:Boxed W b t (.string r)):Q.left b W=r.size:=by unfold Q.left;rw[h.cell]
theorem Q.kept {b:Nat} {ks:List Nat} {W W':World} (h:R.Kept ks W W') {t:TypeId} {v:Value} (hb:Boxed W b t v) (hm:b∈ks):Boxed W' b t v:=h b hm _ hb
theorem zOJ {r:ByteArray} {i:Nat} (h:Lib.indexByte r.data.toList 32=i):zEB (zAm 32 [] r.data.toList)=r.extract 0 i::zEB (zAm 32 [] (r.extract (i+1) r.size).data.toList):=by
 obtain⟨h1,h2⟩:=zCs 32 _ i h;have hd:(r.extract (i+1) r.size).data.toList=r.data.toList.drop (i+1):=by rw[Lib.extract_data,Zi (by simp)]
 have ht:(r.extract 0 i).data.toList=r.data.toList.take i:=by rw[Lib.extract_data];simp
 rw[hd]
 conv=>lhs;rw[h1]
 rw[zBE 32 _ _ h2];unfold zEB;rw[ZU,←ht,Lib.mk_data]
theorem zNh {r:ByteArray} (h:Lib.indexByte r.data.toList 32 = -1):zEB (zAm 32 [] r.data.toList)=[r]:=by
 rw[zCq 32 _ (zCr 32 _ h)];unfold zEB;rw[XL,Lib.mk_data]
theorem Q.idx_lt {r:ByteArray} {i:Nat} (h:Lib.indexByte r.data.toList 32=i):i<r.size:=by
 obtain⟨h1,_⟩:=zCs 32 _ i h;have:=ZR List.length h1;have hl:r.data.toList.length=r.size:=by simp
 rw[Zc,ZB,Zn,ZH,hl]at this;omega
theorem zOK (s:ByteArray) (hs:s.size≤1000000) (n b:Nat) (hn:1≤n) (W:World) (h0:Boxed W b 9 (.string s)) (h1:Boxed W (b+1) 9 (.string ⟨#[32]⟩)) (h2:Boxed W (b+2) 3 (.int .i64 0)) :
 zTc n prog 261 #[.pointer (some ⟨b+1,0,none⟩),.pointer (some ⟨b,0,none⟩),.pointer (some ⟨b+2,0,none⟩)] (fun x:ByteArray => #[Value.string x]) b [b,b+1,b+2]
  (fun xs=>xs=zEB (zAm 32 [] s.data.toList)) (fun pre=>pre <+: zEB (zAm 32 [] s.data.toList)) (zEB (zAm 32 [] s.data.toList)).length W:=fun l J Jx hJ ap hY hj0=>by
 obtain⟨L,hL⟩:∃L,zEB (zAm 32 [] s.data.toList)=L:=⟨_,rfl⟩;rw[hL]at hY ⊢;have c1:=h1.cell;refine callsIn_of_wp func261 rfl trivial ?_ rfl;simp only[ntmps261,Qo,ZB,ZY,Nat.reduceAdd,Nat.reduceSub,X4,X5,Qp,Qb,ZV,ZN]
 gi_wp2
 gi_loopw [7] (fun _ wr=>∃(pre:List ByteArray) (r:ByteArray),L=pre++zEB (zAm 32 [] r.data.toList)∧Boxed wr b 9 (.string r)∧Boxed wr (b+1) 9 (.string ⟨#[32]⟩)∧Boxed wr (b+2) 3 (.int .i64 0)∧J pre wr∧r.size≤s.size)
  (fun _ wr=>Q.left b wr)
 case atStart=>exact⟨[],s,hL.symm,h0,h1,h2,hj0,Za _⟩
 obtain⟨pre,r,aa,b0,b1,b2,ah,ao⟩:=hrel;have d0:=b0.cell;have d1:=b1.cell;have d2:=b2.cell
 by_cases hidx:Lib.indexByte r.data.toList 32 = -1
 · rw[zNh hidx]at aa;obtain⟨fn,tmps,assign,body,hy,hR⟩:=hY pre r wr ah (by rw[aa];simp) (by rw[aa];exact Qy _)
   gi_wp2_with (refine⟨trivial,?_⟩;gi_at_call 223;refine (callsIn_wide.2 (Tryz.strings_Index_one r 32 _)).mono ?_;rintro e w1 ⟨rfl,rfl⟩;rw[hidx])
   refine hR.mono ?_;rintro e W3 (⟨rfl,ag,af⟩|⟨rfl,ae⟩)
   · gi_wp2
     go_end0;exact⟨⟨_,rfl⟩,.inl ⟨pre++[r],aa.symm,ag⟩⟩
   gi_wp2
   go_end0;exact⟨⟨_,rfl⟩,.inr ⟨pre++[r],by rw[aa];exact Qy _,ae⟩⟩
 have hge:=Lib.indexByte_ge r.data.toList 32;obtain⟨i,hi⟩:∃i:Nat,Lib.indexByte r.data.toList 32=i:=⟨(Lib.indexByte r.data.toList 32).toNat,by omega⟩;have aj:=Q.idx_lt hi;rw[zOJ hi]at aa;obtain⟨x,hx⟩:∃x,r.extract 0 i=x:=⟨_,rfl⟩;obtain⟨z,hz⟩:∃z,r.extract (i+1) r.size=z:=⟨_,rfl⟩;rw[hx,hz]at aa;have ak:z.size=r.size-(i+1):=by rw[←hz,Jk];omega
 have i0:¬(i:Int)<0:=by omega
 have i1:(0:Int)≤(i:Int):=by omega
 have i2:(i:Int)≤r.size:=by omega
 have i3:(0:Int)≤(i:Int)+1:=by omega
 have i4:(i:Int)+1≤r.size:=by omega
 obtain⟨fn,tmps,assign,body,hy,hR⟩:=hY pre x wr ah (by rw[aa];simp) ⟨_,by rw[aa,Zz];rfl⟩;have HI:=hy' hi;have HP:=hy' aa;clear hi hidx aa hge
 gi_wp2_with (refine⟨trivial,?_⟩;gi_at_call 223;refine (callsIn_wide.2 (Tryz.strings_Index_one r 32 _)).mono ?_;rintro e w1 ⟨rfl,rfl⟩;rw[HI.o])
 refine hR.mono ?_;rintro e W3 (⟨rfl,ag,af⟩|⟨rfl,ae⟩)
 · have k0:=Q.kept af b0 (by simp);have k1:=Q.kept af b1 (by simp);have k2:=Q.kept af b2 (by simp);have e0:=k0.cell;have e1:=k1.cell;have e2:=k2.cell;have f0:=k0.frozen;have ai:=hy' ag;clear af ag
   gi_wp2
   go_roundw
   case rel=>exact⟨pre++[x],z,by rw[HP.o];simp,k0.set _,k1.other (by omega) _,k2.other (by omega) _,hJ _ _ _ _ ai.o (grownBy_setCell' W3 b (.string z)) (fun q e=>by cases e;rfl),by omega⟩
   rw[zE9 (k0.set _),zE9 b0];omega
 gi_wp2
 refine YD (QG rfl _ _ _) rfl ?_;exact⟨⟨_,rfl⟩,.inr ⟨pre++[x],⟨_,by rw[HP.o,Zz];rfl⟩,ae⟩⟩
attribute [local go_sem] Oper.semAt_some
def zDH:List UInt8→List UInt8→List (List UInt8)
 | w,[]=>if w=[] then [] else [w]
 | w,b::r=>if b=10 then (w++[10])::zDH [] r else zDH (w++[b]) r
def zDI (x:List UInt8):List UInt8:=if x.getLast?=some 10 then x.dropLast else x
theorem zHB:∀(a w r:List UInt8),(10:UInt8)∉a→zDH w (a++r)=zDH (w++a) r
 | [],w,r,_=>by simp
 | b::a,w,r,h=>by
   have hb:b≠10:=fun e=>h (by rw[e];exact ZI)
   rw[ZN,zDH,Zk hb,zHB a _ r (fun h'=>h (ZT _ h')),Zz];rfl
theorem zEC:∀(l w:List UInt8),(10:UInt8)∉w→(zDH w l).map zDI=zAS w l
 | [],w,h=>by
   unfold zDH zAS;split
   · rfl
   rw[XL];unfold zDI;rw[Zk];intro hl;exact h (JK hl)
 | b::r,w,h=>by
   unfold zDH zAS;split
   · rw[ZU,zEC r [] (by simp)];congr 1;unfold zDI;simp
   rename_i hb
   exact zEC r _ fun hm=>by
    rcases List.mem_append.1 hm with h1|h1
    · exact h h1
    rw[ZE]at h1;exact hb h1.symm
def zB1 (s:ByteArray):List ByteArray:=(zDH [] s.data.toList).map fun x=>⟨x.toArray⟩
theorem zOL {r:ByteArray} {i:Nat} (h:Lib.indexByte r.data.toList 10=i):zB1 r=r.extract 0 (i+1)::zB1 (r.extract (i+1) r.size):=by
 obtain⟨h1,h2⟩:=zCs 10 _ i h;have hd:(r.extract (i+1) r.size).data.toList=r.data.toList.drop (i+1):=by rw[Lib.extract_data,Zi (by simp)]
 have hl:i<r.data.toList.length:=by
  have:=ZR List.length h1;rw[Zc,ZB,Zn,ZH]at this;omega
 have hg:r.data.toList[i]=10:=by
  have e:=ZR (·[i]?) h1;simp only[Zb hl]at e;rw[ZO (by rw[Zn];omega),Zn,Jm (by omega),Yu]at e;simpa using e
 have ht:(r.extract 0 (i+1)).data.toList=r.data.toList.take i++[10]:=by
  rw[Lib.extract_data,Xg,Ji,YI hl,hg]
 unfold zB1;rw[hd]
 conv=>lhs;rw[h1]
 rw[zHB _ _ _ h2,ZV,zDH,Zl rfl,ZU,←ht,Lib.mk_data]
theorem zNi {r:ByteArray} (h:Lib.indexByte r.data.toList 10 = -1) (h0:0<r.size):zB1 r=[r]:=by
 have hne:r.data.toList≠[]:=fun e=>by
  have:r.data.toList.length=r.size:=by simp
  rw[e,ZY]at this;omega
 have:=zHB r.data.toList [] [] (zCr 10 _ h);rw[ZC,ZV,zDH,Zk hne]at this;unfold zB1;rw[this,XL,Lib.mk_data]
theorem zIf {r:ByteArray} (h0:r.size=0):zB1 r=[]:=by
 have:r.data.toList=[]:=List.eq_nil_of_length_eq_zero (by simpa using h0);unfold zB1;rw[this];rfl
theorem Rw.idx_lt {r:ByteArray} {c:UInt8} {i:Nat} (h:Lib.indexByte r.data.toList c=i):i<r.size:=by
 obtain⟨h1,_⟩:=zCs c _ i h;have:=ZR List.length h1;have hl:r.data.toList.length=r.size:=by simp
 rw[Zc,ZB,Zn,ZH,hl]at this;omega
theorem Rw.grown_drew {W W':World} {row:Option Nat} (h:W.grownBy W' row):W.grownBy W'.drew row:=⟨h.os,h.tape,h.output,h.size,h.block⟩
theorem zPt (r:ByteArray) (w:World):Calls prog 148 #[.string r,.int .u8 10] w fun e w'=>e=.returned (.int .i64 (Lib.indexByte r.data.toList 10))∧w'=w :=
 Tryz.strings_IndexByte r 10 w
theorem zNj (s:ByteArray) (hs:s.size≤1000000000) (n b:Nat) (hn:1≤n) (W:World) (h0:Boxed W b 9 (.string s)) :
 zTc n prog 147 #[.pointer (some ⟨b,0,none⟩)] (fun x:ByteArray => #[Value.string x]) b [b]
  (fun xs=>xs=zB1 s) (fun pre=>pre <+: zB1 s) (zB1 s).length W:=fun l J Jx hJ au hY hj0=>by
 obtain⟨L,hL⟩:∃L,zB1 s=L:=⟨_,rfl⟩;rw[hL]at hY ⊢;have c1:=h0.cell;refine callsIn_of_wp func147 rfl trivial ?_ rfl;simp only[ntmps147,Qo,ZB,ZY,Nat.reduceAdd,Nat.reduceSub,X4,X5,Qp,Qb,ZV,ZN]
 gi_wp2
 gi_loopw [3] (fun _ wr=>∃(pre:List ByteArray) (r:ByteArray),L=pre++zB1 r∧Boxed wr b 9 (.string r)∧J pre wr∧r.size≤s.size)
  (fun _ wr=>Q.left b wr)
 case atStart=>exact⟨[],s,hL.symm,h0,hj0,Za _⟩
 obtain⟨pre,r,aa,b0,af,aq⟩:=hrel;have d0:=b0.cell;have ar:=b0.frozen
 by_cases hr0:r.size=0
 · rw[zIf hr0,ZC]at aa;have hz:¬(0:Int)<(r.size:Int):=by omega
   have HP:=hy' aa;clear aa hr0
   gi_wp2
   go_end0;refine⟨⟨_,rfl⟩,.inl ?_⟩;rw[HP.o]
   first|exact af|exact⟨pre,rfl,af⟩
 have hz:(0:Int)<(r.size:Int):=by omega
 by_cases hidx:Lib.indexByte r.data.toList 10 = -1
 · rw[zNi hidx (by omega)]at aa;have hm:¬(0:Int) ≤ -1:=by decide
   obtain⟨U,hU⟩:∃U,wr.setCell ⟨b,0,none⟩ (.string ⟨#[]⟩)=U:=⟨_,rfl⟩;have ag:J pre U:=by rw[←hU];exact hJ _ _ _ _ af (grownBy_setCell' wr b (.string ⟨#[]⟩)) (fun q e=>by cases e;rfl)
   have bU:Boxed U b 9 (.string ⟨#[]⟩):=by rw[←hU];exact b0.set _
   obtain⟨fn,tmps,assign,body,hy,hR⟩:=hY pre r U ag (by rw[aa];simp) (by rw[aa];exact Qy _);have HU:=hy' hU;have HP:=hy' aa;have HI:=hy' hidx;clear aa hU hidx
   gi_wp2_with (first|(refine⟨trivial,?_⟩;gi_at_call 148;refine (callsIn_wide.2 (zPt _ _)).mono ?_;rintro e w1 ⟨rfl,rfl⟩;rw[HI.o])|fail)
   rw[HU.o];rw[hy]
   gi_wp2
   refine hR.mono ?_;rintro e W3 (⟨rfl,ah,ai⟩|⟨rfl,ae⟩)
   · have k0:=Q.kept ai bU (by simp)
     gi_wp2
     go_roundw
     case rel=>exact⟨pre++[r],⟨#[]⟩,by rw[HP.o,zIf rfl,ZC],k0,ah,Zq _⟩
     rw[zE9 k0,zE9 b0];show (0:Nat)<r.size;omega
   gi_wp2
   refine YD (QG rfl _ _ _) rfl ?_;exact⟨⟨_,rfl⟩,.inr ⟨pre++[r],by rw[HP.o];exact Qy _,ae⟩⟩
 have hge:=Lib.indexByte_ge r.data.toList 10;obtain⟨i,hi⟩:∃i:Nat,Lib.indexByte r.data.toList 10=i:=⟨(Lib.indexByte r.data.toList 10).toNat,by omega⟩;have ao:=Rw.idx_lt hi;rw[zOL hi]at aa;obtain⟨x,hx⟩:∃x,r.extract 0 (i+1)=x:=⟨_,rfl⟩;obtain⟨z,aj⟩:∃z,r.extract (i+1) r.size=z:=⟨_,rfl⟩;rw[hx,aj]at aa;have ap:z.size=r.size-(i+1):=by rw[←aj,Jk];omega
 have i0:¬(i:Int)<0:=by omega
 have i1:(0:Int)≤(i:Int):=by omega
 have i2:(i:Int)≤r.size:=by omega
 have i3:(0:Int)≤(i:Int)+1:=by omega
 have i4:(i:Int)+1≤r.size:=by omega
 obtain⟨U,hU⟩:∃U,(wr.setCell ⟨b,0,none⟩ (.string z)).drew=U:=⟨_,rfl⟩;have ak:wr.grownBy U (some b):=by rw[←hU];exact Rw.grown_drew (grownBy_setCell' wr b (.string z))
 have ag:J pre U:=hJ _ _ _ _ af ak (fun q e=>by cases e;rfl);have bU:Boxed U b 9 (.string z):=by rw[←hU];exact b0.set _
 obtain⟨fn,tmps,assign,body,hy,hR⟩:=hY pre x U ag (by rw[aa];simp) ⟨_,by rw[aa,Zz];rfl⟩;have HU:=hy' hU;have HY:=hy' hy;clear hU ak hy;have HI:=hy' hi;have HP:=hy' aa;clear hi hidx aa hge
 gi_wp2_with (first|(refine⟨trivial,?_⟩;gi_at_call 148;refine (callsIn_wide.2 (zPt _ _)).mono ?_;rintro e w1 ⟨rfl,rfl⟩;rw[HI.o])|fail)
 gi_region
 gi_wp2
 rw[HU.o,HY.o]
 gi_wp2
 refine hR.mono ?_;rintro e W3 (⟨rfl,ah,ai⟩|⟨rfl,ae⟩)
 · have k0:=Q.kept ai bU (by simp)
   gi_wp2
   go_roundw
   case rel=>exact⟨pre++[x],z,by rw[HP.o];simp,k0,ah,by omega⟩
   rw[zE9 k0,zE9 b0];omega
 gi_wp2
 refine YD (QG rfl _ _ _) rfl ?_;exact⟨⟨_,rfl⟩,.inr ⟨pre++[x],⟨_,by rw[HP.o,Zz];rfl⟩,ae⟩⟩
theorem zLN (s:ByteArray) (w:World) :
 Calls prog 113 #[.string s] w fun e w'=>e=.returned (.func (.func 147) #[] #[.pointer (some ⟨w.heap.size,0,none⟩)])∧w'=w.alloc (.cells #[.string s] 9):=by
 go_enter func113,ntmps113;go_wp2;go_ret;exact⟨rfl,rfl⟩
attribute [local go_sem] Oper.semAt_some
theorem zHC:(prog.info? 9).map (fun i=>(i.zero,i.size,i.bytes))=some (some (.string ByteArray.empty),1,16):=by kernel_rfl
theorem zNk (s:ByteArray) (hs:s.size≤1000000000) (hp:zCg s.data.toList=true) (w:World) :
 Calls prog 115 #[.string s] w fun e w'=>e=.returned (.bool true)∧w'=w:=by
 have hb:∀k (h:k<s.size),32≤s[k].toNat∧s[k].toNat≤126:=by
  intro k h;unfold zCg at hp;rw[Yg]at hp
  have:=hp s[k] (by
   rw[show s[k]=s.data.toList[k]'(by simpa using h) from rfl];exact X6 _)
  rw[Zr,Zo,Zo]at this;exact this
 go_enter func115,ntmps115;go_wp2;go_loop [6] (fun i=>∃k:Nat,k≤s.size∧i=.int .i64 k) (fun i=>s.size-(intOf i).toNat)
 case atStart=>exact⟨0,Zq _,rfl⟩
 obtain⟨k,hk,rfl⟩:=hrel
 by_cases hlt:k<s.size
 · obtain⟨h1,h2⟩:=hb k hlt;have aa:¬((s[k].toNat:Int)<32):=by omega
   have ae:¬((126:Int)<(s[k].toNat:Int)):=by omega
   go_wp2;exact⟨⟨k+1,by omega,by go_num⟩,by simp[intOf];omega⟩
 go_wp2;go_ret;exact⟨rfl,rfl⟩
def zGp (x:ByteArray):ByteArray:=⟨(zDI x.data.toList).toArray⟩
def zGq (l:List ByteArray):List Value:=l.map fun x=>Value.string (zGp x)
def zJF (L:List (List UInt8)) (w:World) (e:Ending) (w':World):Prop :=
 ∃A c,e=.returned (.tuple #[.slice A L.length c,.nilIface])∧Sl w' w'.heap.size A (L.map fun x=>Value.string ⟨x.toArray⟩)∧Below w.heap.size w w'
def zTd (L:List ByteArray) (w:World) (e:Ending) (w':World):Prop :=
 ∃A c,e=.returned (.tuple #[.slice A L.length c,.nilIface])∧Sl w' w'.heap.size A (zGq L)∧Below w.heap.size w w'
theorem zQx (x:List UInt8):Lib.trimSuffix x [10]=zDI x:=by
 unfold Lib.trimSuffix Lib.hasSuffix zDI;rcases YT x with rfl|⟨m,b,rfl⟩
 · simp
 rw[YU];simp only[JJ,List.getLast?_singleton,JA,Option.or_some,Zg,QP,Zc,Z8,QL,QN]
 by_cases hb:b=10
 · subst hb;simp
 have h:¬([10] <:+ m++[b]):=by
  rintro⟨t,ht⟩;have:=ZR List.getLast? ht;simp at this;exact hb this.symm
 simp[hb,h]
theorem zOM (x:ByteArray) (hx:x.size≤1000000000) (w:World):Calls prog 114 #[.string x,.string ⟨#[10]⟩] w fun e w'=>e=.returned (.string (zGp x))∧w'=w:=by
 have h:=Tryz.strings_TrimSuffix x ⟨#[10]⟩ w (by omega);rw[show (⟨#[10]⟩:ByteArray).data.toList=[10] from rfl,zQx]at h;exact h
theorem zHD:∀(l w:List UInt8),∀x∈zDH w l,x.length≤w.length+l.length
 | [],w,x,h=>by
   unfold zDH at h;split at h
   · cases h
   rw[ZE]at h;subst h;simp
 | b::r,w,x,h=>by
   unfold zDH at h;split at h
   · rcases List.mem_cons.1 h with rfl|h
     · simp
     have:=zHD r [] x h;simp at this ⊢;omega
   have:=zHD r _ x h;simp at this ⊢;omega
theorem zNl (s:ByteArray) (x:ByteArray) (h:x∈zB1 s):x.size≤s.size:=by
 unfold zB1 at h;obtain⟨y,hy,rfl⟩:=List.mem_map.1 h;have:=zHD s.data.toList [] y hy;have e:s.data.toList.length=s.size:=by simp
 show y.toArray.size≤s.size;simp at this ⊢;exact this
theorem zON (s:ByteArray):(zB1 s).length≤s.size+1:=by
 have h1:=ZR List.length (zEC s.data.toList [] (by simp));have h2:=zHz s.data.toList [];have e:s.data.toList.length=s.size:=by simp
 unfold zB1;rw[Ze]at h1 ⊢;omega
theorem zLO (s:ByteArray) (hs:s.size≤1000000) (aj:∀x∈zB1 s,(zGp x).size≤1000∧zCg (zGp x).data.toList=true) (w:World) :
 Calls prog 79 #[.string s] w (zTd (zB1 s) w):=by
 obtain⟨i0,hi,a8,ba,av⟩:=Z9 zHC;have ah:=zNl s;have ai:=zON s;refine (callsIn_wide (n:=5)).1 ?_;refine callsIn_of_wp_marks func79 rfl trivial ?_ rfl;simp only[ntmps79,Qo,ZB,ZY,Nat.reduceAdd,Nat.reduceSub,X4,X5,Qp,Qb,ZV,ZN]
 gi_wp2_with (refine⟨trivial,?_⟩;gi_at_call 113;refine (callsIn_wide.2 (zLN s _)).mono ?_;rintro e w1 ⟨rfl,ae⟩;have HW:=hy' ae;clear ae)
 have ae:=HW.o;have bh:w1.heap.size=w.heap.size+4:=by rw[ae];simp
 have q2:Boxed w1 w.heap.size 44 (.slice none 0 0):=by
  rw[ae];exact (((Boxed.new w 44 (.slice none 0 0)).alloc _).alloc _).alloc _
 have q3:Boxed w1 (w.heap.size+1) 58 (.nilIface):=by
  have h:=Boxed.new (w.alloc (.cells #[.slice none 0 0] 44)) 58 (.nilIface);rw[ZD]at h;rw[ae];exact (h.alloc _).alloc _
 have q4:Boxed w1 (w.heap.size+1+1) 44 (.slice none 0 0):=by
  have h:=Boxed.new ((w.alloc (.cells #[.slice none 0 0] 44)).alloc (.cells #[.nilIface] 58)) 44 (.slice none 0 0);rw[ZD,ZD]at h;rw[ae];exact h.alloc _
 have q5:Boxed w1 (w.heap.size+1+1+1) 9 (.string s):=by
  have h:=Boxed.new (((w.alloc (.cells #[.slice none 0 0] 44)).alloc (.cells #[.nilIface] 58)).alloc (.cells #[.slice none 0 0] 44)) 9 (.string s);rw[ZD,ZD,ZD]at h;rw[ae];exact h
 have az:Below w.heap.size w w1:=by
  rw[ae];exact ((((Zd _ w).alloc (by simp) _).alloc (by simp) _).alloc (by simp;omega) _).alloc (by simp;omega) _
 clear ae HW;obtain⟨L,hL⟩:∃L,zB1 s=L:=⟨_,rfl⟩;obtain⟨D,hD⟩:∃D,w1.heap.size=D:=⟨_,rfl⟩;have ak:=fun (W:World) (hW:Below w1.heap.size w1 W)=>zNj s (by omega) (5-1) (w.heap.size+1+1+1) (by omega) W ((hW.block _ (by omega)).trans q5)
 rw[hL]at ak ah ai aj ⊢
 refine R.range (n:=5) (by omega) (gf:=147) (lb := #[.pointer (some ⟨w.heap.size+1+1+1,0,none⟩)]) rfl (enters_of func147 (by kernel_rfl) rfl)
  (b:=w.heap.size+1+1+1) (by omega) (ks:=[w.heap.size+1+1+1]) (by simp;omega) ak (fun _=>rfl)
  (fun pre W=>(∃v,Boxed W (w.heap.size+1+1) 44 v∧W.ownsRow D 9 1 v pre.length (zGq pre))∧Boxed W w.heap.size 44 (.slice none 0 0)∧Boxed W (w.heap.size+1) 58 (.nilIface)∧Below w.heap.size w W∧D≤W.heap.size)
  (fun c pre W=>False)
  (by
    rintro pre X Y row ⟨⟨v,a2,a3⟩,a4,a5,a6,a7⟩ hg hr;exact⟨⟨v,zC9 a2 hg hr (by omega),zKW a3 hg hr (by omega)⟩,zC9 a4 hg hr (by omega),zC9 a5 hg hr (by omega),zFc a6 a6.size hg hr (by omega) (by omega),Zh a7 hg.size⟩)
  (fun c pre X Y row h _ _=>h)
  ⟨⟨_,q4,ZG _ _ _ _⟩,q2,q3,az,by omega⟩
  (fun x=>{ tmps := #[.string s,undef,.pointer (some ⟨w.heap.size,0,none⟩),.pointer (some ⟨w.heap.size+1,0,none⟩),.pointer (some ⟨w.heap.size+1+1,0,none⟩),.string x,undef,.string s,
    .func (.func 147) #[] #[.pointer (some ⟨w.heap.size+1+1+1,0,none⟩)],.string x,undef,undef,undef,undef,undef,undef,undef,undef,undef,undef,undef,undef,undef,undef,undef,undef,undef,undef,undef,undef,undef,undef],defers:=[] }) ?assign ?body ?done ?stop
 case assign =>
  intro l x W K hK
  gi_wp2
  exact hK
 case done =>
  rintro E ys W hE rfl ⟨⟨v,hv,aa⟩,h2,h3,hB,ap⟩ hK;have hc:=hv.cell;have c2:=h2.cell;have f2:=h2.frozen;have c3:=h3.cell;have f3:=h3.frozen;obtain⟨A,cp,rfl⟩:=zA3 aa
  gi_wp2
  have r1:=aa.kept (grownBy_setCell' W w.heap.size (.slice A ys.length cp)) (.inr (h2.not_row (by decide) aa).symm);have ar:=h3.other (show w.heap.size+1≠w.heap.size by omega) (.slice A ys.length cp);have r2:=r1.kept (grownBy_setCell' _ (w.heap.size+1) (.nilIface)) (.inr (ar.not_row (by decide) r1).symm);have b2:=(h2.set (.slice A ys.length cp)).other (show w.heap.size≠w.heap.size+1 by omega) (.nilIface);have b3:=ar.set (.nilIface)
  have hK':((W.setCell ⟨w.heap.size,0,none⟩ (.slice A ys.length cp)).setCell ⟨w.heap.size+1,0,none⟩ (.nilIface)).heap[E]?=some (.deferred (some [])) :=
   (Yk _ _ _ E (by show E≠w.heap.size+1;omega)).trans ((Yk _ _ _ E (by show E≠w.heap.size;omega)).trans hK)
  have k1:=(hB.setCell (p:=⟨w.heap.size,0,none⟩) (Za _) (.slice A ys.length cp)).setCell (p:=⟨w.heap.size+1,0,none⟩) (by show w.heap.size≤w.heap.size+1;omega) (.nilIface);obtain⟨X,hX⟩:∃X,(W.setCell ⟨w.heap.size,0,none⟩ (.slice A ys.length cp)).setCell ⟨w.heap.size+1,0,none⟩ (.nilIface)=X:=⟨_,rfl⟩;rw[hX]at r2 b2 b3 hK' k1 ⊢;have e2:=cell_kept b2.cell (grownBy_putObj' X E (.deferred none)) (fun r e=>by cases e;exact⟨_,hK',rfl⟩);have e3:=cell_kept b3.cell (grownBy_putObj' X E (.deferred none)) (fun r e=>by cases e;exact⟨_,hK',rfl⟩);refine⟨by simp,.inl ⟨_,_,rfl,run_takeDeferred hK',?_⟩⟩;refine⟨.tuple #[.slice A ys.length cp,.nilIface],?_,?_⟩
  · simp[results,Tryz.f79,go_sem,e2,e3]
  rw[hL];exact⟨A,cp,rfl,Sl.of_own (ownsRow_putObj r2 _ hK' rfl),k1.trans (belowK_b (w:=w) (Za _) X E _ _ (by omega) hK' rfl rfl)⟩
 case stop =>
  rintro E c pre W hE ay h hK;exact h.elim
 rintro l pre x W ⟨⟨v,hv,aa⟩,h2,h3,hB,ap⟩ hlen aw;rw[hD]
 have aq:x∈L:=by
  obtain⟨t,rfl⟩:=aw;simp
 obtain⟨ax,ao⟩:=aj x aq;have bb:=ah x aq;have hT:=zOM x (by omega);obtain⟨y,hy⟩:∃y,zGp x=y:=⟨_,rfl⟩;rw[hy]at ax ao;simp only[hy]at hT;have hP:=zNk y (by omega) ao;have hc:=hv.cell;have bc:¬(1000:Int)<(y.size:Int):=by omega
 have HY:=hy' hy;clear hy ao
 gi_wp2_with first
  | (refine⟨trivial,?_⟩;gi_at_call 114;refine (CallsIn.inRound l (callsIn_wide.2 (hT _))).mono ?_;rintro e w2 ⟨rfl,au⟩;subst w2)
  | (refine⟨trivial,?_⟩;gi_at_call 115;refine (CallsIn.inRound l (callsIn_wide.2 (hP _))).mono ?_;rintro e w2 ⟨rfl,au⟩;subst w2)
  | (gi_at_builtin;refine wpListIn_append_own _ rfl _ _ 44 rfl D 9 i0 (.string ByteArray.empty) 1 16 underlying44 hi a8 ba av rfl (by decide) _ _ _ rfl (aa.alloc _) ⟨W.heap.size,0,none⟩ 1 1 [.string y] rfl rfl (J4 _ _ _) (by simp[Value.oneCell']) (by simp only[maxLen];omega) (by omega) (by simp;omega) ?_;intro v' w3 af ag _;obtain⟨g',a1,rfl⟩:=ownsRow_succ af;obtain⟨g1,g2,g3,g4,g5,g6,g7⟩:=R.appended (n₀:=w.heap.size) (ks:=[w.heap.size+1+1+1]) hv (by decide) aa ap (by omega) (by omega) (by simp;omega) af ag;have bg:=g1.cell;have bf:=g1.frozen)
  | fail
 exact⟨g4,g5,⟨_,g2,by rw[Zc,show zGq (pre++[x])=zGq pre++[Value.string y] by simp[zGq,HY.o]];exact g3⟩,g7 _ _ _ (by omega) (by omega) h2,g7 _ _ _ (by omega) (by omega) h3,hB.trans g6,Zh ap g4.size⟩
theorem zIg (s:ByteArray) (hs:s.size≤1000000) (ag:(zAS [] s.data.toList).all zCh=true) (w:World) :
 Calls prog 79 #[.string s] w (zJF (zAS [] s.data.toList) w):=by
 have af:=zEC s.data.toList [] (by simp)
 have ae:∀x∈zB1 s,(zGp x).size≤1000∧zCg (zGp x).data.toList=true:=by
  intro x hx;unfold zB1 at hx;obtain⟨y,hy,rfl⟩:=List.mem_map.1 hx;have hm:zDI y∈zAS [] s.data.toList:=by rw[←af];exact List.mem_map_of_mem hy
  rw[Yg]at ag;have:=ag _ hm;unfold zCh at this;rw[Zr,Zo]at this;exact⟨by show (zDI y).toArray.size≤1000;simpa using this.1,this.2⟩
 have aa:(zAS [] s.data.toList).map (fun x=>Value.string ⟨x.toArray⟩)=zGq (zB1 s)∧(zAS [] s.data.toList).length=(zB1 s).length:=by
  rw[←af];unfold zGq zB1;rw[Xd,Xd];exact⟨rfl,by simp⟩
 refine (zLO s hs ae w).mono ?_;rintro e w' ⟨A,c,rfl,h1,h2⟩;exact⟨A,c,by rw[aa.2],by rw[aa.1];exact h1,h2⟩
end
section
open Go.RowKit
attribute [local go_sem] Oper.semAt_some
theorem zK6 (s:ByteArray) (w:World) :
 Calls prog 226 #[.string s,.string ⟨#[32]⟩] w fun e w'=>e=.returned (.func (.func 261) #[] #[.pointer (some ⟨w.heap.size+1,0,none⟩),.pointer (some ⟨w.heap.size,0,none⟩),.pointer (some ⟨w.heap.size+2,0,none⟩)]) ∧
  w'=((w.alloc (.cells #[.string s] 9)).alloc (.cells #[.string ⟨#[32]⟩] 9)).alloc (.cells #[.int .i64 0] 3):=by
 have inner:∀w:World,Calls prog 249 #[.string s,.string ⟨#[32]⟩,.int .i64 0] w fun e w'=>e=.returned (.func (.func 261) #[] #[.pointer (some ⟨w.heap.size+1,0,none⟩),.pointer (some ⟨w.heap.size,0,none⟩),.pointer (some ⟨w.heap.size+2,0,none⟩)]) ∧
  w'=((w.alloc (.cells #[.string s] 9)).alloc (.cells #[.string ⟨#[32]⟩] 9)).alloc (.cells #[.int .i64 0] 3):=by
  intro w;go_enter func249,ntmps249;go_wp2;go_ret;exact⟨rfl,rfl⟩
 go_enter func226,ntmps226;go_wp2_with (refine (inner _).mono ?_;rintro e w1 ⟨rfl,rfl⟩);go_ret;exact⟨rfl,rfl⟩
def Q.ok (x:ByteArray):Bool:=(zAJ x.data.toList).isSome
def Q.val (x:ByteArray):Int:=(zAJ x.data.toList).getD 0
def zJG (l:List ByteArray):List Value:=l.map fun x=>Value.int .i32 (Q.val x)
def zED (L:List ByteArray) (w:World) (e:Ending) (w':World):Prop :=
 if L.all Q.ok then ∃A c,e=.returned (.tuple #[.slice A L.length c,.bool true])∧Slt w' 21 A (zJG L)∧Below w.heap.size w w'
 else e=.returned (.tuple #[.slice none 0 0,.bool false])∧Below w.heap.size w w'
theorem zNm (s:ByteArray) (hs:s.size≤1000000) (w:World) :
 Calls prog 196 #[.string s] w (zED (zEB (zAm 32 [] s.data.toList)) w):=by
 obtain⟨i0,hi,aw,ax,ar⟩:=Z9 zCv;refine (callsIn_wide (n:=5)).1 ?_;refine callsIn_of_wp_marks func196 rfl trivial ?_ rfl;simp only[ntmps196,Qo,ZB,ZY,Nat.reduceAdd,Nat.reduceSub,X4,X5,Qp,Qb,ZV,ZN]
 gi_wp2_with (refine⟨trivial,?_⟩;gi_at_call 226;refine (callsIn_wide.2 (zK6 s _)).mono ?_;rintro e w1 ⟨rfl,ae⟩;have HW:=hy' ae;clear ae)
 have ae:=HW.o;have ba:w1.heap.size=w.heap.size+6:=by rw[ae];simp
 have q2:Boxed w1 w.heap.size 79 (.slice none 0 0):=by
  rw[ae];exact (((((Boxed.new w 79 (.slice none 0 0)).alloc _).alloc _).alloc _).alloc _).alloc _
 have q3:Boxed w1 (w.heap.size+1) 4 (.bool false):=by
  have h:=Boxed.new (w.alloc (.cells #[.slice none 0 0] 79)) 4 (.bool false);rw[ZD]at h;rw[ae];exact (((h.alloc _).alloc _).alloc _).alloc _
 have q4:Boxed w1 (w.heap.size+1+1) 79 (.slice none 0 0):=by
  have h:=Boxed.new ((w.alloc (.cells #[.slice none 0 0] 79)).alloc (.cells #[.bool false] 4)) 79 (.slice none 0 0);rw[ZD,ZD]at h;rw[ae];exact ((h.alloc _).alloc _).alloc _
 have q5:Boxed w1 (w.heap.size+1+1+1) 9 (.string s):=by
  have h:=Boxed.new (((w.alloc (.cells #[.slice none 0 0] 79)).alloc (.cells #[.bool false] 4)).alloc (.cells #[.slice none 0 0] 79)) 9 (.string s);rw[ZD,ZD,ZD]at h;rw[ae];exact (h.alloc _).alloc _
 have q6:Boxed w1 (w.heap.size+1+1+1+1) 9 (.string ⟨#[32]⟩):=by
  have h:=Boxed.new ((((w.alloc (.cells #[.slice none 0 0] 79)).alloc (.cells #[.bool false] 4)).alloc (.cells #[.slice none 0 0] 79)).alloc (.cells #[.string s] 9)) 9 (.string ⟨#[32]⟩);rw[ZD,ZD,ZD,ZD]at h;rw[ae];exact h.alloc _
 have q7:Boxed w1 (w.heap.size+1+1+1+2) 3 (.int .i64 0):=by
  have h:=Boxed.new (((((w.alloc (.cells #[.slice none 0 0] 79)).alloc (.cells #[.bool false] 4)).alloc (.cells #[.slice none 0 0] 79)).alloc (.cells #[.string s] 9)).alloc (.cells #[.string ⟨#[32]⟩] 9)) 3 (.int .i64 0);rw[ZD,ZD,ZD,ZD,ZD]at h;rw[ae];exact h
 have au:Below w.heap.size w w1:=by
  rw[ae];exact ((((((Zd _ w).alloc (by simp) _).alloc (by simp) _).alloc (by simp;omega) _).alloc (by simp;omega) _).alloc (by simp;omega) _).alloc (by simp;omega) _
 clear ae HW;obtain⟨L,hL⟩:∃L,zEB (zAm 32 [] s.data.toList)=L:=⟨_,rfl⟩
 have ay:L.length≤1000001:=by
  rw[←hL];unfold zEB;rw[Ze];have:=zHy 32 s.data.toList [];have e:s.data.toList.length=s.size:=by simp
  omega
 obtain⟨D,hD⟩:∃D,w1.heap.size=D:=⟨_,rfl⟩;have ai:=fun (W:World) (hW:Below w1.heap.size w1 W)=>zOK s hs (5-1) (w.heap.size+1+1+1) (by omega) W ((hW.block _ (by omega)).trans q5) ((hW.block _ (by omega)).trans q6) ((hW.block _ (by omega)).trans q7)
 rw[hL]at ai ⊢
 refine R.range (n:=5) (by omega) (gf:=261) (lb := #[.pointer (some ⟨w.heap.size+1+1+1+1,0,none⟩),.pointer (some ⟨w.heap.size+1+1+1,0,none⟩),.pointer (some ⟨w.heap.size+1+1+1+2,0,none⟩)]) rfl (enters_of func261 (by kernel_rfl) rfl)
  (b:=w.heap.size+1+1+1) (by omega) (ks:=[w.heap.size+1+1+1,w.heap.size+1+1+1+1,w.heap.size+1+1+1+2]) (by simp;omega) ai (fun _=>rfl)
  (fun pre W=>pre.all Q.ok=true∧(∃v,Boxed W (w.heap.size+1+1) 79 v∧W.ownsRow D 21 1 v pre.length (zJG pre))∧Boxed W w.heap.size 79 (.slice none 0 0)∧Boxed W (w.heap.size+1) 4 (.bool false)∧Below w.heap.size w W∧D≤W.heap.size)
  (fun c pre W=>c=.ret∧pre.all Q.ok=false∧Boxed W w.heap.size 79 (.slice none 0 0)∧Boxed W (w.heap.size+1) 4 (.bool false)∧Below w.heap.size w W)
  (by
    rintro pre X Y row ⟨a1,⟨v,a2,a3⟩,a4,a5,a6,a7⟩ hg hr;exact⟨a1,⟨v,zC9 a2 hg hr (by omega),zKW a3 hg hr (by omega)⟩,zC9 a4 hg hr (by omega),zC9 a5 hg hr (by omega),zFc a6 a6.size hg hr (by omega) (by omega),Zh a7 hg.size⟩)
  (by
    rintro c pre X Y row ⟨a1,a2,a4,a5,a6⟩ hg hr;exact⟨a1,a2,zC9 a4 hg hr (by omega),zC9 a5 hg hr (by omega),zFc a6 a6.size hg hr (by omega) (by omega)⟩)
  ⟨rfl,⟨_,q4,ZG _ _ _ _⟩,q2,q3,au,by omega⟩
  (fun x=>{ tmps := #[.string s,undef,.pointer (some ⟨w.heap.size,0,none⟩),.pointer (some ⟨w.heap.size+1,0,none⟩),.pointer (some ⟨w.heap.size+1+1,0,none⟩),.string x,undef,undef,.string s,
    .func (.func 261) #[] #[.pointer (some ⟨w.heap.size+1+1+1+1,0,none⟩),.pointer (some ⟨w.heap.size+1+1+1,0,none⟩),.pointer (some ⟨w.heap.size+1+1+1+2,0,none⟩)],.string x,undef,undef,undef,undef,undef,undef,undef,undef,undef,undef,undef,undef],defers:=[] }) ?assign ?body ?done ?stop
 case assign =>
  intro l x W K hK
  gi_wp2
  exact hK
 case done =>
  rintro E ys W hE rfl ⟨af,⟨v,hv,aa⟩,h2,h3,hB,ao⟩ hK;have hc:=hv.cell;have c2:=h2.cell;have f2:=h2.frozen;have c3:=h3.cell;have f3:=h3.frozen;obtain⟨A,cp,rfl⟩:=zA3 aa
  gi_wp2
  have r1:=aa.kept (grownBy_setCell' W w.heap.size (.slice A ys.length cp)) (.inr (h2.not_row (by decide) aa).symm);have ap:=h3.other (show w.heap.size+1≠w.heap.size by omega) (.slice A ys.length cp);have r2:=r1.kept (grownBy_setCell' _ (w.heap.size+1) (.bool true)) (.inr (ap.not_row (by decide) r1).symm);have b2:=(h2.set (.slice A ys.length cp)).other (show w.heap.size≠w.heap.size+1 by omega) (.bool true);have b3:=ap.set (.bool true)
  have hK':((W.setCell ⟨w.heap.size,0,none⟩ (.slice A ys.length cp)).setCell ⟨w.heap.size+1,0,none⟩ (.bool true)).heap[E]?=some (.deferred (some [])) :=
   (Yk _ _ _ E (by show E≠w.heap.size+1;omega)).trans ((Yk _ _ _ E (by show E≠w.heap.size;omega)).trans hK)
  have k1:=(hB.setCell (p:=⟨w.heap.size,0,none⟩) (Za _) (.slice A ys.length cp)).setCell (p:=⟨w.heap.size+1,0,none⟩) (by show w.heap.size≤w.heap.size+1;omega) (.bool true);obtain⟨X,hX⟩:∃X,(W.setCell ⟨w.heap.size,0,none⟩ (.slice A ys.length cp)).setCell ⟨w.heap.size+1,0,none⟩ (.bool true)=X:=⟨_,rfl⟩;rw[hX]at r2 b2 b3 hK' k1 ⊢;have e2:=cell_kept b2.cell (grownBy_putObj' X E (.deferred none)) (fun r e=>by cases e;exact⟨_,hK',rfl⟩);have e3:=cell_kept b3.cell (grownBy_putObj' X E (.deferred none)) (fun r e=>by cases e;exact⟨_,hK',rfl⟩);refine⟨by simp,.inl ⟨_,_,rfl,run_takeDeferred hK',?_⟩⟩;refine⟨.tuple #[.slice A ys.length cp,.bool true],?_,?_⟩
  · simp[results,Tryz.f196,go_sem,e2,e3]
  rw[hL];unfold zED;rw[Zl af];exact⟨A,cp,rfl,Slt.of_own (ownsRow_putObj r2 _ hK' rfl),k1.trans (belowK_b (w:=w) (Za _) X E _ _ (by omega) hK' rfl rfl)⟩
 case stop =>
  rintro E c pre W hE aj ⟨rfl,ak,h2,h3,hB⟩ hK
  gi_wp2
  have e2:=cell_kept h2.cell (grownBy_putObj' W E (.deferred none)) (fun r e=>by cases e;exact⟨_,hK,rfl⟩);have e3:=cell_kept h3.cell (grownBy_putObj' W E (.deferred none)) (fun r e=>by cases e;exact⟨_,hK,rfl⟩);refine⟨by simp,.inl ⟨_,_,rfl,run_takeDeferred hK,?_⟩⟩;refine⟨.tuple #[.slice none 0 0,.bool false],?_,?_⟩
  · simp[results,Tryz.f196,go_sem,e2,e3]
  have hn:L.all Q.ok=false:=by
   obtain⟨t,rfl⟩:=aj;rw[Kq,ak,Xp]
  unfold zED;rw[Zk (by rw[hn];decide)];exact⟨rfl,hB.trans (belowK_b (w:=w) (Za _) W E _ _ (by omega) hK rfl rfl)⟩
 rintro l pre x W ⟨af,⟨v,hv,aa⟩,h2,h3,hB,ao⟩ hlen _;rw[hD];have hc:=hv.cell;have c2:=h2.cell;have f2:=h2.frozen;have c3:=h3.cell;have f3:=h3.frozen
 by_cases hx:Q.ok x=true
 · have hH:∀W:World,Calls prog 122 #[.string x] W fun e w'=>e=.returned (.tuple #[.int .i32 (Q.val x),.bool true])∧w'=W:=fun W=>(zFC x W).mono fun e w' h=>⟨by
    have:=h.1;unfold zBf at this;rw[this,show (zAJ x.data.toList).isSome=true from hx];rfl,h.2⟩
   gi_wp2_with first
    | (refine⟨trivial,?_⟩;gi_at_call 122;refine (CallsIn.inRound l (callsIn_wide.2 (hH _))).mono ?_;rintro e w2 ⟨rfl,aq⟩;subst w2)
    | (gi_at_builtin;refine wpListIn_append_own _ rfl _ _ 79 rfl D 21 i0 (.int .i32 0) 1 4 underlying79 hi aw ax ar rfl (by decide) _ _ _ rfl (aa.alloc _) ⟨W.heap.size,0,none⟩ 1 1 [.int .i32 (Q.val x)] rfl rfl (J4 _ _ _) (by simp[Value.oneCell']) (by simp only[maxLen];omega) (by omega) (by simp;omega) ?_;intro v' w3 ag ah _;obtain⟨g',av,rfl⟩:=ownsRow_succ ag;obtain⟨g1,g2,g3,g4,g5,g6,g7⟩:=R.appended (n₀:=w.heap.size) (ks:=[w.heap.size+1+1+1,w.heap.size+1+1+1+1,w.heap.size+1+1+1+2]) hv (by decide) aa ao (by omega) (by omega) (by simp;omega) ag ah;have a8:=g1.cell;have az:=g1.frozen)
    | fail
   exact⟨g4,g5,by rw[List.all_append,af];simpa using hx,⟨_,g2,by rw[List.length_append,show zJG (pre++[x])=zJG pre++[Value.int .i32 (Q.val x)] by simp[zJG]];exact g3⟩,g7 _ _ _ (by omega) (by omega) h2,g7 _ _ _ (by omega) (by omega) h3,hB.trans g6,Nat.le_trans ao g4.size⟩
 have hH:∀W:World,Calls prog 122 #[.string x] W fun e w'=>e=.returned (.tuple #[.int .i32 (Q.val x),.bool false])∧w'=W:=fun W=>(zFC x W).mono fun e w' h=>⟨by
  have:=h.1;unfold zBf at this;rw[this,show (zAJ x.data.toList).isSome=false from by simpa [Q.ok] using hx];rfl,h.2⟩
 gi_wp2_with first
  | (refine⟨trivial,?_⟩;gi_at_call 122;refine (CallsIn.inRound l (callsIn_wide.2 (hH _))).mono ?_;rintro e w2 ⟨rfl,aq⟩;subst w2)
  | fail
 have k1:Below w.heap.size W ((W.setCell ⟨w.heap.size,0,none⟩ (.slice none 0 0)).setCell ⟨w.heap.size+1,0,none⟩ (.bool false)) :=
  ((Zd w.heap.size W).setCell (p:=⟨w.heap.size,0,none⟩) (Za _) _).setCell (p:=⟨w.heap.size+1,0,none⟩) (by show w.heap.size≤w.heap.size+1;omega) _
 exact⟨((KeepsOthers.setCell _ _ _).trans (KeepsOthers.setCell _ _ _)).from _,rfl,by rw[List.all_append,af];simpa using hx,(h2.set _).other (by omega) _,(h3.other (by omega) _).set _,hB.trans k1⟩
end
section
open Go.RowKit Go.Stop
def Fi.LaidN (w:World):Prop:=Lib.TabIs prog w "internal/strconv.uint64pow10" .u64 Lib.pow10Tab∧(∃tp p,w.var? prog "strconv.ErrSyntax" = some #[.iface tp p])∧∃tp p,w.var? prog "strconv.ErrRange" = some #[.iface tp p]
theorem zJH {w w':World} {n:String} {g:Nat} {cs:Array Value} (hg:prog.globalNamed n=some g) (hv:w.var? prog n=some cs) (hb:Below w.heap.size w w'):w'.var? prog n=some cs:=by
 refine var?_below hb hg ?_ hv;rcases Z3 g w.heap.size with h|h
 · exact h
 unfold World.var? at hv;simp[hg,YO h]at hv
theorem zRL:prog.globalNamed "strconv.ErrSyntax" = some 6:=by kernel_rfl
theorem zRM:prog.globalNamed "strconv.ErrRange" = some 7:=by kernel_rfl
theorem Fi.LaidN.next {w w':World} (h:Fi.LaidN w) (hb:Below w.heap.size w w'):Fi.LaidN w':=by
 obtain⟨h1,⟨tp,p,h2⟩,aa,p',h3⟩:=h;exact⟨Lib.tabBelow_of_tabIs h1 w' hb,⟨tp,p,zJH zRL h2 hb⟩,aa,p',zJH zRM h3 hb⟩
theorem zOO (s:ByteArray) (hs:s.size≤100000) (w:World) (hL:Fi.LaidN w) :
 Calls prog 195 #[.string s] w fun e w'=>Below w.heap.size w w' ∧
  ((∃v,Lib.atoiAll s.data.toList=.ok v ∧ -9223372036854775808≤v∧v≤9223372036854775807∧e=.returned (.tuple #[.int .i64 v,.nilIface])) ∨
   ((∀v,Lib.atoiAll s.data.toList≠.ok v)∧∃v T p,e=.returned (.tuple #[.int .i64 v,.iface T p]))):=by
 obtain⟨_,⟨tp,p,h1⟩,aa,p',h2⟩:=hL;rcases hh:Lib.atoiAll s.data.toList with v|_|_
 · refine (Tryz.strconv_Atoi_ok s (by omega) v hh w).mono ?_;rintro e w' ⟨rfl,hw⟩;have hb:=Lib.atoiAll_bounds hh;refine⟨?_,.inl ⟨v,rfl,hb.1,hb.2,rfl⟩⟩;rcases hw with rfl|⟨t,rfl⟩
   · exact Zd _ _
   exact Lib.bytesWorld_below _ _ _
 · refine (Any.strconv_Atoi_syntax_var Tryz.laysC172 s (by omega) hh tp p w h1).mono ?_;rintro e w' ⟨N,rfl,_,_,hb⟩;exact⟨hb,.inr ⟨(fun v h=>by cases h),_,_,_,rfl⟩⟩
 refine (Any.strconv_Atoi_range_var Tryz.laysC172 s (by omega) hh aa p' w h2).mono ?_;rintro e w' ⟨N,rfl,_,_,hb⟩;exact⟨hb,.inr ⟨(fun v h=>by cases h),_,_,_,rfl⟩⟩
theorem zJI (n:Int) (h0 : -9223372036854775808≤n) (h1:n≤9223372036854775807) (w:World) (hL:Fi.LaidN w) :
 Calls prog 91 #[.int .i64 n] w fun e w'=>e=.returned (.string ⟨(Lib.itoa n).toArray⟩)∧Below w.heap.size w w':=by
 refine (Tryz.strconv_Itoa n h0 h1 w hL.1).mono ?_;rintro e w' ⟨he,k,os,rfl⟩;refine⟨he,rfl,rfl,rfl,by simp[Sort.grow],fun i hi=>?_⟩;simp only[Sort.grow,Qx];rw[Array.getElem?_append_left hi]
def zDk (l:List UInt8) (aa:Int) (e:Ending):Prop:=e=.returned (.tuple #[.int .i64 ((zDi l aa).getD 0),.bool (zDi l aa).isSome])
theorem zQy (s:ByteArray) (hs:s.size≤100000) (aa:Int) (hm:aa≤1000000000) (w:World) (hL:Fi.LaidN w) :
 Calls prog 151 #[.string s,.int .i64 aa] w fun e w'=>zDk s.data.toList aa e∧Below w.heap.size w w':=by
 have af:(∀v:Int,0≤v→v≤aa→Lib.atoiAll s.data.toList≠.ok v)→zDi s.data.toList aa=none:=fun h =>
  zFV fun u hu he=>h u (by omega) hu (by rw[he];exact zJC u (by omega))
 go_enter func151,ntmps151;go_wp2_with fail;refine (zOO s hs _ hL).mono ?_;rintro e w1 ⟨ae,(⟨v,hv,v0,v1,rfl⟩|⟨hv,v,T,p,rfl⟩)⟩
 rotate_left
 · have hN:=af (fun u _ _ h=>hv u h);clear hv af;go_wp2_with fail;go_ret2;exact⟨by unfold zDk;rw[hN];rfl,ae⟩
 rcases Jf v 0 with ak|hpos
 · have hN:=af (fun u hu _ h=>by rw[hv]at h;cases h;omega);clear hv af;go_wp2_with fail;go_ret2;exact⟨by unfold zDk;rw[hN];rfl,ae⟩
 have ai:¬v<0:=by omega
 by_cases hbig:v > aa
 · have hN:=af (fun u hu ap h=>by rw[hv]at h;cases h;omega);clear hv af;go_wp2_with fail;go_ret2;exact⟨by unfold zDk;rw[hN];rfl,ae⟩
 have L1:Fi.LaidN w1:=hL.next ae;have hit:Lib.itoa v=Lib.decDigits v.toNat:=by unfold Lib.itoa;rw[if_neg (by omega)]
 have aj:(Lib.itoa v).length≤11:=by rw[hit];have:=zD0 9 v.toNat (by rw[show (10:Nat) ^ (9+1)=10000000000 from by decide];omega);omega
 obtain⟨t,ht⟩:∃t:ByteArray,(⟨(Lib.itoa v).toArray⟩:ByteArray)=t:=⟨_,rfl⟩;have ag:t.data.toList=Lib.decDigits v.toNat:=by rw[←ht];exact hit
 have hI:=zJI v v0 v1 w1 L1;rw[ht]at hI
 by_cases heq:t=s
 · have hN:zDi s.data.toList aa=some v:=by
    rw[←heq,ag,zI9 _ _ (by omega)];congr 1;omega
   have HN:=hy' hN;clear hv af hit aj ht ag hN;go_wp2_with fail;refine hI.mono ?_;rintro e w2 ⟨rfl,ah⟩;subst heq;go_wp2_with fail;go_ret2;exact⟨by unfold zDk;rw[HN.o];rfl,ae.trans (ah.mono ae.size)⟩
 have hN:zDi s.data.toList aa=none:=zFV fun u hu he=>heq (by
  have h1:=zJC u (by omega);rw[←he,hv]at h1;cases h1
  rw[←Lib.mk_data t,ag,←Lib.mk_data s,he];simp)
 have HN:=hy' hN
 have ao:(t.toList == s.toList)=false:=by
  rw[Xy,Yq,Yq];exact fun h=>heq (by rw[←Lib.mk_data t,h,Lib.mk_data])
 clear hv af hit aj ht ag hN;go_wp2_with fail;refine hI.mono ?_;rintro e w2 ⟨rfl,ah⟩;go_wp2_with fail;go_ret2;exact⟨by unfold zDk;rw[HN.o];rfl,ae.trans (ah.mono ae.size)⟩
end
section
open Go.RowKit
theorem zIh (c k:Int) (A:Option Addr) (n cp:Nat) (w:World) :
 Calls prog 119 #[.agg #[.int .i32 c,.int .i64 k,.slice A n cp]] w fun e w'=>e=.returned (.bool (decide (k=0)&&decide (n=0)))∧Below w.heap.size w w':=by
 by_cases hk:k=0
 · subst hk;rcases YM n with rfl|hn
   · go_enter func119,ntmps119;go_wp2;go_ret;exact⟨rfl,(Zd _ _).alloc (Za _) _⟩
   have h1:((n:Int) == 0)=false:=by simp;omega
   go_enter func119,ntmps119;go_wp2;go_ret;exact⟨by rw[Zp (show ¬n=0 by omega)];rfl,(Zd _ _).alloc (Za _) _⟩
 have h1:(k == 0)=false:=by simp[hk]
 go_enter func119,ntmps119;go_wp2;go_ret;exact⟨by rw[Zp hk];rfl,(Zd _ _).alloc (Za _) _⟩
theorem zOP (s e:ByteArray) (hs:s.size≤1000000) (he:e.size≤1000) (w:World) :
 Calls prog 197 #[.string s,.string e] w fun x w'=>x=.returned (.tuple #[.string ⟨(zC4 s.data.toList e.data.toList).toArray⟩,.bool (zCH s.data.toList e.data.toList)])∧w'=w:=by
 have hH:=fun w=>Tryz.stringslite_HasSuffix s e w (by omega)
 have hE:Lib.hasSuffix s.data.toList e.data.toList=zCH s.data.toList e.data.toList:=by
  unfold Lib.hasSuffix zCH;rw[Yx,QP,Zr,Zo,YV,List.suffix_iff_eq_drop];constructor
  · intro h;refine⟨?_,h.symm⟩;have:=ZR List.length h;rw[ZH]at this;omega
  exact fun h=>h.2.symm
 obtain⟨b,hb⟩:∃b,zCH s.data.toList e.data.toList=b:=⟨_,rfl⟩;rw[hE]at hH;cases b
 · have hc:(⟨(zC4 s.data.toList e.data.toList).toArray⟩:ByteArray)=s:=by
    unfold zC4;rw[hb,Zk (by decide),Lib.mk_data]
   simp only[hb]at hH;rw[hc,hb];clear hc hb hE;go_enter func197,ntmps197;go_wp2_with (refine (hH _).mono ?_;rintro x w1 ⟨rfl,rfl⟩);go_ret2;exact⟨rfl,rfl⟩
 have hle:e.size≤s.size:=by
  have h1:=hb;unfold zCH at h1;rw[Zr,Zo]at h1;simpa using h1.1
 have hc:s.extract 0 (s.size-e.size)=⟨(zC4 s.data.toList e.data.toList).toArray⟩:=by
  unfold zC4;rw[hb,Zl rfl,←Lib.mk_data (s.extract 0 (s.size-e.size)),Lib.extract_data];simp
 simp only[hb]at hH;rw[hb,←hc];have h1:(e.size:Int)≤s.size:=by omega
 have h2:(0:Int)≤(s.size:Int)-e.size:=by omega
 have h3:(s.size:Int)-e.size≤s.size:=by omega
 clear hc hb hE;go_enter func197,ntmps197;go_wp2_with (refine (hH _).mono ?_;rintro x w1 ⟨rfl,rfl⟩);go_ret2;exact⟨rfl,rfl⟩
theorem zKX (s e:ByteArray) (hs:s.size≤1000000) (he:e.size≤1000) (w:World) :
 Calls prog 153 #[.string s,.string e] w fun x w'=>x=.returned (.tuple #[.string ⟨(zC4 s.data.toList e.data.toList).toArray⟩,.bool (zCH s.data.toList e.data.toList)])∧w'=w:=by
 go_enter func153,ntmps153;go_wp2_with (refine (zOP s e hs he _).mono ?_;rintro x w1 ⟨rfl,rfl⟩);go_ret2;exact⟨rfl,rfl⟩
theorem zSx {s:ByteArray} {b:UInt8} (h:s.data.toList.head?=some b):∃h:0<s.size,s[0]=b:=by
 have h1:0<s.size:=by
  rcases hl:s.data.toList with _|⟨c,r⟩
  · rw[hl]at h;cases h
  have:s.data.toList.length=s.size:=by simp
  rw[hl]at this;simp at this;omega
 rw[zGl s h1]at h;exact⟨h1,by simpa using h⟩
theorem zSy {s:ByteArray} {b:UInt8} (hne:s.data.toList≠[]) (h:s.data.toList.head?≠some b):∃h:0<s.size,s[0]≠b:=by
 have h1:0<s.size:=by
  have:s.data.toList.length=s.size:=by simp
  rcases hl:s.data.toList with _|⟨c,r⟩
  · exact absurd hl hne
  rw[hl]at this;simp at this;omega
 rw[zGl s h1]at h;exact⟨h1,by simpa using h⟩
def zRN (m:List Int) (w:World) (e:Ending) (w':World):Prop :=
 ∃A c,e=.returned (.tuple #[.slice A m.length c,.bool true])∧Slt w' 21 A (m.map (Value.int .i32))∧Below w.heap.size w w'
theorem zK7 (s:ByteArray) (hs:s.size≤1000000) (m:List Int) (hm:Rw.mp s.data.toList=some m) (w:World) :
 Calls prog 152 #[.string s] w (zRN m w):=by
 unfold Rw.mp at hm;split at hm
 · rename_i h0;simp only[Zg]at hm;subst hm;rcases h0 with h0|h0
   · have he:s.toList.isEmpty=true:=by rw[Yq s,h0];rfl
     clear h0;go_enter func152,ntmps152;go_wp2;go_ret2;exact⟨none,0,rfl,Slt.nil _ _ _,Zd _ _⟩
   obtain⟨h1,h2⟩:=zSx h0
   have he:s.toList.isEmpty=false:=by
    rw[Yq s];rcases hl:s.data.toList with _|⟨b,r⟩
    · rw[hl]at h0;cases h0
    rfl
   have h3:(s[0].toNat:Int)=60:=by rw[h2];rfl
   have h4:(0:Int)<s.size:=by omega
   clear h0 h2;go_enter func152,ntmps152;go_wp2;go_ret2;exact⟨none,0,rfl,Slt.nil _ _ _,Zd _ _⟩
 rename_i h0;split at hm
 rotate_left
 · cases hm
 rename_i h5;obtain⟨h5,h6⟩:=h5;simp only[Zg]at hm;have hne:s.data.toList≠[]:=fun e=>h0 (.inl e)
 obtain⟨h1,h2⟩:=zSy hne fun e=>h0 (.inr e)
 have he:s.toList.isEmpty=false:=by
  rw[Yq s];rcases hl:s.data.toList with _|⟨b,r⟩
  · exact absurd hl hne
  rfl
 have h3:((s[0].toNat:Int) == 60)=false:=by
  have:s[0].toNat≠60:=fun e=>h2 (UInt8.toNat_inj.1 e)
  simp;omega
 have h4:(0:Int)<s.size:=by omega
 have hH:=zNm s hs
 have ae:(zEB (zAm 32 [] s.data.toList)).all Q.ok=true:=by
  unfold zEB;rw[List.all_map];exact h5
 have hlen:(zEB (zAm 32 [] s.data.toList)).length=m.length:=by
  unfold zEB;rw[Ze,←hm,Ze]
 have aa:zJG (zEB (zAm 32 [] s.data.toList))=m.map (Value.int .i32):=by
  rw[←hm];unfold zJG zEB Q.val;rw[Xd,Xd];rfl
 unfold zED at hH;simp only[ae,Yo,hlen,aa]at hH;have af:m.length≤2:=by rw[←hm,Ze];exact h6
 have h7:(m.length:Int)≤2:=by omega
 clear h0 h5 h6 hm hne h2 ae hlen aa;go_enter func152,ntmps152;go_wp2_with fail;refine (hH _).mono ?_;rintro e w1 ⟨A,c,rfl,hS,hb⟩;have HS:=hy' hS;have HB:=hy' hb;clear hS hb hH;go_wp2_with fail;go_ret2;exact⟨A,c,rfl,HS.o,HB.o⟩
def zRO (r:Rw.Row) (w:World) (e:Ending) (w':World):Prop :=
 ∃A c,e=.returned (.tuple #[.agg #[.int .i32 r.1,.int .i64 r.2.1,.slice A r.2.2.length c],.string ⟨#[]⟩])∧Slt w' 21 A (r.2.2.map (Value.int .i32))∧Below w.heap.size w w'
theorem zJJ {F:List (List UInt8)} {r:Rw.Row} (h:Rw.row F=some r):∃f0 f1 f3 f5,F.length=15∧F[0]?=some f0∧F[1]?=some f1∧F[3]?=some f3∧F[5]?=some f5∧f1≠[]∧zAJ f0=some r.1∧zDi f3 254=some r.2.1∧Rw.mp f5=some r.2.2:=by
 unfold Rw.row at h;split at h
 rotate_left
 · cases h
 rename_i h0;obtain⟨h0,h1⟩:=h0
 have g:∀i,i<15→F[i]?=some (F.getD i []):=fun i hi=>by
  rw[Zb (by omega),Yz,Zb (by omega)];rfl
 rcases hc:zAJ (F.getD 0 []) with _|c
 · rw[hc]at h;cases h
 rcases hk:zDi (F.getD 3 []) 254 with _|k
 · rw[hc,hk]at h;cases h
 rcases hm:Rw.mp (F.getD 5 []) with _|m
 · rw[hc,hk,hm]at h;cases h
 rw[hc,hk,hm]at h;simp only[Zv,Zw,Zg]at h;subst h;exact⟨_,_,_,_,h0,g 0 (by omega),g 1 (by omega),g 3 (by omega),g 5 (by omega),h1,hc,hk,hm⟩
theorem Rw.row_any (A:Option Addr) (n cp B:Nat) (F:List (List UInt8)) (r:Rw.Row) (w:World) (hF:Rw.row F=some r) (hn:F.length=n) (hB:B≤w.heap.size) (hA:Sl w B A (F.map fun x=>Value.string ⟨x.toArray⟩))
 (av:∀x∈F,x.length≤100000) (hL:Fi.LaidN w):Calls prog 117 #[.slice A n cp] w (zRO r w):=by
 obtain⟨f0,f1,f3,f5,ay,i0,i1,i3,i5,hne,ah,ag,aw⟩:=zJJ hF;obtain rfl:n=15:=by omega
 obtain⟨b,o,rfl,hb,hc⟩:=hA (by rw[Ze];omega);have ai:=hc 0 (by rw[Ze];omega);have au:=hc 1 (by rw[Ze];omega);have ar:=hc 3 (by rw[Ze];omega);have aj:=hc 5 (by rw[Ze];omega);rw[Zt,i0,Zw]at ai;rw[Zt,i1,Zw]at au;rw[Zt,i3,Zw]at ar;rw[Zt,i5,Zw]at aj;have s3:=av f3 (Zj i3);have s5:=av f5 (Zj i5);obtain⟨b0,aq⟩:∃x:ByteArray,⟨f0.toArray⟩=x:=⟨_,rfl⟩;obtain⟨b1,ap⟩:∃x:ByteArray,⟨f1.toArray⟩=x:=⟨_,rfl⟩;obtain⟨b3,ae⟩:∃x:ByteArray,⟨f3.toArray⟩=x:=⟨_,rfl⟩;obtain⟨b5,ao⟩:∃x:ByteArray,⟨f5.toArray⟩=x:=⟨_,rfl⟩
 have H1:∀W:World,Calls prog 122 #[.string b0] W fun e w'=>e=.returned (.tuple #[.int .i32 r.1,.bool true])∧w'=W:=fun W=>(zFC b0 W).mono fun e w' h=>⟨by
  have:=h.1;unfold zBf at this;rw[this,←aq,show (⟨f0.toArray⟩:ByteArray).data.toList=f0 from rfl,ah];rfl,h.2⟩
 have H2:∀W:World,Fi.LaidN W→Calls prog 151 #[.string b3,.int .i64 254] W fun e w'=>e=.returned (.tuple #[.int .i64 r.2.1,.bool true])∧Below W.heap.size W w':=fun W hW=>(zQy b3 (by rw[←ae];show f3.toArray.size≤_;simpa using s3) 254 (by decide) W hW).mono fun e w' h=>⟨by
  have:=h.1;unfold zDk at this;rw[this,←ae,show (⟨f3.toArray⟩:ByteArray).data.toList=f3 from rfl,ag];rfl,h.2⟩
 have H3:=zK7 b5 (by rw[←ao];show f5.toArray.size≤_;simp;omega) r.2.2 (by rw[←ao];exact aw)
 have e1:b1.toList.isEmpty=false:=by
  rw[←ap,Yq];rcases hl:f1 with _|⟨x,t⟩
  · exact absurd hl hne
  rfl
 rw[aq]at ai;rw[ap]at au;rw[ae]at ar;rw[ao]at aj;rw[YQ]at ai;obtain⟨c,k,m⟩:=r;simp only at H1 H2 H3;have ax:b<w.heap.size:=by omega
 clear hc hA hF ay i0 i1 i3 i5 hne ah ag aw aq ap ae ao av s3 s5 hn;go_enter func117,ntmps117;go_wp2_with fail;refine (H1 _).mono ?_;rintro e w1 ⟨rfl,rfl⟩;go_wp2_with fail;refine (H2 _ (hL.next (((Zd _ _).alloc (Za _) _).alloc (by simp) _))).mono ?_;rintro e w2 ⟨rfl,ak⟩;have k1:Rw.At w2 w.heap.size 103 [.int .i32 0,.int .i64 0,.slice none 0 0]:=((Rw.At.new w 103 [.int .i32 0,.int .i64 0,.slice none 0 0]).alloc _).below ak
 have k2:Rw.At w2 (w.heap.size+1) 103 [.int .i32 c,.int .i64 0,.slice none 0 0]:=by
  have h:=Rw.At.new (w.alloc (.cells #[.int .i32 0,.int .i64 0,.slice none 0 0] 103)) 103 [.int .i32 c,.int .i64 0,.slice none 0 0];rw[ZD]at h;exact h.below ak
 have aa:Below w.heap.size w w2:=(((Zd w.heap.size w).alloc (Za _) _).alloc (by simp) _).trans (ak.mono (by simp;omega));obtain⟨d1,d2,d3,d4,d5,d6⟩:=k2.three;have c5:=((zAU aa).1 _ _ ax).trans aj;clear ai au ar aj ak;go_wp2_with fail;refine (H3 _).mono ?_;rintro e w3 ⟨Am,cm,rfl,hS,ae⟩;have k3:=(k1.other (show w.heap.size≠w.heap.size+1 by omega) (.int .i64 k) (i:=1)).below ae;have k4:=(k2.set 1 (.int .i64 k)).below ae;simp only[ZA,Zx]at k4;have af:Below w.heap.size w w3:=(aa.setCell (p:=⟨w.heap.size+1,1,none⟩) (ZZ _) (.int .i64 k)).trans (ae.mono (Zh aa.size (KeepsWalks.setCell w2 _ (.int .i64 k)).size));obtain⟨g1,g2,g3,g4,g5,g6⟩:=k3.three;obtain⟨m1,m2,m3,m4,m5,m6⟩:=k4.three;have HS:=hy' hS;have HB:=hy' af;clear hS ae af aa k1 k2 d1 d2 d3 d4 d5 d6 c5;go_wp2_with fail;have j1:=k4.set 2 (.slice Am m.length cm);have j2:=k3.other (show w.heap.size≠w.heap.size+1 by omega) (.slice Am m.length cm) (i:=2);have j3:=j2.set 0 (.int .i32 c);have j4:=j3.set 1 (.int .i64 k);have j5:=j4.set 2 (.slice Am m.length cm);refine YD (zEi rfl _ _ w.heap.size _ _ _ _ rfl j5 underlying103 rfl (by kernel_rfl)) rfl ⟨Am,cm,rfl,?_,?_⟩
 · exact ((((HS.o.setAt k4 (by decide) 2 _).setAt j2 (by decide) 0 _).setAt j3 (by decide) 1 _).setAt j4 (by decide) 2 _)
 exact (((HB.o.setCell (p:=⟨w.heap.size+1,2,none⟩) (ZZ _) _).setCell (p:=⟨w.heap.size,0,none⟩) (Za _) _).setCell (p:=⟨w.heap.size,1,none⟩) (Za _) _).setCell (p:=⟨w.heap.size,2,none⟩) (Za _) _
def zJK:ByteArray:=⟨#[44,32,70,105,114,115,116,62]⟩
def zLP:ByteArray:=⟨#[44,32,76,97,115,116,62]⟩
def zOQ (b:Nat) (vo:Value) (code:Int) (o:List UInt8) (w:World) (e:Ending) (w':World):Prop :=
 e=.returned (.bool true)∧Rw.At w' b 152 [vo,.int .i32 code,.string ⟨o.toArray⟩]∧w.grownBy w' (some b)
theorem zFd (s:ByteArray):s.toList.isEmpty=s.data.toList.isEmpty:=by rw[Yq s]
theorem zLQ (b:Nat) (vo:Value) (code:Int) (was name:ByteArray) (c k:Int) (A:Option Addr) (n cp:Nat) (o:List UInt8) (w:World) (hv:vo.oneCell'=true)
 (aa:Rw.At w b 152 [vo,.int .i32 code,.string was]) (hs:name.size≤1000000) (hr:zBP was.data.toList name.data.toList (decide (k=0)&&decide (n=0))=some o) :
 Calls prog 118 #[.pointer (some ⟨b,0,none⟩),.string name,.agg #[.int .i32 c,.int .i64 k,.slice A n cp]] w (zOQ b vo code o w):=by
 have c1:=zKX name zJK hs (by decide);have c2:=zKX name zLP hs (by decide);rw[show zJK.data.toList=Rw.first from rfl]at c1;rw[show zLP.data.toList=Rw.last from rfl]at c2;have hQ:=zIh c k A n cp;have av:=aa.lt;obtain⟨d1,d2,d3,d4,d5,d6⟩:=aa.three;unfold zBP at hr;obtain⟨x1,ae⟩:∃x:ByteArray,⟨(zC4 name.data.toList Rw.first).toArray⟩=x:=⟨_,rfl⟩;obtain⟨x2,af⟩:∃x:ByteArray,⟨(zC4 name.data.toList Rw.last).toArray⟩=x:=⟨_,rfl⟩
 have ar:x1.size≤1000000:=by
  rw[←ae];show (zC4 name.data.toList Rw.first).toArray.size≤1000000;unfold zC4;split <;> simp <;> omega
 have ap:x2.size≤1000000:=by
  rw[←af];show (zC4 name.data.toList Rw.last).toArray.size≤1000000;unfold zC4;split <;> simp <;> omega
 obtain⟨b1,ag⟩:∃x,zCH name.data.toList Rw.first=x:=⟨_,rfl⟩;obtain⟨b2,aj⟩:∃x,zCH name.data.toList Rw.last=x:=⟨_,rfl⟩;rw[ae,ag]at c1;rw[af,aj]at c2;rw[ag,aj]at hr;unfold zJK at c1;unfold zLP at c2;split at hr
 · split at hr
   rotate_left
   · cases hr
   rename_i h1 h2;obtain⟨rfl,h2,h3⟩:=h2;simp only[Zg]at hr;subst hr;rw[h3]at hQ
   have hw:x2++(⟨#[44,32,70,105,114,115,116,62]⟩:ByteArray)=was:=by
    rw[←af,show (⟨#[44,32,70,105,114,115,116,62]⟩:ByteArray)=⟨Rw.first.toArray⟩ from rfl,zAO,h2,Lib.mk_data]
   have ao:was.toList.isEmpty=false:=by
    rw[zFd,←h2];simp[Rw.first]
   subst hw
   have au:¬9223372036854775807<x2.size+(⟨#[44,32,70,105,114,115,116,62]⟩:ByteArray).size:=by
    have:(⟨#[44,32,70,105,114,115,116,62]⟩:ByteArray).size=8:=rfl;omega
   clear h1 h2 h3 ae af ag aj;go_enter func118,ntmps118;go_wp2_with fail;refine (c1 _).mono ?_;rintro e w1 ⟨rfl,rfl⟩;go_wp2_with fail;refine (c2 _).mono ?_;rintro e w2 ⟨rfl,rfl⟩;go_wp2_with fail;refine (hQ _).mono ?_;rintro e w3 ⟨rfl,ah⟩;have HB:=hy' ah;clear ah;go_wp2_with fail;go_ret;exact⟨rfl,((aa.set 2 (.string ⟨#[]⟩)).alloc _).below HB.o,zA0 (zA0 (Rw.grown_set b 2 _) (Yr _ _ _)) (zAo HB.o)⟩
 split at hr
 rotate_left
 · rename_i h1 h2;simp only[Zg]at hr;subst hr
   obtain⟨ai,ak⟩:was.data.toList=[]∧b2=false:=by
    refine⟨?_,?_⟩
    · rcases hl:was.data.toList with _|⟨x,r⟩
      · rfl
      exact absurd (.inl (by rw[hl];simp)) h1
    cases b2
    · rfl
    exact absurd (.inr rfl) h1
   have aq:b1=false:=by simpa using h2
   have ao:was.toList.isEmpty=true:=by rw[zFd,ai];rfl
   subst ak aq;clear h1 h2 ae af ag aj ai;go_enter func118,ntmps118;go_wp2_with fail;refine (c1 _).mono ?_;rintro e w1 ⟨rfl,rfl⟩;go_wp2_with fail;refine (c2 _).mono ?_;rintro e w2 ⟨rfl,rfl⟩;go_wp2_with fail;go_ret;exact⟨rfl,(aa.set 2 (.string ⟨#[]⟩)).alloc _,zA0 (Rw.grown_set b 2 _) (Yr _ _ _)⟩
 rename_i h1 h2;subst h2;split at hr
 rotate_left
 · cases hr
 rename_i h3;simp only[Zg]at hr;subst hr;rw[h3]at hQ
 have hw:x1++(⟨#[44,32,70,105,114,115,116,62]⟩:ByteArray)=⟨(zC4 name.data.toList Rw.first++Rw.first).toArray⟩:=by
  rw[←ae,show (⟨#[44,32,70,105,114,115,116,62]⟩:ByteArray)=⟨Rw.first.toArray⟩ from rfl,zAO]
 obtain⟨ai,ak⟩:was.data.toList=[]∧b2=false:=by
  refine⟨?_,?_⟩
  · rcases hl:was.data.toList with _|⟨x,r⟩
    · rfl
    exact absurd (.inl (by rw[hl];simp)) h1
  cases b2
  · rfl
  exact absurd (.inr rfl) h1
 have ao:was.toList.isEmpty=true:=by rw[zFd,ai];rfl
 have au:¬9223372036854775807<x1.size+(⟨#[44,32,70,105,114,115,116,62]⟩:ByteArray).size:=by
  have:(⟨#[44,32,70,105,114,115,116,62]⟩:ByteArray).size=8:=rfl;omega
 subst ak;have HW:=hy' hw;clear hw h1 h3 ae af ag aj ai;go_enter func118,ntmps118;go_wp2_with fail;refine (c1 _).mono ?_;rintro e w1 ⟨rfl,rfl⟩;go_wp2_with fail;refine (c2 _).mono ?_;rintro e w2 ⟨rfl,rfl⟩;go_wp2_with fail;refine (hQ _).mono ?_;rintro e w3 ⟨rfl,ah⟩;have HB:=hy' ah;clear ah;go_wp2_with fail;go_ret;refine⟨rfl,?_,zA0 ?_ (zAo HB.o)⟩
 · rw[←HW.o]
   first|exact (((aa.set 2 _).set 2 _).alloc _).below HB.o|exact ((aa.set 2 _).alloc _).below HB.o|exact (((aa.set 2 _).alloc _).set 2 _).below HB.o
 first|exact zA0 (zA0 (Rw.grown_set b 2 _) (Rw.grown_set b 2 _)) (Yr _ _ _)|exact zA0 (Rw.grown_set b 2 _) (Yr _ _ _)|exact zA0 (zA0 (Rw.grown_set b 2 _) (Yr _ _ _)) (Rw.grown_set b 2 _)
end
section
open Go.RowKit Go.Stop
theorem zLR (w:World) (d:Int) :
 (convert 30 9 (.slice (some ⟨w.heap.size,0,none⟩) 1 1)).run prog (w.alloc (.cells #[.int .u8 d] 5))=.ok (.string ⟨#[UInt8.ofNat d.toNat]⟩) (w.alloc (.cells #[.int .u8 d] 5)):=by
 exact Qs _ 30 5 underlying30 underlying5 w.heap.size 0 1 1 [d] rfl (fun i hi=>by
  obtain rfl:i=0:=by omega
  simp) 9 underlying9
theorem Fi.rtext_any (c:Nat) (hc:c<16777216) (w:World) :
 Calls prog 104 #[.int .i64 c] w fun e w'=>e=.returned (.string ⟨(Fi.text c).toArray⟩)∧Below w.heap.size w w':=by
 have az:zBk c≤6:=zBY 5 c (by rw[show (16:Nat) ^ (5+1)=16777216 from by decide];exact hc);go_enter func104,ntmps104;go_wp2;go_loopw [0,3,4] (fun vx vs vi wr=>∃i x:Nat,vx=.int .i64 x∧vs=.string ⟨((Fi.low i c).map zBW).toArray⟩∧vi=.int .i64 i∧i≤max 4 (zBk c)∧x=c/16 ^ i∧Below w.heap.size w wr) (fun _ _ vi _=>7-(intOf vi).toNat)
 case atStart=>exact⟨0,c,rfl,rfl,rfl,by omega,by simp,Zd _ _⟩
 obtain⟨i,x,rfl,rfl,rfl,hi,hx,aa⟩:=hrel;obtain⟨w1,rfl⟩:∃w1:World,w1=wr:=⟨_,rfl⟩;have aq:=aa.size
 have a6:x<16777216:=by
  have:=Kt c (16 ^ i);omega
 have ax:=hy' aa;obtain⟨s,hs⟩:∃s:ByteArray,(⟨((Fi.low i c).map zBW).toArray⟩:ByteArray)=s:=⟨_,rfl⟩
 have a1:s.size=i:=by
  rw[←hs];show ((Fi.low i c).map zBW).toArray.size=i;simp[zCZ]
 by_cases hgo:i<4∨0<x
 rotate_left
 · have ai:¬(i:Int)<4:=by omega
   have au:x=0:=by omega
   subst au
   have af:max 4 (zBk c)=i:=by
    have h1:c<16 ^ i:=by
     rcases Z3 c (16 ^ i) with h|h
     · exact h
     have:=Nat.div_pos h (JG (by decide));omega
    have:=zBY (i-1) c (by rw[show i-1+1=i by omega];exact h1);omega
   have hT:s=⟨(Fi.text c).toArray⟩:=by rw[←hs];unfold Fi.text;rw[af]
   have HT:=hy' hT;rw[hs];clear hgo hx af hs hT;go_wp2;go_ret;exact⟨by rw[HT.o];rfl,ax.o⟩
 have ao:i+1≤max 4 (zBk c):=by
  rcases hgo with h|h
  · omega
  have h1:16 ^ i≤c:=by
   rcases Z3 c (16 ^ i) with h2|h2
   · rw[Kg h2]at hx;omega
   exact h2
  have:=zPq c i h1;omega
 have ap:x/16=c/16 ^ (i+1):=by rw[hx,Qn,←Y7]
 have ak:∀dg:UInt8,dg=zBW (x%16)→(⟨#[dg]⟩:ByteArray)++s=⟨((Fi.low (i+1) c).map zBW).toArray⟩:=by
  rintro dg rfl;rw[←hs,zCp,←hx];exact zAO [zBW (x%16)] _
 have HI:=hy' ao;have aj:=hy' ap;have ah:=hy' ak;have ar:¬9223372036854775807<1+s.size:=by omega
 rw[hs];clear ak ap hx hs ao;have av:(x:Int)%16=((x%16:Nat):Int):=by omega
 obtain⟨d,hd⟩:∃d,x%16=d:=⟨_,rfl⟩;rw[hd]at av ah;have ay:d<16:=by omega
 clear hd
 by_cases h10:(d:Int)<10
 · have hC:=zLR w1 (48+(d:Int));have ae:=hy' (aa.alloc aq (.cells #[.int .u8 (48+(d:Int))] 5))
   have ag:UInt8.ofNat (48+(d:Int)).toNat=zBW d:=by
    unfold zBW;rw[Zl (by omega),show (48+(d:Int)).toNat=48+d by omega]
   rw[ag]at hC;have HR:=hy' (ah.o _ rfl);clear ag aa ah;rcases Z3 i 4 with h4|h4
   · have ai:(i:Int)<4:=by omega
     clear hgo;go_wp2;exact⟨⟨i+1,x/16,by go_num,by first|exact ZR Value.string HR.o|(congr 1;exact HR.o),by go_num,HI.o,aj.o,ae.o⟩,by simp[intOf];omega⟩
   have ai:¬(i:Int)<4:=by omega
   have aw:(x:Int) > 0:=by omega
   clear hgo;go_wp2;exact⟨⟨i+1,x/16,by go_num,by first|exact ZR Value.string HR.o|(congr 1;exact HR.o),by go_num,HI.o,aj.o,ae.o⟩,by simp[intOf];omega⟩
 have hC:=zLR w1 (55+(d:Int));have ae:=hy' (aa.alloc aq (.cells #[.int .u8 (55+(d:Int))] 5))
 have ag:UInt8.ofNat (55+(d:Int)).toNat=zBW d:=by
  unfold zBW;rw[Zk (by omega),show (55+(d:Int)).toNat=55+d by omega]
 rw[ag]at hC;have HR:=hy' (ah.o _ rfl);clear ag aa ah;rcases Z3 i 4 with h4|h4
 · have ai:(i:Int)<4:=by omega
   clear hgo;go_wp2;exact⟨⟨i+1,x/16,by go_num,by first|exact ZR Value.string HR.o|(congr 1;exact HR.o),by go_num,HI.o,aj.o,ae.o⟩,by simp[intOf];omega⟩
 have ai:¬(i:Int)<4:=by omega
 have aw:(x:Int) > 0:=by omega
 clear hgo;go_wp2;exact⟨⟨i+1,x/16,by go_num,by first|exact ZR Value.string HR.o|(congr 1;exact HR.o),by go_num,HI.o,aj.o,ae.o⟩,by simp[intOf];omega⟩
def Fi.vs (l:List (List UInt8)):List Value:=l.map fun x=>Value.string ⟨x.toArray⟩
theorem Fi.split_any (s:ByteArray) (hs:s.size≤1000000000) (w:World) (hL:Fi.Laid w) :
 Calls prog 116 #[.string s] w (zQs w (zAm 59 [] s.data.toList)):=by
 obtain⟨m,hm⟩:=hL.1;have h1:=Tryz.strings_Split s ⟨#[59]⟩ m w (by omega) hm (Za 1);have hlen:=Lib.splitB_all ⟨#[59]⟩ (Za 1) 0 _ s rfl;have aa:=zOC 59 _ s (Za _);obtain⟨L,ag⟩:∃L,Lib.splitB ⟨#[59]⟩ 0 (Lib.countB s ⟨#[59]⟩) s=L:=⟨_,rfl⟩;obtain⟨n,hn⟩:∃n,Lib.countB s ⟨#[59]⟩+1=n:=⟨_,rfl⟩;rw[ag]at h1 hlen aa;rw[hn]at h1 hlen
 have ae:L.map Value.string=Fi.vs (zAm 59 [] s.data.toList):=by
  rw[←aa];unfold Fi.vs;rw[Xd];exact YR fun x _=>by show Value.string x=Value.string ⟨x.data.toList.toArray⟩;rw[Lib.mk_data]
 rw[ae]at h1;have af:(zAm 59 [] s.data.toList).length=n:=by rw[←aa,Ze,hlen]
 have ah:=hy' af;clear ae aa hlen ag hn hm hL af;obtain⟨V,hV⟩:∃V,Fi.vs (zAm 59 [] s.data.toList)=V:=⟨_,rfl⟩;have HV:=hy' hV;rw[hV]at h1;clear hV;go_enter func116,ntmps116;go_wp2_with fail;refine h1.mono ?_;rintro e w1 ⟨rfl,rfl⟩;go_wp2_with fail;go_ret;refine⟨some ⟨w.heap.size,0,none⟩,n,n,rfl,ah.o,?_,(Zd _ _).alloc (Za _) _⟩;intro _;refine⟨w.heap.size,0,rfl,by simp,fun j hj=>?_⟩;rw[Z4,Jv,show (zAm 59 [] s.data.toList).map (fun x=>Value.string ⟨x.toArray⟩)=V from HV.o];simp
end
section
open Go.RowKit
def Rw.Laid (w:World):Prop:=Fi.Laid w∧Fi.LaidN w
theorem Rw.Laid.next {w w':World} (h:Rw.Laid w) (hb:Below w.heap.size w w'):Rw.Laid w':=⟨h.1.below hb,h.2.next hb⟩
theorem zQz:(prog.info? 103).map (fun i=>(i.zero,i.size,i.bytes))=some (some (.agg #[.int .i32 0,.int .i64 0,.slice none 0 0]),3,40):=by kernel_rfl
def zOR (w:World) (b:Nat) (st:Rw.St):Prop :=
 ∃v ads,Rw.At w b 152 [v,.int .i32 st.2.1,.string ⟨st.2.2.toArray⟩]∧w.ownsRow (b+1) 103 3 v st.1.length (Rw.fl st.1 ads)∧ads.length=st.1.length∧Rw.Maps w st.1 ads
def zQA (b:Nat) (st:Rw.St) (w:World) (e:Ending) (w':World):Prop:=e=.returned (.string ⟨#[]⟩)∧zOR w' b st∧Below b w w'
theorem zIi {st st':Rw.St} {l:List UInt8} (h:Rw.step st l=some st'):∃r o,Rw.row (zAm 59 [] l)=some r∧st.2.1<r.1∧zBP st.2.2 ((zAm 59 [] l).getD 1 []) (Rw.quiet r)=some o∧(C.isC r.1=true∨Rw.quiet r=true) ∧
 st'=(if Rw.quiet r then st.1 else st.1++[r],r.1,o):=by
 unfold Rw.step at h;rcases hr:Rw.row (zAm 59 [] l) with _|r
 · rw[hr]at h;cases h
 rw[hr,Zv]at h;split at h
 · rename_i h1;rcases ho:zBP st.2.2 ((zAm 59 [] l).getD 1 []) (Rw.quiet r) with _|o
   · rw[ho]at h;cases h
   rw[ho,Zv]at h;split at h
   · rename_i h2;simp only[Zg]at h;exact⟨r,o,rfl,h1,ho,h2,h.symm⟩
   cases h
 cases h
theorem Rw.line_any (b:Nat) (st st':Rw.St) (l:ByteArray) (w0 w:World) (hL:Rw.Laid w0) (h0:w0.heap.size≤b) (ee:Below w0.heap.size w0 w) (hI:zOR w b st) (hl:l.size≤1000) (hn:st.1.length≤100000)
 (dx:Rw.step st l.data.toList=some st'):Calls prog 81 #[.pointer (some ⟨b,0,none⟩),.string l] w (zQA b st' w):=by
 obtain⟨r,o,a7,dw,bu,hq,rfl⟩:=zIi dx;obtain⟨out,code,was⟩:=st;obtain⟨v,ads,bs,bk,has,az⟩:=hI;obtain⟨c,k,m⟩:=r;simp only at dw bu hq bs bk has az hn ⊢;have du:=hL.next ee;have hS:=Fi.split_any l (by omega) w du.1;obtain⟨f0,f1,f3,f5,dn,i0,i1,i3,i5,hne,cy,dc,dz⟩:=zJJ a7
 have ak:∀x∈zAm 59 [] l.data.toList,x.length≤1000:=fun x hx=>by
  have:=zF8 59 l.data.toList [] x hx;simp at this;omega
 have ew:f1.length≤1000:=ak f1 (Zj i1);have dt:(zAm 59 [] l.data.toList).getD 1 []=f1:=by rw[Yz,i1];rfl
 rw[dt]at bu;obtain⟨F,hF⟩:∃F,zAm 59 [] l.data.toList=F:=⟨_,rfl⟩;rw[hF]at a7 dn i1 ak hS;obtain⟨j0,hj0,ei,ec,eb⟩:=Z9 zQz;obtain⟨nm,ck⟩:∃nm:ByteArray,⟨f1.toArray⟩=nm:=⟨_,rfl⟩;have dk:nm.size≤1000000:=by rw[←ck];show f1.toArray.size≤_;simp;omega
 have b5:nm.data.toList=f1:=by rw[←ck]
 obtain⟨wb,cv⟩:∃wb:ByteArray,⟨was.toArray⟩=wb:=⟨_,rfl⟩;have cc:wb.data.toList=was:=by rw[←cv]
 rw[←b5,←cc]at bu;rw[cv]at bs;have ey:decide (c≤code)=false:=Zp (by omega);have en:=zIh c k;obtain⟨bc,cw⟩:∃x,C.isC c=x:=⟨_,rfl⟩;obtain⟨bq,cr⟩:∃x,Rw.quiet (c,k,m)=x:=⟨_,rfl⟩;have b7:(decide (k=0)&&decide (m.length=0))=bq:=cr;rw[cw,cr]at hq;rw[cr]at bu ⊢;obtain⟨out',aw⟩:∃x,(if bq=true then out else out++[(c,k,m)])=x:=⟨_,rfl⟩;rw[aw];have HO:=hy' aw;have dl:=hy' b7;have hU:=zBv c;rw[cw]at hU;have HQ:=hy' hq;clear cw cr b7 hq aw;have cu:=hy' a7;have eh:=hy' bu;have b2:=hy' ak;clear dx cy dc dz i0 i3 i5 a7 bu ak hne dt hF b5 cc cv dw;go_enter func81,ntmps81;go_wp2_with fail;refine hS.mono ?_;rintro e w1 ⟨A,n,cp,rfl,eo,hA,c7⟩;obtain rfl:n=15:=by omega
 have hR:=Rw.row_any A 15 cp w1.heap.size F (c,k,m) w1 cu.o dn (Za _) hA (fun x hx=>by have:=b2.o x hx;omega) (du.next c7).2;obtain⟨ab,ao,rfl,bo,dm⟩:=hA (by rw[Ze];omega);have di:=dm 1 (by rw[Ze];omega);rw[Zt,i1,Zw,ck]at di;clear dm hS i1 eo ck;have cf:=hy' c7;clear c7;go_wp2_with fail;refine hR.mono ?_;rintro e w2 ⟨Am,cm,rfl,cx,cn⟩;clear hR;simp only at cx;have cd:=((zAU cn).1 _ _ bo).trans di;have bf:ab<w2.heap.size:=Zf bo cn.size;have a1:Below w.heap.size w w2:=cf.out.trans (cn.mono cf.out.size);have bm:=bs.below a1;have bi:=zA6 bk a1 (Za _);have au:=az.below a1;obtain⟨d1,d2,d3,d4,d5,d6⟩:=bm.three;have er:b<w2.heap.size:=bm.lt;have eg:b<w.heap.size:=bs.lt;clear di bo cn bs bk az;have dp:=hy' a1;have cg:=hy' bi;have b9:=hy' au;have ej:=hy' cx;clear a1 bi au cx;go_wp2_with fail;go_quiet (fail);go_wp2_with fail;obtain⟨w3,cj⟩:∃w3,(w2.alloc (.cells #[.int .i32 c,.int .i64 k,.slice Am m.length cm] 103)).drewN nq=w3:=⟨_,rfl⟩;have br:Below w2.heap.size w2 w3:=by rw[←cj];exact ((Zd w2.heap.size w2).alloc (Za _) _).trans ((zDO _ _).mono (by simp))
 have c1:Rw.At w3 w2.heap.size 103 [.int .i32 c,.int .i64 k,.slice Am m.length cm]:=by rw[←cj];exact (Rw.At.new w2 103 [.int .i32 c,.int .i64 k,.slice Am m.length cm]).below (zDO _ _)
 have df:=bm.below br;obtain⟨m1,m2,m3,m4,m5,m6⟩:=c1.three;have eu:=((zAU br).1 _ _ bf).trans cd;have ef:w2.heap.size<w3.heap.size:=c1.lt;have hG:=fun W bs=>zLQ b v code wb nm c k Am m.length cm o W (zPI cg.o) bs dk (by rw[dl.o];exact eh.o)
 have ay:Rw.At w3.drew b 152 [v,.int .i32 code,.string wb]:=df;rw[cj];clear cj d1 d2 d3 d4 d5 d6 cd bf;go_region_with (go_at_call 118;refine (hG _ ay).mono ?_;rintro e w4 ⟨rfl,ai,bw⟩)
 all_goals
  have cq:Rw.At w4 w2.heap.size 103 [.int .i32 c,.int .i64 k,.slice Am m.length cm]:=(show Rw.At w3.drew _ _ _ from c1).grown bw (by simp;omega);have bh:Below w.heap.size w w3.drew:=dp.o.trans ((show Below w2.heap.size w2 w3.drew from br.drew).mono dp.o.size);have bg:=Rw.own_grown (zA6 cg.o (show Below w2.heap.size w2 w3.drew from br.drew) (Za _)) (ZM b) bw;have a6:=(b9.o.below (show Below w2.heap.size w2 w3.drew from br.drew)).grown bw (by intro q hq;cases hq;exact ay.not (by decide));have b6:=(ej.o.below (show Below w2.heap.size w2 w3.drew from br.drew)).grown bw (by intro q hq;cases hq;exact ay.not (by decide));have cb:Below b w w4:=(bh.mono (Z5 eg)).trans (zAj bw (by show b≤w3.drew.heap.size;have:=br.size;simp;omega) (by intro q hq;cases hq;exact Za _));have ea:w2.heap.size<w4.heap.size:=cq.lt;have b4:=en Am m.length cm;rw[dl.o]at b4;obtain⟨p1,p2,p3,p4,p5,p6⟩:=ai.three;obtain⟨r1,r2,r3,r4,r5,r6⟩:=cq.three;have ax:=hy' bg;have aj:=hy' a6;have c8:=hy' b6;have bp:=hy' cb;clear bg a6 b6 cb bh bw m1 m2 m3 m4 m5 m6 eu;rcases bq with _|_
  · obtain rfl:bc=true:=by
     rcases HQ.o with h|h
     · exact h
     cases h
    go_wp2_with (first|(go_at_call 38;refine (hU _).mono ?_;rintro e w5 ⟨rfl,rfl⟩)|fail);refine (b4 _).mono ?_;rintro e w5 ⟨rfl,ag⟩;have af:=(ai.set 1 (.int .i32 c)).below ag;simp only[ZA,Zx]at af;have dr:=(cq.other (show w2.heap.size≠b by omega) (.int .i32 c) (i:=1)).below ag;have ae:=zA6 (Rw.own_grown ax.o (ZM b) (Rw.grown_set b 1 (.int .i32 c))) ag (Za _);have aa:=(aj.o.grown (Rw.grown_set b 1 (.int .i32 c)) (by intro q hq;cases hq;exact ai.not (by decide))).below ag;have b3:=(c8.o.grown (Rw.grown_set b 1 (.int .i32 c)) (by intro q hq;cases hq;exact ai.not (by decide))).below ag;have ez:w4.heap.size≤w5.heap.size:=Zh (KeepsWalks.setCell w4 ⟨b,1,none⟩ (.int .i32 c)).size ag.size;have ah:Below b w w5:=(bp.o.setCell (p:=⟨b,1,none⟩) (Za _) (.int .i32 c)).trans (ag.mono (by have:=(KeepsWalks.setCell w4 ⟨b,1,none⟩ (.int .i32 c)).size;omega));obtain⟨s1,s2,s3,s4,s5,s6⟩:=af.three;obtain⟨t1,t2,t3,t4,t5,t6⟩:=dr.three;have et:w2.heap.size<w5.heap.size:=dr.lt;have cz:b<w5.heap.size:=af.lt;have bb:=(ae.alloc (.cells #[.int .i32 c,.int .i64 k,.slice Am m.length cm] 103)).drew;have ct:=hy' (Sl.lit (w:=(w5.alloc (.cells #[.int .i32 c,.int .i64 k,.slice Am m.length cm] 103)).drew) (A:=some ⟨w5.heap.size,0,none⟩) (xs:=[.int .i32 c,.int .i64 k,.slice Am m.length cm]) rfl 103 (0,0) (ZW w5 _));have hne:=zBq ae b (ZM b);have ek:b+1≤(w5.alloc (.cells #[.int .i32 c,.int .i64 k,.slice Am m.length cm] 103)).drew.heap.size:=by simp;omega
    have ch:Rw.At (w5.alloc (.cells #[.int .i32 c,.int .i64 k,.slice Am m.length cm] 103)).drew b 152 [v,.int .i32 c,.string ⟨o.toArray⟩]:=af.alloc _;have ar:=hy' bb;have bt:=hy' aa;have dh:=hy' b3;have av:=hy' ah;have ed:=hy' hne;clear ae bb aa b3 ah ag p1 p2 p3 p4 p5 p6 r1 r2 r3 r4 r5 r6 hne;go_wp2_with fail;go_region_law ((refine zGz _ (by rfl) _ _ _ (by rfl) (b+1) 103 j0 _ 3 40 underlying85 hj0 ei ec eb rfl (by omega) _ out.length _ (by rfl) ar.o _ (some ⟨w5.heap.size,0,none⟩) 1 1 [.int .i32 c,.int .i64 k,.slice Am m.length cm] (by rfl) (by rfl) ct.out (by simp[Value.oneCell']) (by simp only[maxLen];omega) (by omega) ek ?_;intro v1 w6 bj ep ap;have a8:=ch.grown ap ed.o;obtain⟨z1,z2,z3,z4,z5,z6⟩:=a8.three;obtain⟨A6,c6,rfl⟩:=zA3 bj))
    all_goals
     go_wp2_with fail;go_ret;have ho:=HO.o;simp only[ZF,Ye]at ho;subst ho;have bz:Below w5.heap.size w5 (w5.alloc (.cells #[.int .i32 c,.int .i64 k,.slice Am m.length cm] 103)).drew:=((Zd _ _).alloc (Za _) _).drew;have e1:=((bt.o.below bz).grown ap (zAE ar.o (by decide))).grown (Rw.grown_set b 0 (.slice A6 (out.length+1) c6)) (by intro q hq;cases hq;exact a8.not (by decide));have e2:=((dh.o.below bz).grown ap (zAE ar.o (by decide))).grown (Rw.grown_set b 0 (.slice A6 (out.length+1) c6)) (by intro q hq;cases hq;exact a8.not (by decide));have e3:=Rw.own_grown bj (ZM b) (Rw.grown_set b 0 (.slice A6 (out.length+1) c6));refine⟨rfl,⟨.slice A6 (out.length+1) c6,ads++[(Am,cm)],a8.set 0 _,?_,by simp[has],e1.app has e2⟩,?_⟩
     · show World.ownsRow _ _ _ _ _ (out++[(c,k,m)]).length (Rw.fl (out++[(c,k,m)]) (ads++[(Am,cm)]));rw[Rw.fl_app out ads (c,k,m) (Am,cm) has,Zc];exact e3
     exact ((av.o.trans (bz.mono (Z5 cz))).trans (ep.mono (ZZ b))).setCell (p:=⟨b,0,none⟩) (Za _) _
  have ho:=HO.o;simp only[Yo]at ho;subst ho;have HT:=HQ.o;rcases bc with _|_
  · go_wp2_with (first|(go_at_call 38;refine (hU _).mono ?_;rintro e w5 ⟨rfl,rfl⟩)|fail);refine (b4 _).mono ?_;rintro e dy ⟨rfl,bx⟩;have aq:=ai.below bx;have b1:=cq.below bx;have bl:=hy' (zA6 ax.o bx (Za _));have ba:=hy' (aj.o.below bx);have b8:=hy' (bp.o.trans (bx.mono (Z5 ai.lt)));have dv:w2.heap.size<dy.heap.size:=b1.lt;clear p1 p2 p3 p4 p5 p6 r1 r2 r3 r4 r5 r6 bx;obtain⟨p1,p2,p3,p4,p5,p6⟩:=aq.three;obtain⟨r1,r2,r3,r4,r5,r6⟩:=b1.three;go_wp2_with fail;refine (b4 _).mono ?_;rintro e w5 ⟨rfl,ag⟩;have af:=(aq.set 1 (.int .i32 c)).below ag;simp only[ZA,Zx]at af;have ae:=zA6 (Rw.own_grown bl.o (ZM b) (Rw.grown_set b 1 (.int .i32 c))) ag (Za _);have aa:=(ba.o.grown (Rw.grown_set b 1 (.int .i32 c)) (by intro q hq;cases hq;exact aq.not (by decide))).below ag;have ah:Below b w w5:=(b8.o.setCell (p:=⟨b,1,none⟩) (Za _) (.int .i32 c)).trans (ag.mono (by have:=(KeepsWalks.setCell dy ⟨b,1,none⟩ (.int .i32 c)).size;omega));have bn:=hy' (show zOR w5 b (out,c,o) from ⟨v,ads,af,ae,has,aa⟩);have av:=hy' ah;clear af ae aa ah ag;go_wp2_with fail;go_ret;exact⟨rfl,bn.o,av.o⟩
  go_wp2_with (first|(go_at_call 38;refine (hU _).mono ?_;rintro e w5 ⟨rfl,rfl⟩)|fail);refine (b4 _).mono ?_;rintro e w5 ⟨rfl,ag⟩;have af:=(ai.set 1 (.int .i32 c)).below ag;simp only[ZA,Zx]at af;have ae:=zA6 (Rw.own_grown ax.o (ZM b) (Rw.grown_set b 1 (.int .i32 c))) ag (Za _);have aa:=(aj.o.grown (Rw.grown_set b 1 (.int .i32 c)) (by intro q hq;cases hq;exact ai.not (by decide))).below ag;have ah:Below b w w5:=(bp.o.setCell (p:=⟨b,1,none⟩) (Za _) (.int .i32 c)).trans (ag.mono (by have:=(KeepsWalks.setCell w4 ⟨b,1,none⟩ (.int .i32 c)).size;omega));have bn:=hy' (show zOR w5 b (out,c,o) from ⟨v,ads,af,ae,has,aa⟩);have av:=hy' ah;clear af ae aa ah ag;go_wp2_with fail;go_ret;exact⟨rfl,bn.o,av.o⟩
def Bd.At (w:World) (b D:Nat) (bs:List Value):Prop :=
 ∃p v,(p=.pointer none∨p=.pointer (some ⟨b,0,none⟩))∧Rw.At w b 98 [p,v]∧w.ownsRow D 5 1 v bs.length bs
def Bd.Kept (w w':World):Prop:=∀(t:TypeId) (A:Option Addr) (xs:List Value),t≠98→t≠5→Slt w t A xs→Slt w' t A xs
theorem zGS (b D:Nat) (bs:List Value) (s:ByteArray) (w:World) (hD:b<D) (bh:D≤w.heap.size) (h:Bd.At w b D bs) (hlen:bs.length+s.size≤140737488355328) :
 Calls prog 50 #[.pointer (some ⟨b,0,none⟩),.string s] w fun e w'=>e=.returned (.tuple #[.int .i64 s.size,.nilIface])∧Bd.At w' b D (bs++Lib.strCells s)∧Bd.Kept w w'∧Below b w w':=by
 obtain⟨i0,hi,bc,bf,az⟩:=Z9 Bd.infoByte;obtain⟨p,v,hp,aj,ak⟩:=h
 have ap:∀W,W=w→Calls prog 89 #[.pointer (some ⟨b,0,none⟩)] W fun e w'=>e=.returned (.tuple #[])∧(w'=w∨w'=w.setCell ⟨b,0,none⟩ (.pointer (some ⟨b,0,none⟩)))∧Rw.At w' b 98 [.pointer (some ⟨b,0,none⟩),v]:=by
  rintro W rfl;rcases hp with rfl|rfl
  · refine (zK5 b W (aj.cell 0 rfl) ?_ (aj.frozen 0)).mono ?_
    · unfold Rw.At at aj;simp[World.shape?,aj]
    rintro e w' ⟨rfl,rfl⟩;exact⟨rfl,.inr rfl,aj.set 0 _⟩
  refine (zLM b W (aj.cell 0 rfl)).mono ?_;rintro e w' ⟨rfl,rfl⟩;exact⟨rfl,.inl rfl,aj⟩
 have aq:=hy' ak;have a8:=hy' aj;clear ak aj hp;go_enter func50,ntmps50;go_wp2_with fail;refine (ap _ rfl).mono ?_;rintro e w1 ⟨rfl,ar,ai⟩
 have ag:w1.ownsRow D 5 1 v bs.length bs:=by
  rcases ar with rfl|rfl
  · exact aq.o
  exact Rw.own_grown aq.o hD (Rw.grown_set b 0 _)
 have av:Bd.Kept w w1:=by
  rcases ar with rfl|rfl
  · exact fun t A xs _ _ h=>h
  exact fun t A xs h1 _ h=>h.setAt a8.o (fun e=>h1 e.symm) 0 _
 have au:Below b w w1:=by
  rcases ar with rfl|rfl
  · exact Zd _ _
  exact (Zd _ _).setCell (p:=⟨b,0,none⟩) (Za _) _
 have hne:=zBq ag b hD;have c0:=ai.cell 0 rfl;have c1:=ai.cell 1 rfl;have a6:=au.size;have ah:=hy' ag;have a1:=hy' av;have ay:=hy' au;have ba:=hy' hne;clear ar ag av au hne ap;go_wp2_with (at_builtin;refine Lib.wpList_append_own_string _ rfl _ _ 30 9 rfl D 5 i0 underlying30 underlying9 hi bc bf az _ _ _ rfl ah.o s rfl ?c3 ?c4 ?c5 ?_)
 case c3=>unfold maxLen;omega
 case c4=>omega
 case c5=>omega
 intro v' w2 ae aa _;have af:=ai.grown aa ba.o;have d0:=af.cell 0 rfl;have d1:=af.cell 1 rfl;have f1:=af.frozen 1;obtain⟨ao,cap,rfl⟩:=zA3 ae;have ax:Bd.Kept w1 w2:=fun t A xs _ h2 h=>h.grown aa (zAE ah.o (fun e=>h2 e.symm))
 have aw:Below b w1 w2:=zAj aa (Z5 ai.lt) (fun k hk=>by have:=(ah.o.lt k hk).1;omega);have a7:=hy' ax;have bg:=hy' aw;have bb:=hy' ae;clear ax aw ae aa c0 c1;go_wp2_with fail;go_ret2;refine⟨rfl,⟨_,_,.inr rfl,af.set 1 _,?_⟩,?_,(ay.o.trans bg.o).setCell (p:=⟨b,1,none⟩) (Za _) _⟩
 · have:=Rw.own_grown bb.o hD (Rw.grown_set b 1 (.slice ao (bs.length+s.size) cap));rw[Zc,Lib.strCells_length];exact this
 exact fun t A xs h1 h2 h=>(a7.o t A xs h1 h2 (a1.o t A xs h1 h2 h)).setAt af (fun e=>h1 e.symm) 1 _
def zAk (X:List Int):List UInt8:=X.flatMap fun c=>Fi.text c.toNat++[10]
theorem zIj (X:List Int) (c:Int):zAk (X++[c])=zAk X++(Fi.text c.toNat++[10]):=by simp[zAk]
theorem zDl:∀(X:List Int),(∀c∈X,0≤c∧c≤1114111)→(zAk X).length≤7*X.length
 | [],_=>by simp[zAk]
 | c::X,h=>by
   have h1:=zAI c.toNat (by have:=(h c ZI).2;omega);have h2:=zDl X fun d hd=>h d (ZT _ hd)
   unfold zAk at h2 ⊢;rw[Xu];simp only[Zc,ZB,ZY];omega
theorem zLS (n:Nat):zBA (Fi.text n)=Fi.text n:=by
 obtain⟨x,m,y,h1,h2,h3,h4⟩:=zNf n;unfold zBA;rw[zOH _ (zNg n)];have:=zOI 0 (Fi.text n) x y m h1 h2 h3 h4 0;simpa using this
theorem zG0:∀(l:List Int) (seen:List Int),(∀c∈l,C.isC c=true)→l.Nodup→(∀c∈l,c∉seen)→Ex.steps seen (l.map fun c=>Fi.text c.toNat)=some (seen++l)
 | [],seen,_,_,_=>by simp[Ex.steps]
 | c::l,seen,h1,h2,h3=>by
   have hc:=h1 c ZI
   have aa:0≤c∧c≤1114111:=by
    unfold C.isC at hc;have:=Yf hc;omega
   have hl:Ex.line seen (Fi.text c.toNat)=some (seen++[c]):=by
    unfold Ex.line;rw[zLS,Zk (zHA _),zGk _ (by omega),Zv,zEA aa.1,Zl ⟨hc,h3 c ZI⟩]
   rw[ZU,Ex.steps,hl,Zv,zG0 l (seen++[c]) (fun d hd=>h1 d (ZT _ hd)) (List.nodup_cons.1 h2).2 (fun d hd hm=>by
    rcases List.mem_append.1 hm with h|h
    · exact h3 d (ZT _ hd) h
    rw[ZE]at h;subst h;exact (List.nodup_cons.1 h2).1 hd)]
   simp
theorem Ex.parse_btxt (l:List Int) (h1:∀c∈l,C.isC c=true) (h2:l.Nodup) (hn:l.length≤1000):Ex.parse (zAk l)=some l:=by
 have hb:∀c∈l,0≤c∧c≤1114111:=fun c hc=>by
  have:=h1 c hc;unfold C.isC at this;have:=Yf this;omega
 have ae:∀x∈l.map (fun c=>Fi.text c.toNat),zCh x=true:=by
  intro x hx;obtain⟨c,hc,rfl⟩:=List.mem_map.1 hx;have:=zAI c.toNat (by have:=(hb c hc).2;omega);exact zSw (by omega) fun b af=>by have:=zCi _ b af;omega
 have aa:zAS [] (zAk l)=l.map fun c=>Fi.text c.toNat:=by
  have:=zEz (l.map fun c=>Fi.text c.toNat) fun x hx=>zPs (ae x hx)
  rw[Kh]at this;exact this
 unfold Ex.parse;rw[aa,Zl ⟨by rw[Yg];exact ae,by simp;omega⟩,zG0 l [] h1 h2 (fun c _=>by simp)];simp
theorem Ex.text_any (A:Option Addr) (c n:Nat) (S X:List Int) (w:World) (hn:S.length=n) (b4:n≤1000) (b1:C.ok S) (hX:zCI (zAN S)=X) (bj:∀c∈X,C.isC c=true) (bs:X.length≤1000)
 (hA:Slt w 21 A (S.map (Value.int .i32))) (hL:Fi.Laid w) :
 Calls prog 54 #[.agg #[.slice A n c]] w fun e w'=>e=.returned (.string ⟨(zAk X).toArray⟩)∧Below w.heap.size w w':=by
 have bk:∀c∈X,0≤c∧c≤1114111:=fun c hc=>by
  have:=bj c hc;unfold C.isC at this;have:=Yf this;omega
 obtain⟨wa,au⟩:∃wa,(w.alloc (.cells #[.slice A n c] 90)).alloc (.cells #[.pointer none,.slice none 0 0] 98)=wa:=⟨_,rfl⟩;have ba:Below w.heap.size w wa:=by rw[←au];exact ((Zd _ _).alloc (Za _) _).alloc (by simp) _
 have aq:Rw.At wa w.heap.size 90 [.slice A n c]:=by rw[←au];exact (Rw.At.new w 90 [.slice A n c]).alloc _
 have ai:Rw.At wa (w.heap.size+1) 98 [.pointer none,.slice none 0 0]:=by
  have h:=Rw.At.new (w.alloc (.cells #[.slice A n c] 90)) 98 [.pointer none,.slice none 0 0];rw[ZD]at h;rw[←au];exact h
 have bw:w.heap.size+1<wa.heap.size:=ai.lt;have ap:=zJZ A c n wa.heap.size S wa hn (by omega) b1 (Za _) (hA.below ba).sl;rw[hX]at ap;obtain⟨m,hm⟩:∃m,X.length=m:=⟨_,rfl⟩;unfold zKB at ap;rw[hm]at ap bs;have b3:=hy' au;have HM:=hy' hm;have bc:=hy' bk;have bb:=hy' ba;have HL:=hy' hL;have z0:=aq.cell 0 rfl;clear au hm bk ba hL hA hX bj hn;go_enter func54,ntmps54;go_upto_region 2 with (fail)
 rw[b3.o];go_wp2_with fail;refine ap.mono ?_;rintro e w2 ⟨A5,c5,rfl,af,az⟩;have a7:Bd.At w2 (w.heap.size+1) w2.heap.size []:=⟨_,_,.inl rfl,ai.below az,ZG _ _ _ _⟩;have bl:=hy' (Slt.of_own af);have b2:=hy' (bb.o.trans (az.mono bb.o.size));have bm:w.heap.size+1<w2.heap.size:=Zf bw az.size;clear af az ap aq ai z0;go_wp2_with fail;go_loopw [5,9] (fun _ i wr=>∃k:Nat,k≤m∧i=.int .i64 k∧Bd.At wr (w.heap.size+1) w2.heap.size (Lib.byteCells (zAk (X.take k)))∧Slt wr 21 A5 (X.map (Value.int .i32))∧Below (w.heap.size+1) w2 wr) (fun _ i _=>m-(intOf i).toNat)
 case atStart=>exact⟨0,Zq _,rfl,a7,bl.o,Zd _ _⟩
 obtain⟨k,hk,rfl,av,hS,aa⟩:=hrel;have bp:w2.heap.size≤wr.heap.size:=aa.size;have ay:Below w.heap.size w wr:=b2.o.trans (aa.mono (ZZ _))
 by_cases hlt:k<m
 rotate_left
 · obtain rfl:k=m:=by omega
   have kI:¬(k:Int)<k:=by omega
   rw[Zi (by rw[HM.o];exact Za _)]at av
   have bf:Lib.IsBuilder 98 5 (w.heap.size+1) (w.heap.size+1) (Lib.byteCells (zAk X)) wr:=by
    obtain⟨p,v,h1,h2,h3⟩:=av;have h4:Lib.BuilderAt 98 5 (w.heap.size+1) (w.heap.size+1) p (Lib.byteCells (zAk X)) wr:=⟨Za _,v,h2,zFI h3 (by omega),zBq h3 _ (by omega)⟩;rcases h1 with rfl|rfl
    · exact .inl h4
    exact .inr h4
   have bi:=Tryz.Builder_String_any (w.heap.size+1) (w.heap.size+1) (zAk X) wr bf (by omega);have HB:=hy' ay;clear av hS aa bf ay;go_wp2_with fail;refine bi.mono ?_;rintro e w4 ⟨rfl,ak⟩;have a6:=hy' (HB.o.trans (ak.mono (ZZ _)));clear ak bi;go_wp2_with fail;go_ret;exact⟨rfl,a6.o⟩
 obtain⟨x,hx⟩:∃x,X[k]?=some x:=⟨_,Zb (by rw[HM.o];exact hlt)⟩;have hxb:=bc.o x (Zj hx);obtain⟨ab,ao,rfl,b5,bh⟩:=hS.sl (by rw[Ze,HM.o];omega);have hc:=bh k (by rw[Ze,HM.o];exact hlt);rw[Zt,hx,Zw]at hc;obtain⟨xn,rfl⟩:∃xn:Nat,x=xn:=⟨x.toNat,by omega⟩;have hT:=Fi.text_any xn (by omega) wr (HL.o.below ay)
 have ag:zAk (X.take (k+1))=zAk (X.take k)++(Fi.text xn++[10]):=by
  rw[Zy,hx];show zAk (X.take k++[(xn:Int)])=_;rw[zIj,Y5]
 have bz:=zDl (X.take k) fun d hd=>bc.o d (Z0 hd)
 have bx:(X.take k).length≤k:=XB _ _;obtain⟨tx,ax⟩:∃y:ByteArray,⟨(Fi.text xn).toArray⟩=y:=⟨_,rfl⟩;rw[ax]at hT
 have bq:tx.size≤6:=by
  rw[←ax];show (Fi.text xn).toArray.size≤6;have:=zAI xn (by omega);simpa using this
 have s1:(⟨#[10]⟩:ByteArray).size=1:=rfl;have c1:¬9223372036854775807<tx.size+(⟨#[10]⟩:ByteArray).size:=by omega
 have ae:Lib.byteCells (zAk (X.take (k+1)))=Lib.byteCells (zAk (X.take k))++Lib.strCells (tx++⟨#[10]⟩):=by
  rw[ag,←ax,show (⟨#[10]⟩:ByteArray)=⟨[10].toArray⟩ from rfl,zAO];unfold Lib.byteCells Lib.strCells;simp
 have kI:(k:Int)<m:=by omega
 have HC:=hy' ae;have br:=hy' av;have HS:=hy' hS;have a1:=hy' aa
 have ah:(Lib.byteCells (zAk (X.take k))).length+7≤140737488355328:=by
  have:(Lib.byteCells (zAk (X.take k))).length=(zAk (X.take k)).length:=by unfold Lib.byteCells;simp
  omega
 have bt:=hy' ah;clear bh hx ag bz bx ax ae av hS aa ah hxb ay;go_wp2_with fail;refine hT.mono ?_;rintro e w3 ⟨rfl,aj⟩
 have ar:Bd.At w3 (w.heap.size+1) w2.heap.size (Lib.byteCells (zAk (X.take k))):=by
  obtain⟨p,v,h1,h2,h3⟩:=br.o;exact⟨p,v,h1,h2.below aj,zA6 h3 aj (Za _)⟩
 have hW:=zGS (w.heap.size+1) w2.heap.size (Lib.byteCells (zAk (X.take k))) (tx++⟨#[10]⟩) w3 bm (Zh bp aj.size) ar (by rw[ZS];have:=bt.o;omega);have bn:=hy' (HS.o.below aj);have bo:=hy' (a1.o.trans (aj.mono (by omega)));clear aj hT ar;go_wp2_with fail;refine hW.mono ?_;rintro e w4 ⟨rfl,aw,bg,ak⟩;have a8:=hy' aw;have bu:=hy' (bg _ _ _ (by decide) (by decide) bn.o);have a6:=hy' (bo.o.trans ak);clear aw bg ak hW;go_wp2_with fail;exact⟨⟨k+1,by omega,by go_num,by rw[HC.o];exact a8.o,bu.o,a6.o⟩,by simp[intOf];omega⟩
theorem Rw.steps_take {aa ae st:Rw.St} {L:List (List UInt8)} {k:Nat} {x:List UInt8} (h:Rw.steps aa L=some ae) (hx:L[k]?=some x) (hs:Rw.steps aa (L.take k)=some st) :
 ∃st',Rw.step st x=some st'∧Rw.steps aa (L.take (k+1))=some st':=by
 have hk:=(List.getElem?_eq_some_iff.1 hx).1
 have e:L.take k++x::L.drop (k+1)=L:=by
  have:=Zu k L;rw[ZJ hk]at this;rw[Zb hk,Zg]at hx;rw[hx]at this;exact this
 rw[←e,Rw.steps_app,hs,Zv,Rw.steps]at h;rcases hst:Rw.step st x with _|st'
 · rw[hst]at h;cases h
 refine⟨st',rfl,?_⟩;rw[Zy,hx,Rw.steps_app,hs];show Rw.steps st [x]=some st';rw[Rw.steps,hst];rfl
theorem Rw.step_len {st st':Rw.St} {x:List UInt8} (h:Rw.step st x=some st'):st'.1.length≤st.1.length+1:=by
 obtain⟨r,o,_,_,_,_,rfl⟩:=zIi h;show (if Rw.quiet r=true then st.1 else st.1++[r]).length≤_;split
 · omega
 simp
theorem Rw.steps_len:∀(L:List (List UInt8)) {st st':Rw.St},Rw.steps st L=some st'→st'.1.length≤st.1.length+L.length
 | [],st,st',h=>by
   rw[Rw.steps,Zg]at h;subst h;simp
 | x::L,st,st',h=>by
   rw[Rw.steps]at h;rcases hs:Rw.step st x with _|s
   · rw[hs]at h;cases h
   rw[hs,Zv]at h;have h1:=Rw.step_len hs;have h2:=Rw.steps_len L h;simp;omega
def zQB (b:Nat) (st:Rw.St) (w:World) (e:Ending) (w':World):Prop:=e=.returned (.tuple #[.int .i64 0,.string ⟨#[]⟩])∧zOR w' b st∧Below b w w'
def Rw.Inv (w:World) (b:Nat) (aa:Rw.St) (L:List (List UInt8)) (k:Nat) (wr:World):Prop:=∃st,Rw.steps aa (L.take k)=some st∧zOR wr b st∧Below b w wr
theorem zOS (b:Nat) (af aj:Rw.St) (L:List (List UInt8)) (A:Option Addr) (n cp:Nat) (w0 w:World) (hL:Rw.Laid w0) (h0:w0.heap.size≤b) (ay:Below w0.heap.size w0 w) (hI:zOR w b af) (hlen:af.1.length=0)
 (aq:L.length=n) (hn:n≤100000) (hl:∀x∈L,x.length≤1000) (hA:Sl w b A (L.map fun x=>Value.string ⟨x.toArray⟩)) (a8:b<w.heap.size)
 (a1:Rw.steps af L=some aj):Calls prog 80 #[.slice A n cp,.func (.func 81) #[.pointer (some ⟨b,0,none⟩)] #[]] w (zQB b aj w):=by
 have HL:=hy' hl;have HN:=hy' aq;have av:=hy' a1;have HB:=hy' ay;have H0:=hy' hlen;have HA:=hy' hA;clear hl aq a1 ay hlen hA;go_enter func80,ntmps80;go_wp2_with fail;go_loopw [6,7,8,11] (fun _ _ _ i wr=>∃k:Nat,k≤n∧i=.int .i64 k∧Rw.Inv w b af L k wr) (fun _ _ _ i _=>n-(intOf i).toNat)
 case atStart=>exact⟨0,Zq _,rfl,af,rfl,hI,Zd _ _⟩
 obtain⟨k,hk,rfl,st,hs,hR,aa⟩:=hrel
 by_cases hlt:k<n
 · obtain⟨x,hx⟩:∃x,L[k]?=some x:=⟨_,Zb (by rw[HN.o];exact hlt)⟩;obtain⟨st',h1,h2⟩:=Rw.steps_take av.o hx hs;obtain⟨ab,ao,rfl,a7,ar⟩:=HA.o (by rw[Ze,HN.o];omega);have hc:=ar k (by rw[Ze,HN.o];exact hlt);rw[Zt,hx,Zw,←(zAU aa).1 _ _ a7]at hc;have ax:=HL.o x (Zj hx);obtain⟨bx,ag⟩:∃bx:ByteArray,⟨x.toArray⟩=bx:=⟨_,rfl⟩;rw[ag]at hc;have aw:=Rw.steps_len _ hs;rw[H0.o,Zn]at aw;have ae:=fun W (e:W=wr)=>Rw.line_any b st st' bx w0 W hL h0 (by rw[e];exact HB.o.trans (aa.mono h0)) (by rw[e];exact hR) (by rw[←ag];show x.toArray.size≤_;simpa using ax) (by omega) (by rw[←ag];exact h1)
   have HX:=hy' h2;have ah:=hy' aa;have a6:(k:Int)<n:=by omega
   clear ar hx hs hR h1 h2 aa ag aw ax;go_wp2_with fail;refine (ae _ rfl).mono ?_;rintro e w2 ⟨rfl,au,az⟩;have ak:=hy' au;have ap:=hy' az;clear au az ae;go_wp2_with fail;exact⟨⟨k+1,by omega,by go_num,st',HX.o,ak.o,ah.o.trans ap.o⟩,by simp[intOf];omega⟩
 obtain rfl:k=n:=by omega
 have ba:¬(k:Int)<k:=by omega
 have ai:st=aj:=by
  rw[Zi (by rw[HN.o];exact Za _),av.o,Zg]at hs;exact hs.symm
 subst ai;have ak:=hy' hR;have ap:=hy' aa;clear hs hR aa;go_wp2_with fail;go_ret2;exact⟨rfl,ak.o,ap.o⟩
def Rw.RetParse (rs:List Rw.Row) (w:World) (e:Ending) (w':World):Prop :=
 ∃A c,e=.returned (.tuple #[.slice A rs.length c,.nilIface])∧Rw.Tab w' A rs∧Below w.heap.size w w'
theorem zLT {s:List UInt8} {rs:List Rw.Row} (h:Rw.parse s=some rs):(zAS [] s).all zCh=true∧(zAS [] s).length≤40000∧∃c,Rw.steps ([],-1,[]) (zAS [] s)=some (rs,c,[]):=by
 unfold Rw.parse at h;split at h
 · rename_i h0;obtain⟨h0,h1⟩:=h0;refine⟨h0,h1,?_⟩;rcases hs:Rw.steps ([],-1,[]) (zAS [] s) with _|⟨aa,c,o⟩
   · rw[hs]at h;cases h
   rw[hs,Zv]at h;split at h
   · rename_i ho;simp only at ho;subst ho;simp only[Zg]at h;subst h;exact⟨c,rfl⟩
   cases h
 cases h
theorem Rw.parse_any (s:ByteArray) (hs:s.size≤1000000) (rs:List Rw.Row) (hp:Rw.parse s.data.toList=some rs) (w:World) (hL:Rw.Laid w) :
 Calls prog 44 #[.string s] w (Rw.RetParse rs w):=by
 obtain⟨ai,ap,cN,ah⟩:=zLT hp;have aj:=zIg s hs ai
 have hl:∀x∈zAS [] s.data.toList,x.length≤1000:=fun x hx=>by
  rw[Yg]at ai;have:=ai x hx;unfold zCh at this;rw[Zr,Zo]at this;exact this.1
 obtain⟨L,aq⟩:∃L,zAS [] s.data.toList=L:=⟨_,rfl⟩;rw[aq]at ah aj ap hl;have ax:=Rw.steps_len _ ah;simp only[ZY,Z4]at ax;have a1:=hy' ah;have ay:=hy' hl;clear ai hp aq ah hl;go_enter func44,ntmps44;go_wp2_with fail;refine (aj _).mono ?_;rintro e w1 ⟨A,c,rfl,hA,ak⟩;have aw:=hL.next ak;have hmx:¬(40000:Int)<(L.length:Int):=by omega
 have ag:=Rw.At.new w1 152 [.slice none 0 0,.int .i32 (-1),.string ⟨#[]⟩]
 have au:=fun W (e:W=w1.alloc (.cells #[.slice none 0 0,.int .i32 (-1),.string ⟨#[]⟩] 152))=>zOS w1.heap.size ([],-1,[]) (rs,cN,[]) L A L.length c w1 W aw (Za _)
  (by rw[e];exact (Zd _ _).alloc (Za _) _) (by rw[e];exact⟨.slice none 0 0,[],ag,ZG _ _ _ _,rfl,fun i r a h=>by simp at h⟩) rfl rfl (by omega) ay.o (by rw[e];exact hA.below ((Zd _ _).alloc (Za _) _) (Za _)) (by rw[e];simp) a1.o
 have ar:=hy' ak;clear hA ak aj ag;go_wp2_with fail;refine (au _ rfl).mono ?_;rintro e w2 ⟨rfl,⟨v,ads,ag,ae,has,aa⟩,av⟩;simp only at ag ae has aa;obtain⟨Av,cv,rfl⟩:=zA3 ae;obtain⟨d1,d2,d3,d4,d5,d6⟩:=ag.three;have ao:=hy' ae;have af:=hy' aa;have az:=hy' av;clear ae aa av au;go_wp2_with fail;go_ret2;exact⟨Av,cv,rfl,⟨ads,has,Slt.of_own ao.o,af.o⟩,ar.o.trans ((((Zd w1.heap.size w1).alloc (Za _) _).trans az.o).mono ar.o.size)⟩
end
end Go.Proofs.YtdbpjmfflofadaaGreatDoor
