/- RowsPlain, plain: rows that say nothing, put between; no program in sight. -/
import Derived.Test.YtjakbblocbicjaaGreatDoorRwPlain
import Derived.Test.YtjakbblocbicjaaGreatDoorChar
import Derived.RangeFuncNested
import Derived.RangeFuncBound
import Derived.OwnWalkIn
import Derived.TacticsInMore
import Derived.LoopNIn
import Derived.LoopIn
set_option maxRecDepth 100000
set_option maxHeartbeats 4000000
set_option linter.unusedVariables false
set_option linter.unusedSimpArgs false
namespace Go.Proofs.YtjakbblocbicjaaGreatDoor
open Go.Proofs.Tryz
section
open Go.RowKit Go.Stop
def zB2 (l:List Rw.Row):List UInt8:=l.flatMap fun r=>Rw.line r++[10]
theorem zFn (a b:List Rw.Row):zB2 (a++b)=zB2 a++zB2 b:=by simp[zB2]
theorem zFo (r:Rw.Row):zB2 [r]=Rw.line r++[10]:=by simp[zB2]
theorem zJ5 (l:List Rw.Row):zB2 l=(l.map Rw.line).flatMap fun x=>x++[10]:=by simp[zB2,J5]
theorem zG1 (r:Rw.Row) (h:Rw.right r):(Rw.line r).length≤1000:=by
 have:=zDP r h;unfold zCa at this;rw[Zw,Zn]at this;exact this.1
theorem zCl:∀(l:List Rw.Row),(∀r∈l,Rw.right r)→(zB2 l).length≤1001*l.length
 | [],_=>by simp[zB2]
 | r::l,h=>by
   have h1:=zG1 r (h r Zu);have h2:=zCl l fun q hq=>h q (Zy _ hq)
   rw[show r::l=[r]++l from rfl,zFn,zFo];simp;omega
def zFp:Int→List Rw.Row→Int
 | c,[]=>c
 | _,r::l=>zFp r.1 l
def zG2 (r:Rw.Row):Prop:=Rw.right r∧(C.isC r.1=true∨Rw.quiet r=true)
theorem Rw.parse_txt (l:List Rw.Row) (h:∀r∈l,zG2 r) (hr:zD7 (-1) l) (hl:l.length≤40000):Rw.parse (zB2 l)=some (l.filter fun r=>!Rw.quiet r):=by
 rw[zJ5];exact zJx l h hr hl
def Rp.cl (k:Int):Int:=1+k%256%254
abbrev Rp.St:=List Rw.Row × List Rw.Row × Int
def Rp.next (st:Rp.St) (r:Rw.Row):Rp.St :=
 if Ch.K r.1≤st.2.2+1 then st else (st.1++[(Ch.K r.1,Rp.cl r.2.1,[])],st.2.1++[(st.2.2+1,0,[]),(Ch.K r.1,Rp.cl r.2.1,[])],Ch.K r.1)
structure Rp.Inv (st:Rp.St) (n:Nat):Prop where
 c0 : -1≤st.2.2
 c1:st.2.2≤1114111
 r1:zD7 (-1) st.1
 r2:zD7 (-1) st.2.1
 l1:zFp (-1) st.1=st.2.2
 l2:zFp (-1) st.2.1=st.2.2
 f1:∀r∈st.1,zG2 r
 f2:∀r∈st.2.1,zG2 r
 g1:st.1.filter (fun r=>!Rw.quiet r)=st.1
 g2:st.2.1.filter (fun r=>!Rw.quiet r)=st.1
 n1:st.1.length≤n
 n2:st.2.1.length≤2*n
def Rp.lit:List UInt8:=[48,48,67,53,59,88,59,76,117,59,48,59,76,59,48,48,52,49,32,48,51,48,65,59,59,59,59,78,59,59,59,59,48,48,69,53,59]
end
section
open Go.RowKit
theorem Bd.size:(prog.info? 150).map (·.size)=some 2:=by kernel_rfl
theorem zSb:liesAt prog prog.depth 150 (2/prog.cellsOf 150) 0 150 1=true:=by kernel_rfl
theorem zNS:(prog.info? 5).map (fun i=>(i.zero,i.size,i.bytes))=some (some (.int .u8 0),1,1):=by kernel_rfl
theorem zLa (b:Nat) (w:World) (h0:w.cell? ⟨b,0,none⟩=some (.pointer (some ⟨b,0,none⟩))) :
 Calls prog 132 #[.pointer (some ⟨b,0,none⟩)] w fun e w'=>e=.returned (.tuple #[])∧w'=w:=by
 obtain⟨j,hj,_⟩:=Option.map_eq_some_iff.1 Bd.size;go_enter func132,ntmps132;go_wp2;rw[Lib.run_neq_ptr_same w _ underlying148 hj];go_wp2;go_end0;exact⟨rfl,rfl⟩
theorem zJy (b:Nat) (w:World) (h0:w.cell? ⟨b,0,none⟩=some (.pointer none)) (aa:w.shape? b=some (150,2)) (af:w.frozen? ⟨b,0,none⟩=false) :
 Calls prog 132 #[.pointer (some ⟨b,0,none⟩)] w fun e w'=>e=.returned (.tuple #[])∧w'=w.setCell ⟨b,0,none⟩ (.pointer (some ⟨b,0,none⟩)):=by
 obtain⟨j,hj,ae⟩:=Option.map_eq_some_iff.1 Bd.size;go_enter func132,ntmps132;go_wp2;rw[Lib.run_to_unsafe w ⟨b,0,none⟩ underlying148 underlying251 hj (by rw[ae];decide) aa (Nat.zero_lt_succ 1)];simp only[Result.andThen];rw[QA];go_wp2;rw[JF func161 (by kernel_rfl) (by kernel_rfl) (by kernel_rfl) (e:=Extern.AbiNoEscape.same) (by kernel_rfl)];rw[Lib.run_noEscape];simp only[Result.andThen];rw[QA];go_wp2;rw[Lib.run_from_unsafe w ⟨b,0,none⟩ underlying251 underlying148 hj aa zSb];simp only[Result.andThen];rw[QA];go_wp2;go_end0;exact⟨rfl,rfl⟩
end
section
open Go.RowKit Go.Stop
def Ex.line (seen:List Int) (l:List UInt8):Option (List Int) :=
 if zBv l=[] then some seen else (zAF (zBv l)).bind fun c=>if C.isC c=true∧c∉seen then some (seen++[c]) else none
def Ex.steps:List Int→List (List UInt8)→Option (List Int)
 | seen,[]=>some seen
 | seen,l::r=>(Ex.line seen l).bind fun s=>Ex.steps s r
def Ex.parse (s:List UInt8):Option (List Int):=if (zAN [] s).all zCa=true∧(zAN [] s).length≤100000 then Ex.steps [] (zAN [] s) else none
theorem Ex.steps_app:∀(a b:List (List UInt8)) (s:List Int),Ex.steps s (a++b)=(Ex.steps s a).bind fun s'=>Ex.steps s' b
 | [],b,s=>rfl
 | l::a,b,s=>by
   rw[Zx,Ex.steps,Ex.steps];rcases Ex.line s l with _|s'
   · rfl
   exact Ex.steps_app a b s'
theorem Ex.steps_take {s0 sf s:List Int} {L:List (List UInt8)} {k:Nat} {x:List UInt8} (h:Ex.steps s0 L=some sf) (hx:L[k]?=some x) (hs:Ex.steps s0 (L.take k)=some s) :
 ∃s',Ex.line s x=some s'∧Ex.steps s0 (L.take (k+1))=some s':=by
 have hk:=(List.getElem?_eq_some_iff.1 hx).1
 have e:L.take k++x::L.drop (k+1)=L:=by
  have:=ZI k L;rw[ZR hk]at this;rw[Zb hk,Zg]at hx;rw[hx]at this;exact this
 rw[←e,Ex.steps_app,hs,ZC,Ex.steps]at h;rcases hst:Ex.line s x with _|s'
 · rw[hst]at h;cases h
 refine⟨s',rfl,?_⟩;rw[ZA,hx,Ex.steps_app,hs];show Ex.steps s [x]=some s';rw[Ex.steps,hst];rfl
theorem zHK {s s':List Int} {l:List UInt8} (h:Ex.line s l=some s'):(zBv l=[]∧s'=s)∨∃c,zBv l≠[]∧zAF (zBv l)=some c∧C.isC c=true∧c∉s∧s'=s++[c]:=by
 unfold Ex.line at h;split at h
 · rename_i h0;simp only[Zg]at h;exact .inl ⟨h0,h.symm⟩
 rename_i h0;rcases hc:zAF (zBv l) with _|c
 · rw[hc]at h;cases h
 rw[hc,ZC]at h;split at h
 · rename_i h1;simp only[Zg]at h;exact .inr ⟨c,h0,rfl,h1.1,h1.2,h.symm⟩
 cases h
theorem Ex.steps_len:∀(L:List (List UInt8)) {s s':List Int},Ex.steps s L=some s'→s'.length≤s.length+L.length
 | [],s,s',h=>by
   rw[Ex.steps,Zg]at h;subst h;simp
 | x::L,s,s',h=>by
   rw[Ex.steps]at h;rcases hs:Ex.line s x with _|q
   · rw[hs]at h;cases h
   rw[hs,ZC]at h;have h2:=Ex.steps_len L h;rcases zHK hs with ⟨_,rfl⟩|⟨c,_,_,_,_,rfl⟩
   · simp;omega
   simp at h2 ⊢;omega
theorem zNT (a:List UInt8) (h:(35:UInt8)∉a):(Lib.cut a [35]).1=a:=by
 have:=zNO 35 a;rw[zCi 35 a h,Kf,Zg]at this;exact this.symm
theorem zNU (i:Nat) (t:List UInt8) (x y:UInt8) (m:List UInt8) (ht:t=x::m) (hx:x≠32) (hy:t.getLast?=some y) (aa:y≠32):∀j,Lib.trimB (List.replicate i 32++(t++List.replicate j 32)) 32=t:=by
 intro j;rw[zER]
 have h1:Lib.trimLeftB (List.replicate i 32++(t++List.replicate j 32)) 32=t++List.replicate j 32:=by
  unfold Lib.trimLeftB
  induction i with
  | zero=>rw[ht];simp[YC,hx]
  | succ i ih=>rw[List.replicate_succ,List.cons_append,List.dropWhile_cons];simpa using ih
 rw[h1]
 induction j with
 | zero =>
   rcases YW t with h|⟨q,z,h⟩
   · rw[h]at hy;cases hy
   rw[YX]at h;rw[h,Qt]at hy;simp at hy;subst hy;rw[JD,Z3,h];exact zL6 32 q z aa
 | succ j ih =>
   rw[List.replicate_succ',←ZD,zL5]
   exact ih (by
    unfold Lib.trimLeftB;clear h1 ih
    induction i with
    | zero=>rw[ht];simp[YC,hx]
    | succ i ih=>rw[List.replicate_succ,List.cons_append,List.dropWhile_cons];simpa using ih)
theorem zMu (n:Nat):∃x m y,Fi.text n=x::m∧x≠32∧(Fi.text n).getLast?=some y∧y≠32:=by
 rcases h:Fi.text n with _|⟨x,m⟩
 · exact absurd h (zH9 n)
 have hb:=zCb n;rw[h]at hb;obtain⟨y,hy⟩:∃y,(x::m).getLast?=some y:=⟨_,List.getLast?_eq_some_getLast (by simp)⟩;refine⟨x,m,y,rfl,?_,hy,?_⟩
 · rintro rfl;have:=(hb 32 Zu).1;exact absurd this (by decide)
 rintro rfl;have:=(hb 32 (Qu hy)).1;exact absurd this (by decide)
theorem zMv (n:Nat):(35:UInt8)∉Fi.text n:=zFm n 35 (.inl (by decide))
def Ex.ln (p:List UInt8) (i:Nat) (c:Int):List UInt8:=(if i%2=0 then [32,32] else [])++(Fi.text c.toNat++([32,32,35]++p))
def Ex.body (p:List UInt8):Nat→List Int→List (List UInt8)
 | _,[]=>[]
 | i,c::r=>Ex.ln p i c::[32,32,32]::Ex.body p (i+1) r
def Ex.all (p:List UInt8) (l:List Int):List (List UInt8):=([35,32]++p)::[]::Ex.body p 0 l
theorem zRy {x:List UInt8} (h1:x.length≤1000) (h2:∀b∈x,32≤b.toNat∧b.toNat≤126):zCa x=true:=by
 unfold zCa zC9;rw[Zw,Zn,Yj];refine⟨h1,fun b hb=>?_⟩;rw[Zw,Zn,Zn];exact h2 b hb
theorem zOG {x:List UInt8} (h:zCa x=true):(10:UInt8)∉x:=fun hm=>by
 unfold zCa zC9 at h;rw[Zw,Yj]at h;exact absurd (h.2 10 hm) (by decide)
end
section
open Go.RowKit
def zI9 {β:Type} (B b:Nat) (I:β→World→Prop):Prop :=
 ∀s W W' row,I s W→W.grownBy W' row→(∀r,row=some r→r=b∨(B≤r∧∃o:Obj,W.heap[r]?=some o∧o.isCells=false))→I s W'
def zQP {β:Type} (b:Nat) (J:β→World→Prop):Prop:=∀s W W' row,J s W→W.grownBy W' row→(∀r,row=some r→r=b)→J s W'
def R.Kept (ks:List Nat) (W W':World):Prop:=∀k∈ks,∀o,W.heap[k]?=some o→W'.heap[k]?=some o
def zSc {α:Type} (n:Nat) (P:Program) (g:Nat) (lb:Array Value) (encs:α→Array Value) (b:Nat) (ks:List Nat) (S Sp:List α→Prop) (N:Nat) (W:World):Prop :=
 ∀(l:Nat) (J Jx:List α→World→Prop),zQP b J→zQP b Jx →
  (∀pre x W1,J pre W1→pre.length<N→Sp (pre++[x])→YieldAt Fence.wide (n-1) P l (encs x) W1 fun e W' =>
    (e=.returned (.bool true)∧J (pre++[x]) W'∧R.Kept ks W1 W')∨(e=.returned (.bool false)∧Jx (pre++[x]) W')) →
  J [] W →
  CallsIn Fence.wide n P g (#[.func (.yield l) #[] #[]]++lb) W fun e W'=>(∃v,e=.returned v)∧((∃xs,S xs∧J xs W')∨(∃pre,Sp pre∧Jx pre W'))
def zSN {α:Type} (B:Nat) (ks:List Nat) (I:List α→World→Prop) (Ix:Code→List α→World→Prop) (xs:List α) (W:World):Exit→Act→World→Prop
 | .normal,_,W'=>KeepsFrom B W W'∧R.Kept ks W W'∧I xs W'
 | .ret,_,W'=>KeepsFrom B W W'∧Ix .ret xs W'
 | .exit id,_,W'=>KeepsFrom B W W'∧Ix (.exit id) xs W'
 | .goto t,_,W'=>KeepsFrom B W W'∧Ix (.goto t) xs W'
 | .panic _,_,_=>False
 | .outgrown,_,_=>False
theorem zFH {β:Type} {B b:Nat} {I:β→World→Prop} (h:zI9 B b I) {s:β} {W:World} (o:Obj) (hs:I s W):I s (W.alloc o) :=
 h s W _ none hs (Yl W o none) (fun r e=>by cases e)
theorem zBK {β:Type} {B b:Nat} {I:β→World→Prop} (h:zI9 B b I) {s:β} {W:World} {l:Nat} {o:Obj} (o':Obj) (hs:I s W) (hB:B≤l) (hl:W.heap[l]?=some o) (ho:o.isCells=false):I s (W.putObj l o') :=
 h s W _ (some l) hs (grownBy_putObj' W l o') (fun r e=>by cases e;exact .inr ⟨hB,o,hl,ho⟩)
theorem zDo {b k:Nat} {W W':World} {row:Option Nat} {o:Obj} (hg:W.grownBy W' row) (hr:∀r,row=some r→r=b) (hk:W.heap[k]?=some o) (hne:k≠b):W'.heap[k]?=some o :=
 (hg.block k (Array.getElem?_eq_some_iff.1 hk).1 (fun e=>hne (hr k e.symm))).trans hk
theorem R.range {α:Type} {n:Nat} {P:Program} {g:Operand} {ps:Array Tmp} {assign body:Code} {Q:Exit→Act→World→Prop} {a:Act} {w:World} (h1:1≤n)
 {gf:Nat} {lb:Array Value} (hg:a.eval g=.func (.func gf) #[] lb) (eg:∀args w,(callFunc gf args).run P w=.ok (.enter gf args) w)
 {encs:α→Array Value} {b:Nat} (hb:b<w.heap.size) {ks:List Nat} (aq:∀k∈ks,k<w.heap.size) {S Sp:List α→Prop} {N:Nat} (ay:∀W,Below w.heap.size w W→zSc (n-1) P gf lb encs b ks S Sp N W) (bc:∀x,(encs x).size=ps.size)
 (I:List α→World→Prop) (Ix:Code→List α→World→Prop) (hI:zI9 w.heap.size b I) (ak:∀c,zI9 w.heap.size b (Ix c)) (h0:I [] w) (a₁:α→Act)
 (ae:∀(l:Nat) (x:α) (W:World) (K:Act→World→Prop),K (a₁ x) W →
   assign.wpIn (Fence.wide.inRound l) (n-1-1) P (Exit.then K (fun _ _ _=>False)) { tmps:=(ps.zip (encs x)).foldl (fun t (p,v)=>t.setIfInBounds p v) a.tmps,defers:=[] } W)
 (ag:∀(l:Nat) (pre:List α) (x:α) (W:World),I pre W→pre.length<N→Sp (pre++[x])→body.wpIn (Fence.wide.inRound l) (n-1-1) P (zSN w.heap.size ks I Ix (pre++[x]) W) (a₁ x) W)
 (ah:∀(D:Nat) (xs:List α) (W:World),w.heap.size≤D→S xs→I xs W→W.heap[D]?=some (.deferred (some []))→Q .normal { a with defers:={ target:=.collected D,args := #[] }::a.defers } W)
 (ai:∀(D:Nat) (c:Code) (pre:List α) (W:World),w.heap.size≤D→Sp pre→Ix c pre W→W.heap[D]?=some (.deferred (some []))→c.wpIn Fence.wide n P Q { a with defers:={ target:=.collected D,args := #[] }::a.defers } W) :
 (Code.rangeFunc g ps assign body).wpIn Fence.wide n P Q a w:=by
 refine wpIn_rangeFunc fun fn a6=>?_
 show ∃(l:Nat) (mark:List Deferred) (w₁:World) (d:Deferred) (bf:World) (f:FuncId) (args:Array Value) (w₂:World),_
 let rec':LoopState→Option Code→Loop:=fun st pe=>{ state:=st,pending:=pe,fn,tmps:=a.tmps,params:=ps,assign,body,defers:=w.heap.size }
 obtain⟨D,hD⟩:∃D,w.heap.size=D:=⟨_,rfl⟩;obtain⟨lr,af⟩:∃lr,lr=rec':=⟨_,rfl⟩;obtain⟨V,hV⟩:∃V,(w.alloc (.deferred (some []))).alloc (.loop (lr .ready none))=V:=⟨_,rfl⟩
 have av:V.heap[D+1]?=some (.loop (lr .ready none)):=by
  have h:=World.alloc_heap_new (w.alloc (.deferred (some []))) (.loop (lr .ready none));rw[ZJ,hV,hD]at h;exact h
 have ax:V.heap[D]?=some (.deferred (some [])):=by
  rw[←hV,←hD];exact (QU _ _ _ (by simp)).trans (World.alloc_heap_new w _)
 have inv1:I [] V:=by
  rw[←hV];exact zFH hI _ (zFH hI _ h0)
 have ar:Below w.heap.size w V:=by
  rw[←hV];exact ((Zc _ w).alloc (Za _) _).alloc (by simp) _
 rw[hD]at hI ak hb aq ag ah ai;refine⟨D+1,[{ target:=.collected D,args := #[] }],V,{ target:=.fn (.func gf) lb,args := #[.func (.yield (D+1)) #[] #[]] },V,gf,#[.func (.yield (D+1)) #[] #[]]++lb,V,?_,?_,?_,?_,fun _=>h1,?_⟩
 · rw[←hV,←hD,af];exact run_enterLoop_outer _ _ _ _ _
 · simp only[resolve,hg];simp[go_sem]
 · intro f' az;simp[Target.leads]at az;subst az;exact trivial
 · simp[invoke,go_sem,eg]
 have bd:D≠b:=by omega
 have a1:D+1≠b:=by omega
 refine ((ay V ar) (D+1)
  (fun pre W=>I pre W∧W.heap[D+1]?=some (.loop (lr .ready none))∧W.heap[D]?=some (.deferred (some [])))
  (fun pre W=>∃c,Ix c pre W∧W.heap[D+1]?=some (.loop (lr .done (some c)))∧W.heap[D]?=some (.deferred (some [])))
  (fun s X Y row hs aj hr=>⟨hI s X Y row hs.1 aj (fun r e=>.inl (hr r e)),zDo aj hr hs.2.1 a1,zDo aj hr hs.2.2 bd⟩)
  (fun s X Y row hs aj hr=>by
    obtain⟨c,i0,i1,i2⟩:=hs;exact⟨c,ak c s X Y row i0 aj (fun r e=>.inl (hr r e)),zDo aj hr i1 a1,zDo aj hr i2 bd⟩)
  ?_ ⟨inv1,av,ax⟩).mono ?_
 rotate_left
 · rintro e X ⟨⟨v,rfl⟩,(⟨xs,hS,hi,aa,ao⟩|⟨pre,bb,c,hi,aa,ao⟩)⟩
   · have h:=run_endLoop (P:=P) aa (by rw[af];simp[rec']);rw[af]at h;exact⟨none,_,h,ah D xs _ (Za _) hS (zBK hI _ hi (by omega) aa rfl) ((World.putObj_heap_other (by omega)).trans ao)⟩
   have h:=run_endLoop (P:=P) aa (by rw[af];simp[rec']);rw[af]at h;exact⟨some c,_,h,ai D c pre _ (Za _) bb (zBK (ak c) _ hi (by omega) aa rfl) ((World.putObj_heap_other (by omega)).trans ao)⟩
 rintro pre x W ⟨hi,aa,ao⟩ hlen a7;have ba:D+1<W.heap.size:=(Array.getElem?_eq_some_iff.1 aa).1;have hy:=run_yield (P:=P) (args:=encs x) aa (by rw[af];exact bc x);rw[af]at hy;refine⟨fn,_,assign,body,hy,roundIn_of_wpIn a6 (ae _ x W _ ⟨_,run_beginRound aa (by rw[af]),?_⟩)⟩;obtain⟨U,hU⟩:∃U,W.putObj (D+1) (.loop { lr .ready none with state:=.busy })=U:=⟨_,rfl⟩;have aw:U.heap[D+1]?=some (.loop { lr .ready none with state:=.busy }):=by rw[←hU];exact World.putObj_heap_same ba
 have au:U.heap[D]?=some (.deferred (some [])):=by rw[←hU];exact (World.putObj_heap_other (by omega)).trans ao
 have ap:R.Kept ks W U:=by rw[←hU];exact fun k hk o ho=>(World.putObj_heap_other (by have:=aq k hk;omega)).trans ho
 have inv2:I pre U:=by rw[←hU];exact zBK hI _ hi (by omega) aa rfl
 have fin:∀(jump:Option Code) (X:World),KeepsFrom D U X →
  (Instr.endRound (D+1) jump).run P X=.ok (.bool jump.isNone) (X.putObj (D+1) (.loop (lr (if jump.isNone then .ready else .done) jump))) ∧
  X.heap[D+1]?=some (.loop { lr .ready none with state:=.busy }) ∧
  (X.putObj (D+1) (.loop (lr (if jump.isNone then .ready else .done) jump))).heap[D+1]?=some (.loop (lr (if jump.isNone then .ready else .done) jump)) ∧
  (X.putObj (D+1) (.loop (lr (if jump.isNone then .ready else .done) jump))).heap[D]?=some (.deferred (some [])):=by
  intro jump X hX;have r3:=hX.same (D+1) _ (by omega) aw rfl;have d3:=hX.same D _ (by omega) au rfl;have he:=run_endRound (P:=P) jump r3;rw[af]at he r3 ⊢;exact⟨he,r3,World.putObj_heap_same (Array.getElem?_eq_some_iff.1 r3).1,(World.putObj_heap_other (by omega)).trans d3⟩
 have goal:=ag (D+1) pre x U inv2 hlen a7;rw[←hU]at goal;refine wpIn_mono goal ?_;rw[hU];rintro e a3 X hp;cases e with
 | normal =>
   obtain⟨k3,a8,i3⟩:=hp;obtain⟨e1,e2,e3,e4⟩:=fin none X k3;exact⟨_,_,e1,.inl ⟨rfl,⟨zBK hI _ i3 (by omega) e2 rfl,e3,e4⟩,fun k hk o ho=>(World.putObj_heap_other (by have:=aq k hk;omega)).trans (a8 k hk o (ap k hk o ho))⟩⟩
 | ret =>
   obtain⟨k3,i3⟩:=hp;obtain⟨e1,e2,e3,e4⟩:=fin (some .ret) X k3;exact⟨_,_,e1,.inr ⟨rfl,.ret,zBK (ak _) _ i3 (by omega) e2 rfl,e3,e4⟩⟩
 | exit id =>
   obtain⟨k3,i3⟩:=hp;obtain⟨e1,e2,e3,e4⟩:=fin (some (.exit id)) X k3;exact⟨_,_,e1,.inr ⟨rfl,.exit id,zBK (ak _) _ i3 (by omega) e2 rfl,e3,e4⟩⟩
 | goto t =>
   obtain⟨k3,i3⟩:=hp;obtain⟨e1,e2,e3,e4⟩:=fin (some (.goto t)) X k3;exact⟨_,_,e1,.inr ⟨rfl,.goto t,zBK (ak _) _ i3 (by omega) e2 rfl,e3,e4⟩⟩
 | panic ch=>exact hp.elim
 | outgrown=>exact hp.elim
theorem zC3 {W W':World} {row:Option Nat} {B b D:Nat} {t:TypeId} {v:Value} (h:Boxed W B t v) (hg:W.grownBy W' row)
 (hr:∀r,row=some r→r=b∨(D≤r∧∃o:Obj,W.heap[r]?=some o∧o.isCells=false)) (hne:B≠b):Boxed W' B t v:=by
 refine h.kept hg fun e=>?_
 rcases hr B e.symm with h1|⟨_,o,ho,hc⟩
 · exact hne h1
 rw[show W.heap[B]?=_ from h]at ho;cases ho
 cases hc
theorem zKn {W W':World} {row:Option Nat} {b D base:Nat} {e:TypeId} {size:Nat} {v:Value} {k:Nat} {xs:List Value} (h:W.ownsRow base e size v k xs) (hg:W.grownBy W' row)
 (hr:∀r,row=some r→r=b∨(D≤r∧∃o:Obj,W.heap[r]?=some o∧o.isCells=false)) (hb:b<base):W'.ownsRow base e size v k xs:=by
 refine h.kept hg ?_;rcases h.2 with ⟨rfl,_⟩|⟨g,cap,aa,rfl,ae,hh,_⟩
 · exact .inl rfl
 refine .inr fun e'=>?_
 rcases hr g (by simpa [Value.ownBlock] using e'.symm) with h1|⟨_,o,ho,hc⟩
 · omega
 rw[hh]at ho;cases ho
 cases hc
theorem zEU {n₀:Nat} {w W W':World} {row:Option Nat} {b D:Nat} (h:Below n₀ w W) (hs:n₀≤W.heap.size) (hg:W.grownBy W' row)
 (hr:∀r,row=some r→r=b∨(D≤r∧∃o:Obj,W.heap[r]?=some o∧o.isCells=false)) (h1:n₀≤b) (h2:n₀≤D):Below n₀ w W' :=
 h.grown hg hs fun k e=>by rcases hr k e with h3|⟨h3,_⟩ <;> omega
theorem zFq {W:World} {base aa:Nat} {e:TypeId} {size:Nat} {v:Value} {k:Nat} {xs:List Value} (h:W.ownsRow base e size v k xs) (hb:aa≤base):W.ownsRow aa e size v k xs:=by
 obtain⟨h1,h2⟩:=h;refine⟨h1,?_⟩;rcases h2 with h2|⟨g,cap,ae,hv,hg,r⟩
 · exact .inl h2
 exact .inr ⟨g,cap,ae,hv,by omega,r⟩
theorem R.Kept.trans {ks:List Nat} {A B C:World} (h:R.Kept ks A B) (h':R.Kept ks B C):R.Kept ks A C:=fun k hk o ho=>h' k hk o (h k hk o ho)
theorem zPF {ks:List Nat} {W:World} {B:Nat} (h:∀k∈ks,k≠B) (v:Value):R.Kept ks W (W.setCell ⟨B,0,none⟩ v):=fun k hk o ho=>(Yq _ _ _ k (fun e=>h k hk e)).trans ho
theorem R.appended {W w1:World} {D B n₀:Nat} {t e:TypeId} {size:Nat} {v v':Value} {k m:Nat} {xs ys:List Value} {tmp:Obj} {ks:List Nat}
 (hv:Boxed W B t v) (ag:t≠e) (af:W.ownsRow D e size v k xs) (aj:D≤W.heap.size) (hn:n₀≤B) (ap:B<D) (ah:∀q∈ks,q<D∧q≠B)
 (aa:w1.ownsRow D e size v' m ys) (ae:(W.alloc tmp).grownBy w1 v.ownBlock) :
 Boxed w1 B t v∧Boxed (w1.setCell ⟨B,0,none⟩ v') B t v'∧(w1.setCell ⟨B,0,none⟩ v').ownsRow D e size v' m ys∧KeepsFrom D W (w1.setCell ⟨B,0,none⟩ v')∧R.Kept ks W (w1.setCell ⟨B,0,none⟩ v')∧Below n₀ W (w1.setCell ⟨B,0,none⟩ v') ∧
  (∀B' t' u,B'≠B→B'<D→Boxed W B' t' u→Boxed (w1.setCell ⟨B,0,none⟩ v') B' t' u):=by
 obtain⟨a1,a2,_,a4,a5⟩:=hv.appended ag (zFq af (show n₀≤D by omega)) (by omega) hn (zFq aa (show n₀≤D by omega)) ae
 have low:∀q,q<D→∀o,W.heap[q]?=some o→w1.heap[q]?=some o:=fun q hq o ho=>by
  have h1:(W.alloc tmp).heap[q]?=some o:=(QU _ _ _ (by omega)).trans ho;refine (ae.block q (Array.getElem?_eq_some_iff.1 h1).1 fun e=>?_).trans h1;rcases af.2 with ⟨rfl,_⟩|⟨g,cap,ak,rfl,ao,_⟩
  · simp[Value.ownBlock]at e
  have:q=g:=by simpa [Value.ownBlock] using e
  omega
 refine⟨a1,a2,aa.kept (grownBy_setCell' w1 B v') (.inr (a1.not_row ag aa).symm),a4.from _,?_,a5,?_⟩
 · exact fun q hq o ho=>(zPF (ks:=ks) (fun k hk=>(ah k hk).2) v') q hq o (low q (ah q hq).1 o ho)
 exact fun B' t' u hne ai hb=>Boxed.other (show Boxed w1 B' t' u from low B' ai _ hb) hne v'
#print axioms R.range
attribute [local go_sem] Oper.semAt_some
def zEi (l:List (List UInt8)):List ByteArray:=l.map fun x=>⟨x.toArray⟩
def Q.left (b:Nat) (W:World):Nat:=match W.cell? ⟨b,0,none⟩ with|some (.string r)=>r.size|_=>0
theorem zDQ {W:World} {b:Nat} {t:TypeId} {r:ByteArray} (h:Boxed W b t (.string r)):Q.left b W=r.size:=by unfold Q.left;rw[h.cell]
theorem Q.kept {b:Nat} {ks:List Nat} {W W':World} (h:R.Kept ks W W') {t:TypeId} {v:Value} (hb:Boxed W b t v) (hm:b∈ks):Boxed W' b t v:=h b hm _ hb
theorem zNV {r:ByteArray} {i:Nat} (h:Lib.indexByte r.data.toList 32=i):zEi (zAi 32 [] r.data.toList)=r.extract 0 i::zEi (zAi 32 [] (r.extract (i+1) r.size).data.toList):=by
 obtain⟨h1,h2⟩:=zCk 32 _ i h;have hd:(r.extract (i+1) r.size).data.toList=r.data.toList.drop (i+1):=by rw[Lib.extract_data,Zi (by simp)]
 have ht:(r.extract 0 i).data.toList=r.data.toList.take i:=by rw[Lib.extract_data];simp
 rw[hd]
 conv=>lhs;rw[h1]
 rw[zBB 32 _ _ h2];unfold zEi;rw[ZV,←ht,Lib.mk_data]
theorem zMw {r:ByteArray} (h:Lib.indexByte r.data.toList 32 = -1):zEi (zAi 32 [] r.data.toList)=[r]:=by
 rw[zCi 32 _ (zCj 32 _ h)];unfold zEi;rw[XD,Lib.mk_data]
theorem Q.idx_lt {r:ByteArray} {i:Nat} (h:Lib.indexByte r.data.toList 32=i):i<r.size:=by
 obtain⟨h1,_⟩:=zCk 32 _ i h;have:=Z6 List.length h1;have hl:r.data.toList.length=r.size:=by simp
 rw[Zd,ZB,Zr,ZN,hl]at this;omega
theorem zNW (s:ByteArray) (hs:s.size≤1000000) (n b:Nat) (hn:1≤n) (W:World) (h0:Boxed W b 9 (.string s)) (h1:Boxed W (b+1) 9 (.string ⟨#[32]⟩)) (h2:Boxed W (b+2) 3 (.int .i64 0)) :
 zSc n prog 280 #[.pointer (some ⟨b+1,0,none⟩),.pointer (some ⟨b,0,none⟩),.pointer (some ⟨b+2,0,none⟩)] (fun x:ByteArray => #[Value.string x]) b [b,b+1,b+2]
  (fun xs=>xs=zEi (zAi 32 [] s.data.toList)) (fun pre=>pre <+: zEi (zAi 32 [] s.data.toList)) (zEi (zAi 32 [] s.data.toList)).length W:=fun l J Jx hJ ap hY hj0=>by
 obtain⟨L,hL⟩:∃L,zEi (zAi 32 [] s.data.toList)=L:=⟨_,rfl⟩;rw[hL]at hY ⊢;have c1:=h1.cell;refine callsIn_of_wp func280 rfl trivial ?_ rfl;simp only[ntmps280,Qg,ZB,ZY,Nat.reduceAdd,Nat.reduceSub,XP,XQ,Qh,XX,ZK,Zx]
 gi_wp2
 gi_loopw [7] (fun _ wr=>∃(pre:List ByteArray) (r:ByteArray),L=pre++zEi (zAi 32 [] r.data.toList)∧Boxed wr b 9 (.string r)∧Boxed wr (b+1) 9 (.string ⟨#[32]⟩)∧Boxed wr (b+2) 3 (.int .i64 0)∧J pre wr∧r.size≤s.size)
  (fun _ wr=>Q.left b wr)
 case atStart=>exact⟨[],s,hL.symm,h0,h1,h2,hj0,Za _⟩
 obtain⟨pre,r,aa,b0,b1,b2,ah,ak⟩:=hrel;have d0:=b0.cell;have d1:=b1.cell;have d2:=b2.cell
 by_cases hidx:Lib.indexByte r.data.toList 32 = -1
 · rw[zMw hidx]at aa;obtain⟨fn,tmps,assign,body,hy,hR⟩:=hY pre r wr ah (by rw[aa];simp) (by rw[aa];exact Qq _)
   gi_wp2_with (refine⟨trivial,?_⟩;gi_at_call 245;refine (callsIn_wide.2 (Tryz.strings_Index_one r 32 _)).mono ?_;rintro e w1 ⟨rfl,rfl⟩;rw[hidx])
   refine hR.mono ?_;rintro e W3 (⟨rfl,ag,af⟩|⟨rfl,ae⟩)
   · gi_wp2
     go_end0;exact⟨⟨_,rfl⟩,.inl ⟨pre++[r],aa.symm,ag⟩⟩
   gi_wp2
   go_end0;exact⟨⟨_,rfl⟩,.inr ⟨pre++[r],by rw[aa];exact Qq _,ae⟩⟩
 have hge:=Lib.indexByte_ge r.data.toList 32;obtain⟨i,hi⟩:∃i:Nat,Lib.indexByte r.data.toList 32=i:=⟨(Lib.indexByte r.data.toList 32).toNat,by omega⟩;have ao:=Q.idx_lt hi;rw[zNV hi]at aa;obtain⟨x,hx⟩:∃x,r.extract 0 i=x:=⟨_,rfl⟩;obtain⟨z,hz⟩:∃z,r.extract (i+1) r.size=z:=⟨_,rfl⟩;rw[hx,hz]at aa;have aj:z.size=r.size-(i+1):=by rw[←hz,Jc];omega
 have i0:¬(i:Int)<0:=by omega
 have i1:(0:Int)≤(i:Int):=by omega
 have i2:(i:Int)≤r.size:=by omega
 have i3:(0:Int)≤(i:Int)+1:=by omega
 have i4:(i:Int)+1≤r.size:=by omega
 obtain⟨fn,tmps,assign,body,hy,hR⟩:=hY pre x wr ah (by rw[aa];simp) ⟨_,by rw[aa,ZD];rfl⟩;have HI:=hy' hi;have HP:=hy' aa;clear hi hidx aa hge
 gi_wp2_with (refine⟨trivial,?_⟩;gi_at_call 245;refine (callsIn_wide.2 (Tryz.strings_Index_one r 32 _)).mono ?_;rintro e w1 ⟨rfl,rfl⟩;rw[HI.o])
 refine hR.mono ?_;rintro e W3 (⟨rfl,ag,af⟩|⟨rfl,ae⟩)
 · have k0:=Q.kept af b0 (by simp);have k1:=Q.kept af b1 (by simp);have k2:=Q.kept af b2 (by simp);have e0:=k0.cell;have e1:=k1.cell;have e2:=k2.cell;have f0:=k0.frozen;have ai:=hy' ag;clear af ag
   gi_wp2
   go_roundw
   case rel=>exact⟨pre++[x],z,by rw[HP.o];simp,k0.set _,k1.other (by omega) _,k2.other (by omega) _,hJ _ _ _ _ ai.o (grownBy_setCell' W3 b (.string z)) (fun q e=>by cases e;rfl),by omega⟩
   rw[zDQ (k0.set _),zDQ b0];omega
 gi_wp2
 refine YH (QE rfl _ _ _) rfl ?_;exact⟨⟨_,rfl⟩,.inr ⟨pre++[x],⟨_,by rw[HP.o,ZD];rfl⟩,ae⟩⟩
attribute [local go_sem] Oper.semAt_some
def zDp:List UInt8→List UInt8→List (List UInt8)
 | w,[]=>if w=[] then [] else [w]
 | w,b::r=>if b=10 then (w++[10])::zDp [] r else zDp (w++[b]) r
def zDq (x:List UInt8):List UInt8:=if x.getLast?=some 10 then x.dropLast else x
theorem zHa:∀(a w r:List UInt8),(10:UInt8)∉a→zDp w (a++r)=zDp (w++a) r
 | [],w,r,_=>by simp
 | b::a,w,r,h=>by
   have hb:b≠10:=fun e=>h (by rw[e];exact Zu)
   rw[Zx,zDp,Zk hb,zHa a _ r (fun h'=>h (Zy _ h')),ZD];rfl
theorem zEj:∀(l w:List UInt8),(10:UInt8)∉w→(zDp w l).map zDq=zAN w l
 | [],w,h=>by
   unfold zDp zAN;split
   · rfl
   rw[XD];unfold zDq;rw[Zk];intro hl;exact h (Qu hl)
 | b::r,w,h=>by
   unfold zDp zAN;split
   · rw[ZV,zEj r [] (by simp)];congr 1;unfold zDq;simp
   rename_i hb
   exact zEj r _ fun hm=>by
    rcases List.mem_append.1 hm with h1|h1
    · exact h h1
    rw[Zt]at h1;exact hb h1.symm
def zB0 (s:ByteArray):List ByteArray:=(zDp [] s.data.toList).map fun x=>⟨x.toArray⟩
theorem zNX {r:ByteArray} {i:Nat} (h:Lib.indexByte r.data.toList 10=i):zB0 r=r.extract 0 (i+1)::zB0 (r.extract (i+1) r.size):=by
 obtain⟨h1,h2⟩:=zCk 10 _ i h;have hd:(r.extract (i+1) r.size).data.toList=r.data.toList.drop (i+1):=by rw[Lib.extract_data,Zi (by simp)]
 have hl:i<r.data.toList.length:=by
  have:=Z6 List.length h1;rw[Zd,ZB,Zr,ZN]at this;omega
 have hg:r.data.toList[i]=10:=by
  have e:=Z6 (·[i]?) h1;simp only[Zb hl]at e;rw[ZH (by rw[Zr];omega),Zr,Ka (by omega),Ym]at e;simpa using e
 have ht:(r.extract 0 (i+1)).data.toList=r.data.toList.take i++[10]:=by
  rw[Lib.extract_data,Qa,J0,YL hl,hg]
 unfold zB0;rw[hd]
 conv=>lhs;rw[h1]
 rw[zHa _ _ _ h2,ZK,zDp,Zm rfl,ZV,←ht,Lib.mk_data]
theorem zMx {r:ByteArray} (h:Lib.indexByte r.data.toList 10 = -1) (h0:0<r.size):zB0 r=[r]:=by
 have hne:r.data.toList≠[]:=fun e=>by
  have:r.data.toList.length=r.size:=by simp
  rw[e,ZY]at this;omega
 have:=zHa r.data.toList [] [] (zCj 10 _ h);rw[Z3,ZK,zDp,Zk hne]at this;unfold zB0;rw[this,XD,Lib.mk_data]
theorem zHL {r:ByteArray} (h0:r.size=0):zB0 r=[]:=by
 have:r.data.toList=[]:=List.eq_nil_of_length_eq_zero (by simpa using h0);unfold zB0;rw[this];rfl
theorem Rw.idx_lt {r:ByteArray} {c:UInt8} {i:Nat} (h:Lib.indexByte r.data.toList c=i):i<r.size:=by
 obtain⟨h1,_⟩:=zCk c _ i h;have:=Z6 List.length h1;have hl:r.data.toList.length=r.size:=by simp
 rw[Zd,ZB,Zr,ZN,hl]at this;omega
theorem Rw.grown_drew {W W':World} {row:Option Nat} (h:W.grownBy W' row):W.grownBy W'.drew row:=⟨h.os,h.tape,h.output,h.size,h.block⟩
theorem zOH (r:ByteArray) (w:World):Calls prog 175 #[.string r,.int .u8 10] w fun e w'=>e=.returned (.int .i64 (Lib.indexByte r.data.toList 10))∧w'=w :=
 Tryz.strings_IndexByte r 10 w
theorem zMy (s:ByteArray) (hs:s.size≤1000000000) (n b:Nat) (hn:1≤n) (W:World) (h0:Boxed W b 9 (.string s)) :
 zSc n prog 174 #[.pointer (some ⟨b,0,none⟩)] (fun x:ByteArray => #[Value.string x]) b [b]
  (fun xs=>xs=zB0 s) (fun pre=>pre <+: zB0 s) (zB0 s).length W:=fun l J Jx hJ ar hY hj0=>by
 obtain⟨L,hL⟩:∃L,zB0 s=L:=⟨_,rfl⟩;rw[hL]at hY ⊢;have c1:=h0.cell;refine callsIn_of_wp func174 rfl trivial ?_ rfl;simp only[ntmps174,Qg,ZB,ZY,Nat.reduceAdd,Nat.reduceSub,XP,XQ,Qh,XX,ZK,Zx]
 gi_wp2
 gi_loopw [3] (fun _ wr=>∃(pre:List ByteArray) (r:ByteArray),L=pre++zB0 r∧Boxed wr b 9 (.string r)∧J pre wr∧r.size≤s.size)
  (fun _ wr=>Q.left b wr)
 case atStart=>exact⟨[],s,hL.symm,h0,hj0,Za _⟩
 obtain⟨pre,r,aa,b0,af,ap⟩:=hrel;have d0:=b0.cell;have au:=b0.frozen
 by_cases hr0:r.size=0
 · rw[zHL hr0,Z3]at aa;have hz:¬(0:Int)<(r.size:Int):=by omega
   have HP:=hy' aa;clear aa hr0
   gi_wp2
   go_end0;refine⟨⟨_,rfl⟩,.inl ?_⟩;rw[HP.o]
   first|exact af|exact⟨pre,rfl,af⟩
 have hz:(0:Int)<(r.size:Int):=by omega
 by_cases hidx:Lib.indexByte r.data.toList 10 = -1
 · rw[zMx hidx (by omega)]at aa;have hm:¬(0:Int) ≤ -1:=by decide
   obtain⟨U,hU⟩:∃U,wr.setCell ⟨b,0,none⟩ (.string ⟨#[]⟩)=U:=⟨_,rfl⟩;have ag:J pre U:=by rw[←hU];exact hJ _ _ _ _ af (grownBy_setCell' wr b (.string ⟨#[]⟩)) (fun q e=>by cases e;rfl)
   have bU:Boxed U b 9 (.string ⟨#[]⟩):=by rw[←hU];exact b0.set _
   obtain⟨fn,tmps,assign,body,hy,hR⟩:=hY pre r U ag (by rw[aa];simp) (by rw[aa];exact Qq _);have HU:=hy' hU;have HP:=hy' aa;have HI:=hy' hidx;clear aa hU hidx
   gi_wp2_with (first|(refine⟨trivial,?_⟩;gi_at_call 175;refine (callsIn_wide.2 (zOH _ _)).mono ?_;rintro e w1 ⟨rfl,rfl⟩;rw[HI.o])|fail)
   rw[HU.o];rw[hy]
   gi_wp2
   refine hR.mono ?_;rintro e W3 (⟨rfl,ai,ah⟩|⟨rfl,ae⟩)
   · have k0:=Q.kept ah bU (by simp)
     gi_wp2
     go_roundw
     case rel=>exact⟨pre++[r],⟨#[]⟩,by rw[HP.o,zHL rfl,Z3],k0,ai,ZF _⟩
     rw[zDQ k0,zDQ b0];show (0:Nat)<r.size;omega
   gi_wp2
   refine YH (QE rfl _ _ _) rfl ?_;exact⟨⟨_,rfl⟩,.inr ⟨pre++[r],by rw[HP.o];exact Qq _,ae⟩⟩
 have hge:=Lib.indexByte_ge r.data.toList 10;obtain⟨i,hi⟩:∃i:Nat,Lib.indexByte r.data.toList 10=i:=⟨(Lib.indexByte r.data.toList 10).toNat,by omega⟩;have aq:=Rw.idx_lt hi;rw[zNX hi]at aa;obtain⟨x,hx⟩:∃x,r.extract 0 (i+1)=x:=⟨_,rfl⟩;obtain⟨z,ak⟩:∃z,r.extract (i+1) r.size=z:=⟨_,rfl⟩;rw[hx,ak]at aa;have ao:z.size=r.size-(i+1):=by rw[←ak,Jc];omega
 have i0:¬(i:Int)<0:=by omega
 have i1:(0:Int)≤(i:Int):=by omega
 have i2:(i:Int)≤r.size:=by omega
 have i3:(0:Int)≤(i:Int)+1:=by omega
 have i4:(i:Int)+1≤r.size:=by omega
 obtain⟨U,hU⟩:∃U,(wr.setCell ⟨b,0,none⟩ (.string z)).drew=U:=⟨_,rfl⟩;have aj:wr.grownBy U (some b):=by rw[←hU];exact Rw.grown_drew (grownBy_setCell' wr b (.string z))
 have ag:J pre U:=hJ _ _ _ _ af aj (fun q e=>by cases e;rfl);have bU:Boxed U b 9 (.string z):=by rw[←hU];exact b0.set _
 obtain⟨fn,tmps,assign,body,hy,hR⟩:=hY pre x U ag (by rw[aa];simp) ⟨_,by rw[aa,ZD];rfl⟩;have HU:=hy' hU;have HY:=hy' hy;clear hU aj hy;have HI:=hy' hi;have HP:=hy' aa;clear hi hidx aa hge
 gi_wp2_with (first|(refine⟨trivial,?_⟩;gi_at_call 175;refine (callsIn_wide.2 (zOH _ _)).mono ?_;rintro e w1 ⟨rfl,rfl⟩;rw[HI.o])|fail)
 gi_region
 gi_wp2
 rw[HU.o,HY.o]
 gi_wp2
 refine hR.mono ?_;rintro e W3 (⟨rfl,ai,ah⟩|⟨rfl,ae⟩)
 · have k0:=Q.kept ah bU (by simp)
   gi_wp2
   go_roundw
   case rel=>exact⟨pre++[x],z,by rw[HP.o];simp,k0,ai,by omega⟩
   rw[zDQ k0,zDQ b0];omega
 gi_wp2
 refine YH (QE rfl _ _ _) rfl ?_;exact⟨⟨_,rfl⟩,.inr ⟨pre++[x],⟨_,by rw[HP.o,ZD];rfl⟩,ae⟩⟩
theorem zLb (s:ByteArray) (w:World) :
 Calls prog 145 #[.string s] w fun e w'=>e=.returned (.func (.func 174) #[] #[.pointer (some ⟨w.heap.size,0,none⟩)])∧w'=w.alloc (.cells #[.string s] 9):=by
 go_enter func145,ntmps145;go_wp2;go_ret;exact⟨rfl,rfl⟩
attribute [local go_sem] Oper.semAt_some
theorem Rw.infoStr:(prog.info? 9).map (fun i=>(i.zero,i.size,i.bytes))=some (some (.string ByteArray.empty),1,16):=by kernel_rfl
theorem zMz (s:ByteArray) (hs:s.size≤1000000000) (hp:zC9 s.data.toList=true) (w:World) :
 Calls prog 147 #[.string s] w fun e w'=>e=.returned (.bool true)∧w'=w:=by
 have hb:∀k (h:k<s.size),32≤s[k].toNat∧s[k].toNat≤126:=by
  intro k h;unfold zC9 at hp;rw[Yj]at hp
  have:=hp s[k] (by
   rw[show s[k]=s.data.toList[k]'(by simpa using h) from rfl];exact XS _)
  rw[Zw,Zn,Zn]at this;exact this
 go_enter func147,ntmps147;go_wp2;go_loop [6] (fun i=>∃k:Nat,k≤s.size∧i=.int .i64 k) (fun i=>s.size-(intOf i).toNat)
 case atStart=>exact⟨0,ZF _,rfl⟩
 obtain⟨k,hk,rfl⟩:=hrel
 by_cases hlt:k<s.size
 · obtain⟨h1,h2⟩:=hb k hlt;have aa:¬((s[k].toNat:Int)<32):=by omega
   have ae:¬((126:Int)<(s[k].toNat:Int)):=by omega
   go_wp2;exact⟨⟨k+1,by omega,by go_num⟩,by simp[intOf];omega⟩
 go_wp2;go_ret;exact⟨rfl,rfl⟩
def zG3 (x:ByteArray):ByteArray:=⟨(zDq x.data.toList).toArray⟩
def zG4 (l:List ByteArray):List Value:=l.map fun x=>Value.string (zG3 x)
def zJ6 (L:List (List UInt8)) (w:World) (e:Ending) (w':World):Prop :=
 ∃A c,e=.returned (.tuple #[.slice A L.length c,.nilIface])∧Sl w' w'.heap.size A (L.map fun x=>Value.string ⟨x.toArray⟩)∧Below w.heap.size w w'
def zSd (L:List ByteArray) (w:World) (e:Ending) (w':World):Prop :=
 ∃A c,e=.returned (.tuple #[.slice A L.length c,.nilIface])∧Sl w' w'.heap.size A (zG4 L)∧Below w.heap.size w w'
theorem zPG (x:List UInt8):Lib.trimSuffix x [10]=zDq x:=by
 unfold Lib.trimSuffix Lib.hasSuffix zDq;rcases YW x with rfl|⟨m,b,rfl⟩
 · simp
 rw[YX];simp only[Qt,List.getLast?_singleton,Jo,Option.or_some,Zg,QH,Zd,YA,X6,Kj]
 by_cases hb:b=10
 · subst hb;simp
 have h:¬([10] <:+ m++[b]):=by
  rintro⟨t,ht⟩;have:=Z6 List.getLast? ht;simp at this;exact hb this.symm
 simp[hb,h]
theorem zNY (x:ByteArray) (hx:x.size≤1000000000) (w:World):Calls prog 146 #[.string x,.string ⟨#[10]⟩] w fun e w'=>e=.returned (.string (zG3 x))∧w'=w:=by
 have h:=Tryz.strings_TrimSuffix x ⟨#[10]⟩ w (by omega);rw[show (⟨#[10]⟩:ByteArray).data.toList=[10] from rfl,zPG]at h;exact h
theorem zHb:∀(l w:List UInt8),∀x∈zDp w l,x.length≤w.length+l.length
 | [],w,x,h=>by
   unfold zDp at h;split at h
   · cases h
   rw[Zt]at h;subst h;simp
 | b::r,w,x,h=>by
   unfold zDp at h;split at h
   · rcases List.mem_cons.1 h with rfl|h
     · simp
     have:=zHb r [] x h;simp at this ⊢;omega
   have:=zHb r _ x h;simp at this ⊢;omega
theorem zMA (s:ByteArray) (x:ByteArray) (h:x∈zB0 s):x.size≤s.size:=by
 unfold zB0 at h;obtain⟨y,hy,rfl⟩:=List.mem_map.1 h;have:=zHb s.data.toList [] y hy;have e:s.data.toList.length=s.size:=by simp
 show y.toArray.size≤s.size;simp at this ⊢;exact this
theorem zNZ (s:ByteArray):(zB0 s).length≤s.size+1:=by
 have h1:=Z6 List.length (zEj s.data.toList [] (by simp));have h2:=zH8 s.data.toList [];have e:s.data.toList.length=s.size:=by simp
 unfold zB0;rw[Ze]at h1 ⊢;omega
theorem zLc (s:ByteArray) (hs:s.size≤1000000) (aj:∀x∈zB0 s,(zG3 x).size≤1000∧zC9 (zG3 x).data.toList=true) (w:World) :
 Calls prog 122 #[.string s] w (zSd (zB0 s) w):=by
 obtain⟨i0,hi,ba,az,a1⟩:=Z2 Rw.infoStr;have ag:=zMA s;have ah:=zNZ s;refine (callsIn_wide (n:=5)).1 ?_;refine callsIn_of_wp_marks func122 rfl trivial ?_ rfl;simp only[ntmps122,Qg,ZB,ZY,Nat.reduceAdd,Nat.reduceSub,XP,XQ,Qh,XX,ZK,Zx]
 gi_wp2_with (refine⟨trivial,?_⟩;gi_at_call 145;refine (callsIn_wide.2 (zLb s _)).mono ?_;rintro e w1 ⟨rfl,ae⟩;have HW:=hy' ae;clear ae)
 have ae:=HW.o;have bb:w1.heap.size=w.heap.size+4:=by rw[ae];simp
 have q2:Boxed w1 w.heap.size 45 (.slice none 0 0):=by
  rw[ae];exact (((Boxed.new w 45 (.slice none 0 0)).alloc _).alloc _).alloc _
 have q3:Boxed w1 (w.heap.size+1) 115 (.nilIface):=by
  have h:=Boxed.new (w.alloc (.cells #[.slice none 0 0] 45)) 115 (.nilIface);rw[ZJ]at h;rw[ae];exact (h.alloc _).alloc _
 have q4:Boxed w1 (w.heap.size+1+1) 45 (.slice none 0 0):=by
  have h:=Boxed.new ((w.alloc (.cells #[.slice none 0 0] 45)).alloc (.cells #[.nilIface] 115)) 45 (.slice none 0 0);rw[ZJ,ZJ]at h;rw[ae];exact h.alloc _
 have q5:Boxed w1 (w.heap.size+1+1+1) 9 (.string s):=by
  have h:=Boxed.new (((w.alloc (.cells #[.slice none 0 0] 45)).alloc (.cells #[.nilIface] 115)).alloc (.cells #[.slice none 0 0] 45)) 9 (.string s);rw[ZJ,ZJ,ZJ]at h;rw[ae];exact h
 have aw:Below w.heap.size w w1:=by
  rw[ae];exact ((((Zc _ w).alloc (by simp) _).alloc (by simp) _).alloc (by simp;omega) _).alloc (by simp;omega) _
 clear ae HW;obtain⟨L,hL⟩:∃L,zB0 s=L:=⟨_,rfl⟩;obtain⟨D,hD⟩:∃D,w1.heap.size=D:=⟨_,rfl⟩;have ak:=fun (W:World) (hW:Below w1.heap.size w1 W)=>zMy s (by omega) (5-1) (w.heap.size+1+1+1) (by omega) W ((hW.block _ (by omega)).trans q5)
 rw[hL]at ak ag ah aj ⊢
 refine R.range (n:=5) (by omega) (gf:=174) (lb := #[.pointer (some ⟨w.heap.size+1+1+1,0,none⟩)]) rfl (enters_of func174 (by kernel_rfl) rfl)
  (b:=w.heap.size+1+1+1) (by omega) (ks:=[w.heap.size+1+1+1]) (by simp;omega) ak (fun _=>rfl)
  (fun pre W=>(∃v,Boxed W (w.heap.size+1+1) 45 v∧W.ownsRow D 9 1 v pre.length (zG4 pre))∧Boxed W w.heap.size 45 (.slice none 0 0)∧Boxed W (w.heap.size+1) 115 (.nilIface)∧Below w.heap.size w W∧D≤W.heap.size)
  (fun c pre W=>False)
  (by
    rintro pre X Y row ⟨⟨v,a2,a3⟩,a4,a5,a6,a7⟩ hg hr;exact⟨⟨v,zC3 a2 hg hr (by omega),zKn a3 hg hr (by omega)⟩,zC3 a4 hg hr (by omega),zC3 a5 hg hr (by omega),zEU a6 a6.size hg hr (by omega) (by omega),Zh a7 hg.size⟩)
  (fun c pre X Y row h _ _=>h)
  ⟨⟨_,q4,ZE _ _ _ _⟩,q2,q3,aw,by omega⟩
  (fun x=>{ tmps := #[.string s,undef,.pointer (some ⟨w.heap.size,0,none⟩),.pointer (some ⟨w.heap.size+1,0,none⟩),.pointer (some ⟨w.heap.size+1+1,0,none⟩),.string x,undef,.string s,
    .func (.func 174) #[] #[.pointer (some ⟨w.heap.size+1+1+1,0,none⟩)],.string x,undef,undef,undef,undef,undef,undef,undef,undef,undef,undef,undef,undef,undef,undef,undef,undef,undef,undef,undef,undef,undef,undef],defers:=[] }) ?assign ?body ?done ?stop
 case assign =>
  intro l x W K hK
  gi_wp2
  exact hK
 case done =>
  rintro E ys W hE rfl ⟨⟨v,hv,aa⟩,h2,h3,hB,ap⟩ hK;have hc:=hv.cell;have c2:=h2.cell;have f2:=h2.frozen;have c3:=h3.cell;have f3:=h3.frozen;obtain⟨A,cp,rfl⟩:=zA3 aa
  gi_wp2
  have r1:=aa.kept (grownBy_setCell' W w.heap.size (.slice A ys.length cp)) (.inr (h2.not_row (by decide) aa).symm);have aq:=h3.other (show w.heap.size+1≠w.heap.size by omega) (.slice A ys.length cp);have r2:=r1.kept (grownBy_setCell' _ (w.heap.size+1) (.nilIface)) (.inr (aq.not_row (by decide) r1).symm);have b2:=(h2.set (.slice A ys.length cp)).other (show w.heap.size≠w.heap.size+1 by omega) (.nilIface);have b3:=aq.set (.nilIface)
  have hK':((W.setCell ⟨w.heap.size,0,none⟩ (.slice A ys.length cp)).setCell ⟨w.heap.size+1,0,none⟩ (.nilIface)).heap[E]?=some (.deferred (some [])) :=
   (Yq _ _ _ E (by show E≠w.heap.size+1;omega)).trans ((Yq _ _ _ E (by show E≠w.heap.size;omega)).trans hK)
  have k1:=(hB.setCell (p:=⟨w.heap.size,0,none⟩) (Za _) (.slice A ys.length cp)).setCell (p:=⟨w.heap.size+1,0,none⟩) (by show w.heap.size≤w.heap.size+1;omega) (.nilIface);obtain⟨X,hX⟩:∃X,(W.setCell ⟨w.heap.size,0,none⟩ (.slice A ys.length cp)).setCell ⟨w.heap.size+1,0,none⟩ (.nilIface)=X:=⟨_,rfl⟩;rw[hX]at r2 b2 b3 hK' k1 ⊢;have e2:=cell_kept b2.cell (grownBy_putObj' X E (.deferred none)) (fun r e=>by cases e;exact⟨_,hK',rfl⟩);have e3:=cell_kept b3.cell (grownBy_putObj' X E (.deferred none)) (fun r e=>by cases e;exact⟨_,hK',rfl⟩);refine⟨by simp,.inl ⟨_,_,rfl,run_takeDeferred hK',?_⟩⟩;refine⟨.tuple #[.slice A ys.length cp,.nilIface],?_,?_⟩
  · simp[results,Tryz.f122,go_sem,e2,e3]
  rw[hL];exact⟨A,cp,rfl,Sl.of_own (ownsRow_putObj r2 _ hK' rfl),k1.trans (belowK_b (w:=w) (Za _) X E _ _ (by omega) hK' rfl rfl)⟩
 case stop =>
  rintro E c pre W hE av h hK;exact h.elim
 rintro l pre x W ⟨⟨v,hv,aa⟩,h2,h3,hB,ap⟩ hlen au;rw[hD]
 have ar:x∈L:=by
  obtain⟨t,rfl⟩:=au;simp
 obtain⟨ay,ao⟩:=aj x ar;have bc:=ag x ar;have hT:=zNY x (by omega);obtain⟨y,hy⟩:∃y,zG3 x=y:=⟨_,rfl⟩;rw[hy]at ay ao;simp only[hy]at hT;have hP:=zMz y (by omega) ao;have hc:=hv.cell;have bh:¬(1000:Int)<(y.size:Int):=by omega
 have HY:=hy' hy;clear hy ao
 gi_wp2_with first
  | (refine⟨trivial,?_⟩;gi_at_call 146;refine (CallsIn.inRound l (callsIn_wide.2 (hT _))).mono ?_;rintro e w2 ⟨rfl,a8⟩;subst w2)
  | (refine⟨trivial,?_⟩;gi_at_call 147;refine (CallsIn.inRound l (callsIn_wide.2 (hP _))).mono ?_;rintro e w2 ⟨rfl,a8⟩;subst w2)
  | (gi_at_builtin;refine wpListIn_append_own _ rfl _ _ 45 rfl D 9 i0 (.string ByteArray.empty) 1 16 underlying45 hi ba az a1 rfl (by decide) _ _ _ rfl (aa.alloc _) ⟨W.heap.size,0,none⟩ 1 1 [.string y] rfl rfl (JS _ _ _) (by simp[Value.oneCell']) (by simp only[maxLen];omega) (by omega) (by simp;omega) ?_;intro v' w3 af ai _;obtain⟨g',ax,rfl⟩:=ownsRow_succ af;obtain⟨g1,g2,g3,g4,g5,g6,g7⟩:=R.appended (n₀:=w.heap.size) (ks:=[w.heap.size+1+1+1]) hv (by decide) aa ap (by omega) (by omega) (by simp;omega) af ai;have bf:=g1.cell;have bg:=g1.frozen)
  | fail
 exact⟨g4,g5,⟨_,g2,by rw[Zd,show zG4 (pre++[x])=zG4 pre++[Value.string y] by simp[zG4,HY.o]];exact g3⟩,g7 _ _ _ (by omega) (by omega) h2,g7 _ _ _ (by omega) (by omega) h3,hB.trans g6,Zh ap g4.size⟩
theorem zHM (s:ByteArray) (hs:s.size≤1000000) (af:(zAN [] s.data.toList).all zCa=true) (w:World) :
 Calls prog 122 #[.string s] w (zJ6 (zAN [] s.data.toList) w):=by
 have ag:=zEj s.data.toList [] (by simp)
 have ae:∀x∈zB0 s,(zG3 x).size≤1000∧zC9 (zG3 x).data.toList=true:=by
  intro x hx;unfold zB0 at hx;obtain⟨y,hy,rfl⟩:=List.mem_map.1 hx;have hm:zDq y∈zAN [] s.data.toList:=by rw[←ag];exact List.mem_map_of_mem hy
  rw[Yj]at af;have:=af _ hm;unfold zCa at this;rw[Zw,Zn]at this;exact⟨by show (zDq y).toArray.size≤1000;simpa using this.1,this.2⟩
 have aa:(zAN [] s.data.toList).map (fun x=>Value.string ⟨x.toArray⟩)=zG4 (zB0 s)∧(zAN [] s.data.toList).length=(zB0 s).length:=by
  rw[←ag];unfold zG4 zB0;rw[Xf,Xf];exact⟨rfl,by simp⟩
 refine (zLc s hs ae w).mono ?_;rintro e w' ⟨A,c,rfl,h1,h2⟩;exact⟨A,c,by rw[aa.2],by rw[aa.1];exact h1,h2⟩
end
end Go.Proofs.YtjakbblocbicjaaGreatDoor
