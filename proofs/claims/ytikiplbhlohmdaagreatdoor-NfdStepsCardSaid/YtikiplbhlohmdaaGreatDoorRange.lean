/- The laws' Char and Chars, by walking their texts. -/
import Derived.Test.YtikiplbhlohmdaaGreatDoorRwPlain
import Derived.RangeFuncNested
import Derived.RangeFuncBound
import Derived.OwnWalkIn
import Derived.TacticsInMore
import Derived.LoopNIn
import Derived.LoopIn
set_option linter.unusedVariables false
set_option linter.unusedSimpArgs false
namespace Go.Proofs.YtikiplbhlohmdaaGreatDoor
open Go.RowKit
theorem Ch.isC_iff (c:Int):C.isC c=true↔(0≤c∧c≤1114111∧(c<55296∨57343<c)):=by unfold C.isC;simp
theorem Ch.and_21 (n:Int):bits .and .i64 n 2097151=n%2097152:=by
 have hm:(BitVec.ofInt 64 2097151).toNat=2 ^ 21-1:=by decide
 have key:(BitVec.ofInt 64 n &&& BitVec.ofInt 64 2097151).toNat=(n%((2 ^ 64:Nat):Int)).toNat%2 ^ 21:=by
  rw[BitVec.toNat_and,XU,hm,YK]
 show IntKind.i64.wrap ((BitVec.ofInt 64 n &&& BitVec.ofInt 64 2097151).toNat:Nat)=n%2097152
 rw[key,Z0]
 omega
theorem Ch.and_11 (n:Int):bits .and .i64 n 2047=n%2048:=by
 have hm:(BitVec.ofInt 64 2047).toNat=2 ^ 11-1:=by decide
 have key:(BitVec.ofInt 64 n &&& BitVec.ofInt 64 2047).toNat=(n%((2 ^ 64:Nat):Int)).toNat%2 ^ 11:=by
  rw[BitVec.toNat_and,XU,hm,YK]
 show IntKind.i64.wrap ((BitVec.ofInt 64 n &&& BitVec.ofInt 64 2047).toNat:Nat)=n%2048
 rw[key,Z0]
 omega
def Ch.K (x:Int):Int:=if C.isC (x%2097152) then x%2097152 else x%2097152%2048
theorem Ch.K_is (x:Int):C.isC (Ch.K x)=true:=by
 unfold Ch.K
 split
 · assumption
 · rw[Ch.isC_iff];omega
theorem Ch.K_bd (x:Int) : -2147483648≤Ch.K x∧Ch.K x≤2147483647:=by
 have:=(Ch.isC_iff _).1 (Ch.K_is x)
 omega
set_option maxRecDepth 100000 in
theorem Ch.ris_any (c:Int) (w:World):Calls Tryz.prog 39 #[.int .i64 c] w fun e w'=>e=.returned (.bool (C.isC c))∧w=w':=by
 obtain⟨q,hq⟩:∃q,C.isC c=q:=⟨_,rfl⟩
 rw[hq]
 have HQ:=Za hq
 clear hq
 go_enter Tryz.func39,Tryz.ntmps39
 by_cases h0:0≤c
 · by_cases h1:c≤1114111
   · by_cases h2:c<55296
     · go_wp2
       go_ret
       exact⟨by rw[←HQ.out];exact ret_bool (by unfold C.isC;symm;exact decide_eq_true (by omega)),rfl⟩
     · by_cases h3:57343<c
       · go_wp2
         go_ret
         exact⟨by rw[←HQ.out];exact ret_bool (by unfold C.isC;symm;exact decide_eq_true (by omega)),rfl⟩
       · go_wp2
         go_ret
         exact⟨by rw[←HQ.out];exact ret_bool (by unfold C.isC;symm;exact decide_eq_false (by omega)),rfl⟩
   · go_wp2
     go_ret
     exact⟨by rw[←HQ.out];exact ret_bool (by unfold C.isC;symm;exact decide_eq_false (by omega)),rfl⟩
 · go_wp2
   go_ret
   exact⟨by rw[←HQ.out];exact ret_bool (by unfold C.isC;symm;exact decide_eq_false (by omega)),rfl⟩
set_option maxRecDepth 100000 in
set_option maxHeartbeats 400000 in
theorem Ch.char_any (x:Int) (w:World) :
 Calls Tryz.prog 19 #[.int .i64 x] w fun e w'=>e=.returned (.int .i32 (Ch.K x))∧w=w':=by
 have e1:=Ch.and_21 x
 have e2:=Ch.and_11 (x%2097152)
 have b1:0≤x%2097152:=by omega
 have b2:x%2097152≤2097151:=by omega
 have b3:0≤x%2048:=by omega
 have b4:x%2048≤2047:=by omega
 by_cases hi:C.isC (x%2097152)=true
 · have hk:Ch.K x=x%2097152:=by unfold Ch.K;rw[if_pos hi]
   have HK:=Za hk
   clear hk
   go_enter Tryz.func19,Tryz.ntmps19
   go_wp2_with (go_at_call 39;refine (Ch.ris_any _ _).mono ?_;rintro e w' ⟨rfl,rfl⟩)
   go_ret
   exact⟨ret_int HK.out.symm,rfl⟩
 · have hk:Ch.K x=x%2048:=by unfold Ch.K;rw[if_neg hi];omega
   have hi':C.isC (x%2097152)=false:=by simpa using hi
   have HK:=Za hk
   clear hk hi
   go_enter Tryz.func19,Tryz.ntmps19
   go_wp2_with (go_at_call 39;refine (Ch.ris_any _ _).mono ?_;rintro e w' ⟨rfl,rfl⟩)
   go_ret
   exact⟨ret_int HK.out.symm,rfl⟩
end Go.Proofs.YtikiplbhlohmdaaGreatDoor
namespace Go.Proofs.YtikiplbhlohmdaaGreatDoor
open Go.RowKit Go.Stop
def Rw.txt (l:List Rw.Row):List UInt8:=l.flatMap fun r=>Rw.line r++[10]
theorem Rw.txt_app (a b:List Rw.Row):Rw.txt (a++b)=Rw.txt a++Rw.txt b:=by simp[Rw.txt]
theorem Rw.txt_one (r:Rw.Row):Rw.txt [r]=Rw.line r++[10]:=by simp[Rw.txt]
theorem Rw.txt_eq (l:List Rw.Row):Rw.txt l=(l.map Rw.line).flatMap fun x=>x++[10]:=by simp[Rw.txt,List.flatMap_map]
theorem Rw.line_len (r:Rw.Row) (h:Rw.right r):(Rw.line r).length≤1000:=by
 have:=Rw.line_ok r h
 unfold Rw.okl at this
 rw[ZB,Zm]at this
 exact this.1
theorem Rw.txt_len:∀(l:List Rw.Row),(∀r∈l,Rw.right r)→(Rw.txt l).length≤1001*l.length
 | [],_=>by simp[Rw.txt]
 | r::l,h=>by
   have h1:=Rw.line_len r (h r Zv)
   have h2:=Rw.txt_len l fun q hq=>h q (Zx _ hq)
   rw[show r::l=[r]++l from rfl,Rw.txt_app,Rw.txt_one]
   simp
   omega
def Rw.lastC:Int→List Rw.Row→Int
 | c,[]=>c
 | _,r::l=>Rw.lastC r.1 l
def Rw.fine (r:Rw.Row):Prop:=Rw.right r∧(C.isC r.1=true∨Rw.quiet r=true)
theorem Rw.parse_txt (l:List Rw.Row) (h:∀r∈l,Rw.fine r) (hr:Rw.rise (-1) l) (hl:l.length≤40000):Rw.parse (Rw.txt l)=some (l.filter fun r=>!Rw.quiet r):=by
 rw[Rw.txt_eq]
 exact Rw.parse_lines l h hr hl
end Go.Proofs.YtikiplbhlohmdaaGreatDoor
namespace Go.Proofs.YtikiplbhlohmdaaGreatDoor
open Go.RowKit
theorem Bd.size:(Tryz.prog.info? 108).map (·.size)=some 2:=by kernel_rfl
theorem Bd.lies:liesAt Tryz.prog Tryz.prog.depth 108 (2/Tryz.prog.cellsOf 108) 0 108 1=true:=by kernel_rfl
theorem Bd.infoByte:(Tryz.prog.info? 5).map (fun i=>(i.zero,i.size,i.bytes))=some (some (.int .u8 0),1,1):=by kernel_rfl
section
set_option maxHeartbeats 1000000
set_option maxRecDepth 100000
theorem Bd.check_used (b:Nat) (w:World) (h0:w.cell? ⟨b,0,none⟩=some (.pointer (some ⟨b,0,none⟩))) :
 Calls Tryz.prog 93 #[.pointer (some ⟨b,0,none⟩)] w fun e w'=>e=.returned (.tuple #[])∧w'=w:=by
 obtain⟨j,hj,_⟩:=Option.map_eq_some_iff.1 Bd.size
 go_enter Tryz.func93,Tryz.ntmps93
 go_wp2
 rw[Lib.run_neq_ptr_same w _ Tryz.underlying106 hj]
 go_wp2
 go_end0
 exact⟨rfl,rfl⟩
theorem Bd.check_fresh (b:Nat) (w:World) (h0:w.cell? ⟨b,0,none⟩=some (.pointer none)) (aa:w.shape? b=some (108,2)) (af:w.frozen? ⟨b,0,none⟩=false) :
 Calls Tryz.prog 93 #[.pointer (some ⟨b,0,none⟩)] w fun e w'=>e=.returned (.tuple #[])∧w'=w.setCell ⟨b,0,none⟩ (.pointer (some ⟨b,0,none⟩)):=by
 obtain⟨j,hj,ae⟩:=Option.map_eq_some_iff.1 Bd.size
 go_enter Tryz.func93,Tryz.ntmps93
 go_wp2
 rw[Lib.run_to_unsafe w ⟨b,0,none⟩ Tryz.underlying106 Tryz.underlying224 hj (by rw[ae];decide) aa (Nat.zero_lt_succ 1)]
 simp only[Result.andThen]
 rw[Oper.upon_value]
 go_wp2
 rw[run_callFunc_extern Tryz.func123 (by kernel_rfl) (by kernel_rfl) (by kernel_rfl) (e:=Extern.AbiNoEscape.same) (by kernel_rfl)]
 rw[Lib.run_noEscape]
 simp only[Result.andThen]
 rw[Oper.upon_value]
 go_wp2
 rw[Lib.run_from_unsafe w ⟨b,0,none⟩ Tryz.underlying224 Tryz.underlying106 hj aa Bd.lies]
 simp only[Result.andThen]
 rw[Oper.upon_value]
 go_wp2
 go_end0
 exact⟨rfl,rfl⟩
end
end Go.Proofs.YtikiplbhlohmdaaGreatDoor
namespace Go.Proofs.YtikiplbhlohmdaaGreatDoor
open Go.RowKit Go.Stop
def Ex.line (seen:List Int) (l:List UInt8):Option (List Int) :=
 if Fi.strip l=[] then some seen else (Fi.hex (Fi.strip l)).bind fun c=>if C.isC c=true∧c∉seen then some (seen++[c]) else none
def Ex.steps:List Int→List (List UInt8)→Option (List Int)
 | seen,[]=>some seen
 | seen,l::r=>(Ex.line seen l).bind fun s=>Ex.steps s r
def Ex.parse (s:List UInt8):Option (List Int):=if (Rw.lns [] s).all Rw.okl=true∧(Rw.lns [] s).length≤100000 then Ex.steps [] (Rw.lns [] s) else none
theorem Ex.steps_app:∀(a b:List (List UInt8)) (s:List Int),Ex.steps s (a++b)=(Ex.steps s a).bind fun s'=>Ex.steps s' b
 | [],b,s=>rfl
 | l::a,b,s=>by
   rw[ZQ,Ex.steps,Ex.steps]
   rcases Ex.line s l with _|s'
   · rfl
   · exact Ex.steps_app a b s'
theorem Ex.steps_take {s0 sf s:List Int} {L:List (List UInt8)} {k:Nat} {x:List UInt8} (h:Ex.steps s0 L=some sf) (hx:L[k]?=some x) (hs:Ex.steps s0 (L.take k)=some s) :
 ∃s',Ex.line s x=some s'∧Ex.steps s0 (L.take (k+1))=some s':=by
 have hk:=(List.getElem?_eq_some_iff.1 hx).1
 have e:L.take k++x::L.drop (k+1)=L:=by
  have:=ZG k L
  rw[ZV hk]at this
  rw[Zc hk,Zi]at hx
  rw[hx]at this
  exact this
 rw[←e,Ex.steps_app,hs,Zr,Ex.steps]at h
 rcases hst:Ex.line s x with _|s'
 · rw[hst]at h;cases h
 · refine⟨s',rfl,?_⟩
   rw[Zw,hx,Ex.steps_app,hs]
   show Ex.steps s [x]=some s'
   rw[Ex.steps,hst]
   rfl
theorem Ex.line_some {s s':List Int} {l:List UInt8} (h:Ex.line s l=some s'):(Fi.strip l=[]∧s'=s)∨∃c,Fi.strip l≠[]∧Fi.hex (Fi.strip l)=some c∧C.isC c=true∧c∉s∧s'=s++[c]:=by
 unfold Ex.line at h
 split at h
 · rename_i h0
   simp only[Zi]at h
   exact .inl ⟨h0,h.symm⟩
 · rename_i h0
   rcases hc:Fi.hex (Fi.strip l) with _|c
   · rw[hc]at h;cases h
   · rw[hc,Zr]at h
     split at h
     · rename_i h1
       simp only[Zi]at h
       exact .inr ⟨c,h0,rfl,h1.1,h1.2,h.symm⟩
     · cases h
theorem Ex.steps_len:∀(L:List (List UInt8)) {s s':List Int},Ex.steps s L=some s'→s'.length≤s.length+L.length
 | [],s,s',h=>by
   rw[Ex.steps,Zi]at h
   subst h
   simp
 | x::L,s,s',h=>by
   rw[Ex.steps]at h
   rcases hs:Ex.line s x with _|q
   · rw[hs]at h;cases h
   · rw[hs,Zr]at h
     have h2:=Ex.steps_len L h
     rcases Ex.line_some hs with ⟨_,rfl⟩|⟨c,_,_,_,_,rfl⟩
     · simp;omega
     · simp at h2 ⊢;omega
theorem Ex.cut_miss (a:List UInt8) (h:(35:UInt8)∉a):(Lib.cut a [35]).1=a:=by
 have:=Fi.cut_head 35 a
 rw[Fi.spl_miss 35 a h,List.head?_cons,Zi]at this
 exact this.symm
theorem Ex.trim_pad (i:Nat) (t:List UInt8) (x y:UInt8) (m:List UInt8) (ht:t=x::m) (hx:x≠32) (hy:t.getLast?=some y) (aa:y≠32):∀j,Lib.trimB (List.replicate i 32++(t++List.replicate j 32)) 32=t:=by
 intro j
 rw[Fi.trim_comm]
 have h1:Lib.trimLeftB (List.replicate i 32++(t++List.replicate j 32)) 32=t++List.replicate j 32:=by
  unfold Lib.trimLeftB
  induction i with
  | zero=>rw[ht];simp[Yx,hx]
  | succ i ih=>rw[List.replicate_succ,List.cons_append,List.dropWhile_cons];simpa using ih
 rw[h1]
 induction j with
 | zero =>
   rcases YL t with h|⟨q,z,h⟩
   · rw[h]at hy;cases hy
   · rw[YM]at h
     rw[h,List.getLast?_append]at hy
     simp at hy
     subst hy
     rw[List.replicate_zero,Yc,h]
     exact Fi.trimR_stop 32 q z aa
 | succ j ih =>
   rw[List.replicate_succ',←Zz,Fi.trimR_snoc]
   exact ih (by
    unfold Lib.trimLeftB
    clear h1 ih
    induction i with
    | zero=>rw[ht];simp[Yx,hx]
    | succ i ih=>rw[List.replicate_succ,List.cons_append,List.dropWhile_cons];simpa using ih)
theorem Ex.text_ends (n:Nat):∃x m y,Fi.text n=x::m∧x≠32∧(Fi.text n).getLast?=some y∧y≠32:=by
 rcases h:Fi.text n with _|⟨x,m⟩
 · exact absurd h (Rw.text_ne n)
 · have hb:=Rw.text_bytes n
   rw[h]at hb
   obtain⟨y,hy⟩:∃y,(x::m).getLast?=some y:=⟨_,List.getLast?_eq_some_getLast (by simp)⟩
   refine⟨x,m,y,rfl,?_,hy,?_⟩
   · rintro rfl;have:=(hb 32 Zv).1;exact absurd this (by decide)
   · rintro rfl;have:=(hb 32 (List.mem_of_getLast? hy)).1;exact absurd this (by decide)
theorem Ex.text_no35 (n:Nat):(35:UInt8)∉Fi.text n:=Rw.text_no n 35 (.inl (by decide))
theorem Ex.ok_of {x:List UInt8} (h1:x.length≤1000) (h2:∀b∈x,32≤b.toNat∧b.toNat≤126):Rw.okl x=true:=by
 unfold Rw.okl Rw.plainL
 rw[ZB,Zm,Yh]
 refine⟨h1,fun b hb=>?_⟩
 rw[ZB,Zm,Zm]
 exact h2 b hb
theorem Ex.ok_no {x:List UInt8} (h:Rw.okl x=true):(10:UInt8)∉x:=fun hm=>by
 unfold Rw.okl Rw.plainL at h
 rw[ZB,Yh]at h
 exact absurd (h.2 10 hm) (by decide)
end Go.Proofs.YtikiplbhlohmdaaGreatDoor
namespace Go.Proofs.YtikiplbhlohmdaaGreatDoor
open Go.RowKit
def R.Abides {β:Type} (B b:Nat) (I:β→World→Prop):Prop :=
 ∀s W W' row,I s W→W.grownBy W' row→(∀r,row=some r→r=b∨(B≤r∧∃o:Obj,W.heap[r]?=some o∧o.isCells=false))→I s W'
def R.Steps {β:Type} (b:Nat) (J:β→World→Prop):Prop:=∀s W W' row,J s W→W.grownBy W' row→(∀r,row=some r→r=b)→J s W'
def R.Kept (ks:List Nat) (W W':World):Prop:=∀k∈ks,∀o,W.heap[k]?=some o→W'.heap[k]?=some o
def R.Seq {α:Type} (n:Nat) (P:Program) (g:Nat) (lb:Array Value) (encs:α→Array Value) (b:Nat) (ks:List Nat) (S Sp:List α→Prop) (N:Nat) (W:World):Prop :=
 ∀(l:Nat) (J Jx:List α→World→Prop),R.Steps b J→R.Steps b Jx →
  (∀pre x W1,J pre W1→pre.length<N→Sp (pre++[x])→YieldAt Fence.wide (n-1) P l (encs x) W1 fun e W' =>
    (e=.returned (.bool true)∧J (pre++[x]) W'∧R.Kept ks W1 W')∨(e=.returned (.bool false)∧Jx (pre++[x]) W')) →
  J [] W →
  CallsIn Fence.wide n P g (#[.func (.yield l) #[] #[]]++lb) W fun e W'=>(∃v,e=.returned v)∧((∃xs,S xs∧J xs W')∨(∃pre,Sp pre∧Jx pre W'))
def R.Post {α:Type} (B:Nat) (ks:List Nat) (I:List α→World→Prop) (Ix:Code→List α→World→Prop) (xs:List α) (W:World):Exit→Act→World→Prop
 | .normal,_,W'=>KeepsFrom B W W'∧R.Kept ks W W'∧I xs W'
 | .ret,_,W'=>KeepsFrom B W W'∧Ix .ret xs W'
 | .exit id,_,W'=>KeepsFrom B W W'∧Ix (.exit id) xs W'
 | .goto t,_,W'=>KeepsFrom B W W'∧Ix (.goto t) xs W'
 | .panic _,_,_=>False
 | .outgrown,_,_=>False
theorem R.abides_alloc {β:Type} {B b:Nat} {I:β→World→Prop} (h:R.Abides B b I) {s:β} {W:World} (o:Obj) (hs:I s W):I s (W.alloc o) :=
 h s W _ none hs (Yk W o none) (fun r e=>by cases e)
theorem R.abides_put {β:Type} {B b:Nat} {I:β→World→Prop} (h:R.Abides B b I) {s:β} {W:World} {l:Nat} {o:Obj} (o':Obj) (hs:I s W) (hB:B≤l) (hl:W.heap[l]?=some o) (ho:o.isCells=false):I s (W.putObj l o') :=
 h s W _ (some l) hs (grownBy_putObj' W l o') (fun r e=>by cases e;exact .inr ⟨hB,o,hl,ho⟩)
theorem R.step_keeps {b k:Nat} {W W':World} {row:Option Nat} {o:Obj} (hg:W.grownBy W' row) (hr:∀r,row=some r→r=b) (hk:W.heap[k]?=some o) (hne:k≠b):W'.heap[k]?=some o :=
 (hg.block k (Array.getElem?_eq_some_iff.1 hk).1 (fun e=>hne (hr k e.symm))).trans hk
theorem R.range {α:Type} {n:Nat} {P:Program} {g:Operand} {ps:Array Tmp} {assign body:Code} {Q:Exit→Act→World→Prop} {a:Act} {w:World} (h1:1≤n)
 {gf:Nat} {lb:Array Value} (hg:a.eval g=.func (.func gf) #[] lb) (eg:∀args w,(callFunc gf args).run P w=.ok (.enter gf args) w)
 {encs:α→Array Value} {b:Nat} (hb:b<w.heap.size) {ks:List Nat} (av:∀k∈ks,k<w.heap.size) {S Sp:List α→Prop} {N:Nat} (aq:∀W,Below w.heap.size w W→R.Seq (n-1) P gf lb encs b ks S Sp N W) (ba:∀x,(encs x).size=ps.size)
 (I:List α→World→Prop) (Ix:Code→List α→World→Prop) (hI:R.Abides w.heap.size b I) (ak:∀c,R.Abides w.heap.size b (Ix c)) (h0:I [] w) (a₁:α→Act)
 (af:∀(l:Nat) (x:α) (W:World) (K:Act→World→Prop),K (a₁ x) W →
   assign.wpIn (Fence.wide.inRound l) (n-1-1) P (Exit.then K (fun _ _ _=>False)) { tmps:=(ps.zip (encs x)).foldl (fun t (p,v)=>t.setIfInBounds p v) a.tmps,defers:=[] } W)
 (ai:∀(l:Nat) (pre:List α) (x:α) (W:World),I pre W→pre.length<N→Sp (pre++[x])→body.wpIn (Fence.wide.inRound l) (n-1-1) P (R.Post w.heap.size ks I Ix (pre++[x]) W) (a₁ x) W)
 (ag:∀(D:Nat) (xs:List α) (W:World),w.heap.size≤D→S xs→I xs W→W.heap[D]?=some (.deferred (some []))→Q .normal { a with defers:={ target:=.collected D,args := #[] }::a.defers } W)
 (ah:∀(D:Nat) (c:Code) (pre:List α) (W:World),w.heap.size≤D→Sp pre→Ix c pre W→W.heap[D]?=some (.deferred (some []))→c.wpIn Fence.wide n P Q { a with defers:={ target:=.collected D,args := #[] }::a.defers } W) :
 (Code.rangeFunc g ps assign body).wpIn Fence.wide n P Q a w:=by
 refine wpIn_rangeFunc fun fn bb=>?_
 show ∃(l:Nat) (mark:List Deferred) (w₁:World) (d:Deferred) (bf:World) (f:FuncId) (args:Array Value) (w₂:World),_
 let rec':LoopState→Option Code→Loop:=fun st pe=>{ state:=st,pending:=pe,fn,tmps:=a.tmps,params:=ps,assign,body,defers:=w.heap.size }
 obtain⟨D,hD⟩:∃D,w.heap.size=D:=⟨_,rfl⟩
 obtain⟨lr,ae⟩:∃lr,lr=rec':=⟨_,rfl⟩
 obtain⟨V,hV⟩:∃V,(w.alloc (.deferred (some []))).alloc (.loop (lr .ready none))=V:=⟨_,rfl⟩
 have ax:V.heap[D+1]?=some (.loop (lr .ready none)):=by
  have h:=World.alloc_heap_new (w.alloc (.deferred (some []))) (.loop (lr .ready none))
  rw[ZH,hV,hD]at h
  exact h
 have aw:V.heap[D]?=some (.deferred (some [])):=by
  rw[←hV,←hD]
  exact (Below.heap_alloc _ _ _ (by simp)).trans (World.alloc_heap_new w _)
 have inv1:I [] V:=by
  rw[←hV]
  exact R.abides_alloc hI _ (R.abides_alloc hI _ h0)
 have ar:Below w.heap.size w V:=by
  rw[←hV]
  exact ((Zd _ w).alloc (Zb _) _).alloc (by simp) _
 rw[hD]at hI ak hb av ai ag ah
 refine⟨D+1,[{ target:=.collected D,args := #[] }],V,{ target:=.fn (.func gf) lb,args := #[.func (.yield (D+1)) #[] #[]] },V,gf,#[.func (.yield (D+1)) #[] #[]]++lb,V,?_,?_,?_,?_,fun _=>h1,?_⟩
 · rw[←hV,←hD,ae]
   exact run_enterLoop_outer _ _ _ _ _
 · simp only[resolve,hg]
   simp[go_sem]
 · intro f' a1
   simp[Target.leads]at a1
   subst a1
   exact trivial
 · simp[invoke,go_sem,eg]
 have bd:D≠b:=by omega
 have az:D+1≠b:=by omega
 refine ((aq V ar) (D+1)
  (fun pre W=>I pre W∧W.heap[D+1]?=some (.loop (lr .ready none))∧W.heap[D]?=some (.deferred (some [])))
  (fun pre W=>∃c,Ix c pre W∧W.heap[D+1]?=some (.loop (lr .done (some c)))∧W.heap[D]?=some (.deferred (some [])))
  (fun s X Y row hs aj hr=>⟨hI s X Y row hs.1 aj (fun r e=>.inl (hr r e)),R.step_keeps aj hr hs.2.1 az,R.step_keeps aj hr hs.2.2 bd⟩)
  (fun s X Y row hs aj hr=>by
    obtain⟨c,i0,i1,i2⟩:=hs
    exact⟨c,ak c s X Y row i0 aj (fun r e=>.inl (hr r e)),R.step_keeps aj hr i1 az,R.step_keeps aj hr i2 bd⟩)
  ?_ ⟨inv1,ax,aw⟩).mono ?_
 · rintro pre x W ⟨hi,aa,ap⟩ hlen a7
   have a8:D+1<W.heap.size:=(Array.getElem?_eq_some_iff.1 aa).1
   have hy:=run_yield (P:=P) (args:=encs x) aa (by rw[ae];exact ba x)
   rw[ae]at hy
   refine⟨fn,_,assign,body,hy,roundIn_of_wpIn bb (af _ x W _ ⟨_,run_beginRound aa (by rw[ae]),?_⟩)⟩
   obtain⟨U,hU⟩:∃U,W.putObj (D+1) (.loop { lr .ready none with state:=.busy })=U:=⟨_,rfl⟩
   have ay:U.heap[D+1]?=some (.loop { lr .ready none with state:=.busy }):=by rw[←hU];exact World.putObj_heap_same a8
   have au:U.heap[D]?=some (.deferred (some [])):=by rw[←hU];exact (World.putObj_heap_other (by omega)).trans ap
   have ao:R.Kept ks W U:=by rw[←hU];exact fun k hk o ho=>(World.putObj_heap_other (by have:=av k hk;omega)).trans ho
   have inv2:I pre U:=by rw[←hU];exact R.abides_put hI _ hi (by omega) aa rfl
   have fin:∀(jump:Option Code) (X:World),KeepsFrom D U X →
    (Instr.endRound (D+1) jump).run P X=.ok (.bool jump.isNone) (X.putObj (D+1) (.loop (lr (if jump.isNone then .ready else .done) jump))) ∧
    X.heap[D+1]?=some (.loop { lr .ready none with state:=.busy }) ∧
    (X.putObj (D+1) (.loop (lr (if jump.isNone then .ready else .done) jump))).heap[D+1]?=some (.loop (lr (if jump.isNone then .ready else .done) jump)) ∧
    (X.putObj (D+1) (.loop (lr (if jump.isNone then .ready else .done) jump))).heap[D]?=some (.deferred (some [])):=by
    intro jump X hX
    have r3:=hX.same (D+1) _ (by omega) ay rfl
    have d3:=hX.same D _ (by omega) au rfl
    have he:=run_endRound (P:=P) jump r3
    rw[ae]at he r3 ⊢
    exact⟨he,r3,World.putObj_heap_same (Array.getElem?_eq_some_iff.1 r3).1,(World.putObj_heap_other (by omega)).trans d3⟩
   have goal:=ai (D+1) pre x U inv2 hlen a7
   rw[←hU]at goal
   refine wpIn_mono goal ?_
   rw[hU]
   rintro e a3 X hp
   cases e with
   | normal =>
     obtain⟨k3,bc,i3⟩:=hp
     obtain⟨e1,e2,e3,e4⟩:=fin none X k3
     exact⟨_,_,e1,.inl ⟨rfl,⟨R.abides_put hI _ i3 (by omega) e2 rfl,e3,e4⟩,fun k hk o ho=>(World.putObj_heap_other (by have:=av k hk;omega)).trans (bc k hk o (ao k hk o ho))⟩⟩
   | ret =>
     obtain⟨k3,i3⟩:=hp
     obtain⟨e1,e2,e3,e4⟩:=fin (some .ret) X k3
     exact⟨_,_,e1,.inr ⟨rfl,.ret,R.abides_put (ak _) _ i3 (by omega) e2 rfl,e3,e4⟩⟩
   | exit id =>
     obtain⟨k3,i3⟩:=hp
     obtain⟨e1,e2,e3,e4⟩:=fin (some (.exit id)) X k3
     exact⟨_,_,e1,.inr ⟨rfl,.exit id,R.abides_put (ak _) _ i3 (by omega) e2 rfl,e3,e4⟩⟩
   | goto t =>
     obtain⟨k3,i3⟩:=hp
     obtain⟨e1,e2,e3,e4⟩:=fin (some (.goto t)) X k3
     exact⟨_,_,e1,.inr ⟨rfl,.goto t,R.abides_put (ak _) _ i3 (by omega) e2 rfl,e3,e4⟩⟩
   | panic ch=>exact hp.elim
   | outgrown=>exact hp.elim
 · rintro e X ⟨⟨v,rfl⟩,(⟨xs,hS,hi,aa,ap⟩|⟨pre,a6,c,hi,aa,ap⟩)⟩
   · have h:=run_endLoop (P:=P) aa (by rw[ae];simp[rec'])
     rw[ae]at h
     exact⟨none,_,h,ag D xs _ (Zb _) hS (R.abides_put hI _ hi (by omega) aa rfl) ((World.putObj_heap_other (by omega)).trans ap)⟩
   · have h:=run_endLoop (P:=P) aa (by rw[ae];simp[rec'])
     rw[ae]at h
     exact⟨some c,_,h,ah D c pre _ (Zb _) a6 (R.abides_put (ak c) _ hi (by omega) aa rfl) ((World.putObj_heap_other (by omega)).trans ap)⟩
theorem R.box_kept {W W':World} {row:Option Nat} {B b D:Nat} {t:TypeId} {v:Value} (h:Boxed W B t v) (hg:W.grownBy W' row)
 (hr:∀r,row=some r→r=b∨(D≤r∧∃o:Obj,W.heap[r]?=some o∧o.isCells=false)) (hne:B≠b):Boxed W' B t v:=by
 refine h.kept hg fun e=>?_
 rcases hr B e.symm with h1|⟨_,o,ho,hc⟩
 · exact hne h1
 · rw[show W.heap[B]?=_ from h]at ho
   cases ho
   cases hc
theorem R.own_kept {W W':World} {row:Option Nat} {b D base:Nat} {e:TypeId} {size:Nat} {v:Value} {k:Nat} {xs:List Value} (h:W.ownsRow base e size v k xs) (hg:W.grownBy W' row)
 (hr:∀r,row=some r→r=b∨(D≤r∧∃o:Obj,W.heap[r]?=some o∧o.isCells=false)) (hb:b<base):W'.ownsRow base e size v k xs:=by
 refine h.kept hg ?_
 rcases h.2 with ⟨rfl,_⟩|⟨g,cap,ae,rfl,aa,hh,_⟩
 · exact .inl rfl
 · refine .inr fun e'=>?_
   rcases hr g (by simpa [Value.ownBlock] using e'.symm) with h1|⟨_,o,ho,hc⟩
   · omega
   · rw[hh]at ho
     cases ho
     cases hc
theorem R.below_kept {n₀:Nat} {w W W':World} {row:Option Nat} {b D:Nat} (h:Below n₀ w W) (hs:n₀≤W.heap.size) (hg:W.grownBy W' row)
 (hr:∀r,row=some r→r=b∨(D≤r∧∃o:Obj,W.heap[r]?=some o∧o.isCells=false)) (h1:n₀≤b) (h2:n₀≤D):Below n₀ w W' :=
 h.grown hg hs fun k e=>by rcases hr k e with h3|⟨h3,_⟩ <;> omega
theorem R.own_base {W:World} {base aa:Nat} {e:TypeId} {size:Nat} {v:Value} {k:Nat} {xs:List Value} (h:W.ownsRow base e size v k xs) (hb:aa≤base):W.ownsRow aa e size v k xs:=by
 obtain⟨h1,h2⟩:=h
 refine⟨h1,?_⟩
 rcases h2 with h2|⟨g,cap,ae,hv,hg,r⟩
 · exact .inl h2
 · exact .inr ⟨g,cap,ae,hv,by omega,r⟩
theorem R.kept_set {ks:List Nat} {W:World} {B:Nat} (h:∀k∈ks,k≠B) (v:Value):R.Kept ks W (W.setCell ⟨B,0,none⟩ v):=fun k hk o ho=>(Ym _ _ _ k (fun e=>h k hk e)).trans ho
theorem R.appended {W w1:World} {D B n₀:Nat} {t e:TypeId} {size:Nat} {v v':Value} {k m:Nat} {xs ys:List Value} {tmp:Obj} {ks:List Nat}
 (hv:Boxed W B t v) (ag:t≠e) (af:W.ownsRow D e size v k xs) (ak:D≤W.heap.size) (hn:n₀≤B) (ap:B<D) (ah:∀q∈ks,q<D∧q≠B)
 (aa:w1.ownsRow D e size v' m ys) (ae:(W.alloc tmp).grownBy w1 v.ownBlock) :
 Boxed w1 B t v∧Boxed (w1.setCell ⟨B,0,none⟩ v') B t v'∧(w1.setCell ⟨B,0,none⟩ v').ownsRow D e size v' m ys∧KeepsFrom D W (w1.setCell ⟨B,0,none⟩ v')∧R.Kept ks W (w1.setCell ⟨B,0,none⟩ v')∧Below n₀ W (w1.setCell ⟨B,0,none⟩ v') ∧
  (∀B' t' u,B'≠B→B'<D→Boxed W B' t' u→Boxed (w1.setCell ⟨B,0,none⟩ v') B' t' u):=by
 obtain⟨a1,a2,_,a4,a5⟩:=hv.appended ag (R.own_base af (show n₀≤D by omega)) (by omega) hn (R.own_base aa (show n₀≤D by omega)) ae
 have low:∀q,q<D→∀o,W.heap[q]?=some o→w1.heap[q]?=some o:=fun q hq o ho=>by
  have h1:(W.alloc tmp).heap[q]?=some o:=(Below.heap_alloc _ _ _ (by omega)).trans ho
  refine (ae.block q (Array.getElem?_eq_some_iff.1 h1).1 fun e=>?_).trans h1
  rcases af.2 with ⟨rfl,_⟩|⟨g,cap,ao,rfl,aj,_⟩
  · simp[Value.ownBlock]at e
  · have:q=g:=by simpa [Value.ownBlock] using e
    omega
 refine⟨a1,a2,aa.kept (grownBy_setCell' w1 B v') (.inr (a1.not_row ag aa).symm),a4.from _,?_,a5,?_⟩
 · exact fun q hq o ho=>(R.kept_set (ks:=ks) (fun k hk=>(ah k hk).2) v') q hq o (low q (ah q hq).1 o ho)
 · exact fun B' t' u hne ai hb=>Boxed.other (show Boxed w1 B' t' u from low B' ai _ hb) hne v'
#print axioms R.range
end Go.Proofs.YtikiplbhlohmdaaGreatDoor
