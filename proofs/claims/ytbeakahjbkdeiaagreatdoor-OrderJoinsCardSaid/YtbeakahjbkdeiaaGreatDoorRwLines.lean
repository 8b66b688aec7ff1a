/- The laws' Char and Chars, by walking their texts. -/
import Derived.Test.YtbeakahjbkdeiaaGreatDoorAl1
import Derived.Test.YtbeakahjbkdeiaaGreatDoorSlt
import Derived.Laws.BitsAllLaws
import Derived.Test.YtbeakahjbkdeiaaGreatDoorRwPlain
import Derived.Test.YtbeakahjbkdeiaaGreatDoorMdFull
import Derived.Test.YtbeakahjbkdeiaaGreatDoorShelf
import Derived.Shelf.Strings.Builder1
import Derived.RangeFuncNested
import Derived.RangeFuncBound
import Derived.RangeFuncCalls
import Derived.RangeFuncLeaves
import Derived.WalkKit
import Derived.OwnWalkIn
import Derived.TacticsInMore
import Derived.LoopNIn
import Derived.LoopIn
import Derived.Test.YtbeakahjbkdeiaaGreatDoorProg
import Derived.BigRegionIn
import Derived.Maps.AppendAt
set_option linter.unusedVariables false
set_option linter.unusedSimpArgs false
namespace Go.Proofs.YtbeakahjbkdeiaaGreatDoor
open Go.RowKit
set_option linter.unusedSimpArgs false
set_option linter.unusedVariables false
theorem Ch.isC_iff (c:Int):C.isC c=true↔(0≤c∧c≤1114111∧(c<55296∨57343<c)):=by unfold C.isC;simp
theorem Ch.and_21 (n:Int):bits .and .i64 n 2097151=n%2097152:=by
 have hm:(BitVec.ofInt 64 2097151).toNat=2 ^ 21-1:=by decide
 have key:(BitVec.ofInt 64 n &&& BitVec.ofInt 64 2097151).toNat=(n%((2 ^ 64:Nat):Int)).toNat%2 ^ 21:=by
  rw[BitVec.toNat_and,XJ,hm,YF]
 show IntKind.i64.wrap ((BitVec.ofInt 64 n &&& BitVec.ofInt 64 2097151).toNat:Nat)=n%2097152
 rw[key,Z1]
 omega
theorem Ch.and_11 (n:Int):bits .and .i64 n 2047=n%2048:=by
 have hm:(BitVec.ofInt 64 2047).toNat=2 ^ 11-1:=by decide
 have key:(BitVec.ofInt 64 n &&& BitVec.ofInt 64 2047).toNat=(n%((2 ^ 64:Nat):Int)).toNat%2 ^ 11:=by
  rw[BitVec.toNat_and,XJ,hm,YF]
 show IntKind.i64.wrap ((BitVec.ofInt 64 n &&& BitVec.ofInt 64 2047).toNat:Nat)=n%2048
 rw[key,Z1]
 omega
def Ch.K (x:Int):Int:=if C.isC (x%2097152) then x%2097152 else x%2097152%2048
theorem Ch.K_is (x:Int):C.isC (Ch.K x)=true:=by
 unfold Ch.K
 split
 · assumption
 · rw[Ch.isC_iff];omega
theorem Ch.K_bd (x:Int) : -2147483648≤Ch.K x∧Ch.K x≤2147483647:=by
 have:=(Ch.isC_iff _).1 (Ch.K_is x)
 omega
set_option maxRecDepth 100000 in
theorem Ch.ris_any (c:Int) (w:World):Calls Tryz.prog 91 #[.int .i64 c] w fun e w'=>e=.returned (.bool (C.isC c))∧w=w':=by
 obtain⟨q,hq⟩:∃q,C.isC c=q:=⟨_,rfl⟩
 rw[hq]
 have HQ:=Za hq
 clear hq
 go_enter Tryz.func91,Tryz.ntmps91
 by_cases h0:0≤c
 · by_cases h1:c≤1114111
   · by_cases h2:c<55296
     · go_wp2
       go_ret
       exact⟨by rw[←HQ.out];exact ret_bool (by unfold C.isC;symm;exact decide_eq_true (by omega)),rfl⟩
     · by_cases h3:57343<c
       · go_wp2
         go_ret
         exact⟨by rw[←HQ.out];exact ret_bool (by unfold C.isC;symm;exact decide_eq_true (by omega)),rfl⟩
       · go_wp2
         go_ret
         exact⟨by rw[←HQ.out];exact ret_bool (by unfold C.isC;symm;exact decide_eq_false (by omega)),rfl⟩
   · go_wp2
     go_ret
     exact⟨by rw[←HQ.out];exact ret_bool (by unfold C.isC;symm;exact decide_eq_false (by omega)),rfl⟩
 · go_wp2
   go_ret
   exact⟨by rw[←HQ.out];exact ret_bool (by unfold C.isC;symm;exact decide_eq_false (by omega)),rfl⟩
set_option maxRecDepth 100000 in
set_option maxHeartbeats 400000 in
theorem Ch.char_any (x:Int) (w:World) :
 Calls Tryz.prog 47 #[.int .i64 x] w fun e w'=>e=.returned (.int .i32 (Ch.K x))∧w=w':=by
 have e1:=Ch.and_21 x
 have e2:=Ch.and_11 (x%2097152)
 have b1:0≤x%2097152:=by omega
 have b2:x%2097152≤2097151:=by omega
 have b3:0≤x%2048:=by omega
 have b4:x%2048≤2047:=by omega
 by_cases hi:C.isC (x%2097152)=true
 · have hk:Ch.K x=x%2097152:=by unfold Ch.K;rw[if_pos hi]
   have HK:=Za hk
   clear hk
   go_enter Tryz.func47,Tryz.ntmps47
   go_wp2_with (go_at_call 91;refine (Ch.ris_any _ _).mono ?_;rintro e w' ⟨rfl,rfl⟩)
   go_ret
   exact⟨ret_int HK.out.symm,rfl⟩
 · have hk:Ch.K x=x%2048:=by unfold Ch.K;rw[if_neg hi];omega
   have hi':C.isC (x%2097152)=false:=by simpa using hi
   have HK:=Za hk
   clear hk hi
   go_enter Tryz.func47,Tryz.ntmps47
   go_wp2_with (go_at_call 91;refine (Ch.ris_any _ _).mono ?_;rintro e w' ⟨rfl,rfl⟩)
   go_ret
   exact⟨ret_int HK.out.symm,rfl⟩
end Go.Proofs.YtbeakahjbkdeiaaGreatDoor
namespace Go.Proofs.YtbeakahjbkdeiaaGreatDoor
open Go.RowKit Go.Stop
set_option linter.unusedSimpArgs false
set_option linter.unusedVariables false
def Rw.txt (l:List Rw.Row):List UInt8:=l.flatMap fun r=>Rw.line r++[10]
theorem Rw.txt_app (a b:List Rw.Row):Rw.txt (a++b)=Rw.txt a++Rw.txt b:=by simp[Rw.txt]
theorem Rw.txt_one (r:Rw.Row):Rw.txt [r]=Rw.line r++[10]:=by simp[Rw.txt]
theorem Rw.txt_eq (l:List Rw.Row):Rw.txt l=(l.map Rw.line).flatMap fun x=>x++[10]:=by simp[Rw.txt,List.flatMap_map]
theorem Rw.line_len (r:Rw.Row) (h:Rw.right r):(Rw.line r).length≤1000:=by
 have:=Rw.line_ok r h
 unfold Rw.okl at this
 rw[Zx,Zp]at this
 exact this.1
theorem Rw.txt_len:∀(l:List Rw.Row),(∀r∈l,Rw.right r)→(Rw.txt l).length≤1001*l.length
 | [],_=>by simp[Rw.txt]
 | r::l,h=>by
   have h1:=Rw.line_len r (h r Zw)
   have h2:=Rw.txt_len l fun q hq=>h q (ZB _ hq)
   rw[show r::l=[r]++l from rfl,Rw.txt_app,Rw.txt_one]
   simp
   omega
def Rw.lastC:Int→List Rw.Row→Int
 | c,[]=>c
 | _,r::l=>Rw.lastC r.1 l
def Rw.fine (r:Rw.Row):Prop:=Rw.right r∧(C.isC r.1=true∨Rw.quiet r=true)
theorem Rw.parse_txt (l:List Rw.Row) (h:∀r∈l,Rw.fine r) (hr:Rw.rise (-1) l) (hl:l.length≤40000):Rw.parse (Rw.txt l)=some (l.filter fun r=>!Rw.quiet r):=by
 rw[Rw.txt_eq]
 exact Rw.parse_lines l h hr hl
end Go.Proofs.YtbeakahjbkdeiaaGreatDoor
namespace Go.Proofs.YtbeakahjbkdeiaaGreatDoor
open Go.RowKit
set_option linter.unusedSimpArgs false
set_option linter.unusedVariables false
theorem Bd.size:(Tryz.prog.info? 98).map (·.size)=some 2:=by kernel_rfl
theorem Bd.lies:liesAt Tryz.prog Tryz.prog.depth 98 (2/Tryz.prog.cellsOf 98) 0 98 1=true:=by kernel_rfl
theorem Bd.infoByte:(Tryz.prog.info? 5).map (fun i=>(i.zero,i.size,i.bytes))=some (some (.int .u8 0),1,1):=by kernel_rfl
section
set_option maxHeartbeats 1000000
set_option maxRecDepth 100000
theorem Bd.check_used (b:Nat) (w:World) (h0:w.cell? ⟨b,0,none⟩=some (.pointer (some ⟨b,0,none⟩))) :
 Calls Tryz.prog 107 #[.pointer (some ⟨b,0,none⟩)] w fun e w'=>e=.returned (.tuple #[])∧w'=w:=by
 obtain⟨j,hj,_⟩:=Option.map_eq_some_iff.1 Bd.size
 go_enter Tryz.func107,Tryz.ntmps107
 go_wp2
 rw[Lib.run_neq_ptr_same w _ Tryz.underlying95 hj]
 go_wp2
 go_end0
 exact⟨rfl,rfl⟩
theorem Bd.check_fresh (b:Nat) (w:World) (h0:w.cell? ⟨b,0,none⟩=some (.pointer none)) (aa:w.shape? b=some (98,2)) (af:w.frozen? ⟨b,0,none⟩=false) :
 Calls Tryz.prog 107 #[.pointer (some ⟨b,0,none⟩)] w fun e w'=>e=.returned (.tuple #[])∧w'=w.setCell ⟨b,0,none⟩ (.pointer (some ⟨b,0,none⟩)):=by
 obtain⟨j,hj,ae⟩:=Option.map_eq_some_iff.1 Bd.size
 go_enter Tryz.func107,Tryz.ntmps107
 go_wp2
 rw[Lib.run_to_unsafe w ⟨b,0,none⟩ Tryz.underlying95 Tryz.underlying221 hj (by rw[ae];decide) aa (Nat.zero_lt_succ 1)]
 simp only[Result.andThen]
 rw[Oper.upon_value]
 go_wp2
 rw[run_callFunc_extern Tryz.func142 (by kernel_rfl) (by kernel_rfl) (by kernel_rfl) (e:=Extern.AbiNoEscape.same) (by kernel_rfl)]
 rw[Lib.run_noEscape]
 simp only[Result.andThen]
 rw[Oper.upon_value]
 go_wp2
 rw[Lib.run_from_unsafe w ⟨b,0,none⟩ Tryz.underlying221 Tryz.underlying95 hj aa Bd.lies]
 simp only[Result.andThen]
 rw[Oper.upon_value]
 go_wp2
 go_end0
 exact⟨rfl,rfl⟩
end
end Go.Proofs.YtbeakahjbkdeiaaGreatDoor
namespace Go.Proofs.YtbeakahjbkdeiaaGreatDoor
open Go.RowKit Go.Stop
set_option linter.unusedSimpArgs false
set_option linter.unusedVariables false
def Ex.line (seen:List Int) (l:List UInt8):Option (List Int) :=
 if Fi.strip l=[] then some seen else (Fi.hex (Fi.strip l)).bind fun c=>if C.isC c=true∧c∉seen then some (seen++[c]) else none
def Ex.steps:List Int→List (List UInt8)→Option (List Int)
 | seen,[]=>some seen
 | seen,l::r=>(Ex.line seen l).bind fun s=>Ex.steps s r
def Ex.parse (s:List UInt8):Option (List Int):=if (Rw.lns [] s).all Rw.okl=true∧(Rw.lns [] s).length≤100000 then Ex.steps [] (Rw.lns [] s) else none
theorem Ex.steps_app:∀(a b:List (List UInt8)) (s:List Int),Ex.steps s (a++b)=(Ex.steps s a).bind fun s'=>Ex.steps s' b
 | [],b,s=>rfl
 | l::a,b,s=>by
   rw[ZP,Ex.steps,Ex.steps]
   rcases Ex.line s l with _|s'
   · rfl
   · exact Ex.steps_app a b s'
theorem Ex.steps_take {s0 sf s:List Int} {L:List (List UInt8)} {k:Nat} {x:List UInt8} (h:Ex.steps s0 L=some sf) (hx:L[k]?=some x) (hs:Ex.steps s0 (L.take k)=some s) :
 ∃s',Ex.line s x=some s'∧Ex.steps s0 (L.take (k+1))=some s':=by
 have hk:=(List.getElem?_eq_some_iff.1 hx).1
 have e:L.take k++x::L.drop (k+1)=L:=by
  have:=ZH k L
  rw[ZS hk]at this
  rw[Zc hk,Zg]at hx
  rw[hx]at this
  exact this
 rw[←e,Ex.steps_app,hs,Zt,Ex.steps]at h
 rcases hst:Ex.line s x with _|s'
 · rw[hst]at h;cases h
 · refine⟨s',rfl,?_⟩
   rw[Zr,hx,Ex.steps_app,hs]
   show Ex.steps s [x]=some s'
   rw[Ex.steps,hst]
   rfl
theorem Ex.line_some {s s':List Int} {l:List UInt8} (h:Ex.line s l=some s'):(Fi.strip l=[]∧s'=s)∨∃c,Fi.strip l≠[]∧Fi.hex (Fi.strip l)=some c∧C.isC c=true∧c∉s∧s'=s++[c]:=by
 unfold Ex.line at h
 split at h
 · rename_i h0
   simp only[Zg]at h
   exact .inl ⟨h0,h.symm⟩
 · rename_i h0
   rcases hc:Fi.hex (Fi.strip l) with _|c
   · rw[hc]at h;cases h
   · rw[hc,Zt]at h
     split at h
     · rename_i h1
       simp only[Zg]at h
       exact .inr ⟨c,h0,rfl,h1.1,h1.2,h.symm⟩
     · cases h
theorem Ex.steps_len:∀(L:List (List UInt8)) {s s':List Int},Ex.steps s L=some s'→s'.length≤s.length+L.length
 | [],s,s',h=>by
   rw[Ex.steps,Zg]at h
   subst h
   simp
 | x::L,s,s',h=>by
   rw[Ex.steps]at h
   rcases hs:Ex.line s x with _|q
   · rw[hs]at h;cases h
   · rw[hs,Zt]at h
     have h2:=Ex.steps_len L h
     rcases Ex.line_some hs with ⟨_,rfl⟩|⟨c,_,_,_,_,rfl⟩
     · simp;omega
     · simp at h2 ⊢;omega
theorem Ex.cut_miss (a:List UInt8) (h:(35:UInt8)∉a):(Lib.cut a [35]).1=a:=by
 have:=Fi.cut_head 35 a
 rw[Fi.spl_miss 35 a h,List.head?_cons,Zg]at this
 exact this.symm
theorem Ex.trim_pad (i:Nat) (t:List UInt8) (x y:UInt8) (m:List UInt8) (ht:t=x::m) (hx:x≠32) (hy:t.getLast?=some y) (aa:y≠32):∀j,Lib.trimB (List.replicate i 32++(t++List.replicate j 32)) 32=t:=by
 intro j
 rw[Fi.trim_comm]
 have h1:Lib.trimLeftB (List.replicate i 32++(t++List.replicate j 32)) 32=t++List.replicate j 32:=by
  unfold Lib.trimLeftB
  induction i with
  | zero=>rw[ht];simp[Yr,hx]
  | succ i ih=>rw[List.replicate_succ,List.cons_append,List.dropWhile_cons];simpa using ih
 rw[h1]
 induction j with
 | zero =>
   rcases YI t with h|⟨q,z,h⟩
   · rw[h]at hy;cases hy
   · rw[YJ]at h
     rw[h,List.getLast?_append]at hy
     simp at hy
     subst hy
     rw[List.replicate_zero,Yk,h]
     exact Fi.trimR_stop 32 q z aa
 | succ j ih =>
   rw[List.replicate_succ',←ZN,Fi.trimR_snoc]
   exact ih (by
    unfold Lib.trimLeftB
    clear h1 ih
    induction i with
    | zero=>rw[ht];simp[Yr,hx]
    | succ i ih=>rw[List.replicate_succ,List.cons_append,List.dropWhile_cons];simpa using ih)
theorem Ex.text_ends (n:Nat):∃x m y,Fi.text n=x::m∧x≠32∧(Fi.text n).getLast?=some y∧y≠32:=by
 rcases h:Fi.text n with _|⟨x,m⟩
 · exact absurd h (Rw.text_ne n)
 · have hb:=Rw.text_bytes n
   rw[h]at hb
   obtain⟨y,hy⟩:∃y,(x::m).getLast?=some y:=⟨_,List.getLast?_eq_some_getLast (by simp)⟩
   refine⟨x,m,y,rfl,?_,hy,?_⟩
   · rintro rfl;have:=(hb 32 Zw).1;exact absurd this (by decide)
   · rintro rfl;have:=(hb 32 (List.mem_of_getLast? hy)).1;exact absurd this (by decide)
theorem Ex.text_no35 (n:Nat):(35:UInt8)∉Fi.text n:=Rw.text_no n 35 (.inl (by decide))
theorem Ex.ok_of {x:List UInt8} (h1:x.length≤1000) (h2:∀b∈x,32≤b.toNat∧b.toNat≤126):Rw.okl x=true:=by
 unfold Rw.okl Rw.plainL
 rw[Zx,Zp,Ya]
 refine⟨h1,fun b hb=>?_⟩
 rw[Zx,Zp,Zp]
 exact h2 b hb
theorem Ex.ok_no {x:List UInt8} (h:Rw.okl x=true):(10:UInt8)∉x:=fun hm=>by
 unfold Rw.okl Rw.plainL at h
 rw[Zx,Ya]at h
 exact absurd (h.2 10 hm) (by decide)
end Go.Proofs.YtbeakahjbkdeiaaGreatDoor
namespace Go.Proofs.YtbeakahjbkdeiaaGreatDoor
open Go.RowKit
set_option linter.unusedVariables false
def R.Abides {β:Type} (B b:Nat) (I:β→World→Prop):Prop :=
 ∀s W W' row,I s W→W.grownBy W' row→(∀r,row=some r→r=b∨(B≤r∧∃o:Obj,W.heap[r]?=some o∧o.isCells=false))→I s W'
def R.Steps {β:Type} (b:Nat) (J:β→World→Prop):Prop:=∀s W W' row,J s W→W.grownBy W' row→(∀r,row=some r→r=b)→J s W'
def R.Kept (ks:List Nat) (W W':World):Prop:=∀k∈ks,∀o,W.heap[k]?=some o→W'.heap[k]?=some o
def R.Seq {α:Type} (n:Nat) (P:Program) (g:Nat) (lb:Array Value) (aa:α→Array Value) (b:Nat) (ks:List Nat) (S Sp:List α→Prop) (N:Nat) (W:World):Prop :=
 ∀(l:Nat) (J Jx:List α→World→Prop),R.Steps b J→R.Steps b Jx →
  (∀pre x W1,J pre W1→pre.length<N→Sp (pre++[x])→YieldAt Fence.wide (n-1) P l (aa x) W1 fun e W' =>
    (e=.returned (.bool true)∧J (pre++[x]) W'∧R.Kept ks W1 W')∨(e=.returned (.bool false)∧Jx (pre++[x]) W')) →
  J [] W →
  CallsIn Fence.wide n P g (#[.func (.yield l) #[] #[]]++lb) W fun e W'=>(∃v,e=.returned v)∧((∃xs,S xs∧J xs W')∨(∃pre,Sp pre∧Jx pre W'))
def R.Post {α:Type} (B:Nat) (ks:List Nat) (I:List α→World→Prop) (Ix:Code→List α→World→Prop) (xs:List α) (W:World):Exit→Act→World→Prop
 | .normal,_,W'=>KeepsFrom B W W'∧R.Kept ks W W'∧I xs W'
 | .ret,_,W'=>KeepsFrom B W W'∧Ix .ret xs W'
 | .exit id,_,W'=>KeepsFrom B W W'∧Ix (.exit id) xs W'
 | .goto t,_,W'=>KeepsFrom B W W'∧Ix (.goto t) xs W'
 | .panic _,_,_=>False
 | .outgrown,_,_=>False
theorem R.abides_alloc {β:Type} {B b:Nat} {I:β→World→Prop} (h:R.Abides B b I) {s:β} {W:World} (o:Obj) (hs:I s W):I s (W.alloc o) :=
 h s W _ none hs (Yi W o none) (fun r e=>by cases e)
theorem R.abides_put {β:Type} {B b:Nat} {I:β→World→Prop} (h:R.Abides B b I) {s:β} {W:World} {l:Nat} {o:Obj} (o':Obj) (hs:I s W) (hB:B≤l) (hl:W.heap[l]?=some o) (ho:o.isCells=false):I s (W.putObj l o') :=
 h s W _ (some l) hs (grownBy_putObj' W l o') (fun r e=>by cases e;exact .inr ⟨hB,o,hl,ho⟩)
theorem R.step_keeps {b k:Nat} {W W':World} {row:Option Nat} {o:Obj} (hg:W.grownBy W' row) (hr:∀r,row=some r→r=b) (hk:W.heap[k]?=some o) (hne:k≠b):W'.heap[k]?=some o :=
 (hg.block k (Array.getElem?_eq_some_iff.1 hk).1 (fun e=>hne (hr k e.symm))).trans hk
theorem R.range {α:Type} {n:Nat} {P:Program} {g:Operand} {ps:Array Tmp} {assign body:Code} {Q:Exit→Act→World→Prop} {a:Act} {w:World} (h1:1≤n)
 {gf:Nat} {lb:Array Value} (hg:a.eval g=.func (.func gf) #[] lb) (eg:∀args w,(callFunc gf args).run P w=.ok (.enter gf args) w)
 {ae:α→Array Value} {b:Nat} (hb:b<w.heap.size) {ks:List Nat} (aw:∀k∈ks,k<w.heap.size) {S Sp:List α→Prop} {N:Nat} (ay:∀W,Below w.heap.size w W→R.Seq (n-1) P gf lb ae b ks S Sp N W) (a8:∀x,(ae x).size=ps.size)
 (I:List α→World→Prop) (Ix:Code→List α→World→Prop) (hI:R.Abides w.heap.size b I) (ao:∀c,R.Abides w.heap.size b (Ix c)) (h0:I [] w) (a₁:α→Act)
 (af:∀(l:Nat) (x:α) (W:World) (K:Act→World→Prop),K (a₁ x) W →
   assign.wpIn (Fence.wide.inRound l) (n-1-1) P (Exit.then K (fun _ _ _=>False)) { tmps:=(ps.zip (ae x)).foldl (fun t (p,v)=>t.setIfInBounds p v) a.tmps,defers:=[] } W)
 (ai:∀(l:Nat) (pre:List α) (x:α) (W:World),I pre W→pre.length<N→Sp (pre++[x])→body.wpIn (Fence.wide.inRound l) (n-1-1) P (R.Post w.heap.size ks I Ix (pre++[x]) W) (a₁ x) W)
 (ah:∀(D:Nat) (xs:List α) (W:World),w.heap.size≤D→S xs→I xs W→W.heap[D]?=some (.deferred (some []))→Q .normal { a with defers:={ target:=.collected D,args := #[] }::a.defers } W)
 (aj:∀(D:Nat) (c:Code) (pre:List α) (W:World),w.heap.size≤D→Sp pre→Ix c pre W→W.heap[D]?=some (.deferred (some []))→c.wpIn Fence.wide n P Q { a with defers:={ target:=.collected D,args := #[] }::a.defers } W) :
 (Code.rangeFunc g ps assign body).wpIn Fence.wide n P Q a w:=by
 refine wpIn_rangeFunc fun fn ba=>?_
 show ∃(l:Nat) (mark:List Deferred) (w₁:World) (d:Deferred) (bg:World) (f:FuncId) (args:Array Value) (w₂:World),_
 let rec':LoopState→Option Code→Loop:=fun st pe=>{ state:=st,pending:=pe,fn,tmps:=a.tmps,params:=ps,assign,body,defers:=w.heap.size }
 obtain⟨D,hD⟩:∃D,w.heap.size=D:=⟨_,rfl⟩
 obtain⟨lr,ag⟩:∃lr,lr=rec':=⟨_,rfl⟩
 obtain⟨V,hV⟩:∃V,(w.alloc (.deferred (some []))).alloc (.loop (lr .ready none))=V:=⟨_,rfl⟩
 have av:V.heap[D+1]?=some (.loop (lr .ready none)):=by
  have h:=World.alloc_heap_new (w.alloc (.deferred (some []))) (.loop (lr .ready none))
  rw[ZD,hV,hD]at h
  exact h
 have au:V.heap[D]?=some (.deferred (some [])):=by
  rw[←hV,←hD]
  exact (Below.heap_alloc _ _ _ (by simp)).trans (World.alloc_heap_new w _)
 have inv1:I [] V:=by
  rw[←hV]
  exact R.abides_alloc hI _ (R.abides_alloc hI _ h0)
 have ar:Below w.heap.size w V:=by
  rw[←hV]
  exact ((Zd _ w).alloc (Zb _) _).alloc (by simp) _
 rw[hD]at hI ao hb aw ai ah aj
 refine⟨D+1,[{ target:=.collected D,args := #[] }],V,{ target:=.fn (.func gf) lb,args := #[.func (.yield (D+1)) #[] #[]] },V,gf,#[.func (.yield (D+1)) #[] #[]]++lb,V,?_,?_,?_,?_,fun _=>h1,?_⟩
 · rw[←hV,←hD,ag]
   exact run_enterLoop_outer _ _ _ _ _
 · simp only[resolve,hg]
   simp[go_sem]
 · intro f' a1
   simp[Target.leads]at a1
   subst a1
   exact trivial
 · simp[invoke,go_sem,eg]
 have bd:D≠b:=by omega
 have a6:D+1≠b:=by omega
 refine ((ay V ar) (D+1)
  (fun pre W=>I pre W∧W.heap[D+1]?=some (.loop (lr .ready none))∧W.heap[D]?=some (.deferred (some [])))
  (fun pre W=>∃c,Ix c pre W∧W.heap[D+1]?=some (.loop (lr .done (some c)))∧W.heap[D]?=some (.deferred (some [])))
  (fun s X Y row hs ak hr=>⟨hI s X Y row hs.1 ak (fun r e=>.inl (hr r e)),R.step_keeps ak hr hs.2.1 a6,R.step_keeps ak hr hs.2.2 bd⟩)
  (fun s X Y row hs ak hr=>by
    obtain⟨c,i0,i1,i2⟩:=hs
    exact⟨c,ao c s X Y row i0 ak (fun r e=>.inl (hr r e)),R.step_keeps ak hr i1 a6,R.step_keeps ak hr i2 bd⟩)
  ?_ ⟨inv1,av,au⟩).mono ?_
 · rintro pre x W ⟨hi,aa,ap⟩ hlen bc
   have a7:D+1<W.heap.size:=(Array.getElem?_eq_some_iff.1 aa).1
   have hy:=run_yield (P:=P) (args:=ae x) aa (by rw[ag];exact a8 x)
   rw[ag]at hy
   refine⟨fn,_,assign,body,hy,roundIn_of_wpIn ba (af _ x W _ ⟨_,run_beginRound aa (by rw[ag]),?_⟩)⟩
   obtain⟨U,hU⟩:∃U,W.putObj (D+1) (.loop { lr .ready none with state:=.busy })=U:=⟨_,rfl⟩
   have ax:U.heap[D+1]?=some (.loop { lr .ready none with state:=.busy }):=by rw[←hU];exact World.putObj_heap_same a7
   have az:U.heap[D]?=some (.deferred (some [])):=by rw[←hU];exact (World.putObj_heap_other (by omega)).trans ap
   have aq:R.Kept ks W U:=by rw[←hU];exact fun k hk o ho=>(World.putObj_heap_other (by have:=aw k hk;omega)).trans ho
   have inv2:I pre U:=by rw[←hU];exact R.abides_put hI _ hi (by omega) aa rfl
   have fin:∀(jump:Option Code) (X:World),KeepsFrom D U X →
    (Instr.endRound (D+1) jump).run P X=.ok (.bool jump.isNone) (X.putObj (D+1) (.loop (lr (if jump.isNone then .ready else .done) jump))) ∧
    X.heap[D+1]?=some (.loop { lr .ready none with state:=.busy }) ∧
    (X.putObj (D+1) (.loop (lr (if jump.isNone then .ready else .done) jump))).heap[D+1]?=some (.loop (lr (if jump.isNone then .ready else .done) jump)) ∧
    (X.putObj (D+1) (.loop (lr (if jump.isNone then .ready else .done) jump))).heap[D]?=some (.deferred (some [])):=by
    intro jump X hX
    have r3:=hX.same (D+1) _ (by omega) ax rfl
    have d3:=hX.same D _ (by omega) az rfl
    have he:=run_endRound (P:=P) jump r3
    rw[ag]at he r3 ⊢
    exact⟨he,r3,World.putObj_heap_same (Array.getElem?_eq_some_iff.1 r3).1,(World.putObj_heap_other (by omega)).trans d3⟩
   have goal:=ai (D+1) pre x U inv2 hlen bc
   rw[←hU]at goal
   refine wpIn_mono goal ?_
   rw[hU]
   rintro e a3 X hp
   cases e with
   | normal =>
     obtain⟨k3,bb,i3⟩:=hp
     obtain⟨e1,e2,e3,e4⟩:=fin none X k3
     exact⟨_,_,e1,.inl ⟨rfl,⟨R.abides_put hI _ i3 (by omega) e2 rfl,e3,e4⟩,fun k hk o ho=>(World.putObj_heap_other (by have:=aw k hk;omega)).trans (bb k hk o (aq k hk o ho))⟩⟩
   | ret =>
     obtain⟨k3,i3⟩:=hp
     obtain⟨e1,e2,e3,e4⟩:=fin (some .ret) X k3
     exact⟨_,_,e1,.inr ⟨rfl,.ret,R.abides_put (ao _) _ i3 (by omega) e2 rfl,e3,e4⟩⟩
   | exit id =>
     obtain⟨k3,i3⟩:=hp
     obtain⟨e1,e2,e3,e4⟩:=fin (some (.exit id)) X k3
     exact⟨_,_,e1,.inr ⟨rfl,.exit id,R.abides_put (ao _) _ i3 (by omega) e2 rfl,e3,e4⟩⟩
   | goto t =>
     obtain⟨k3,i3⟩:=hp
     obtain⟨e1,e2,e3,e4⟩:=fin (some (.goto t)) X k3
     exact⟨_,_,e1,.inr ⟨rfl,.goto t,R.abides_put (ao _) _ i3 (by omega) e2 rfl,e3,e4⟩⟩
   | panic ch=>exact hp.elim
   | outgrown=>exact hp.elim
 · rintro e X ⟨⟨v,rfl⟩,(⟨xs,hS,hi,aa,ap⟩|⟨pre,bf,c,hi,aa,ap⟩)⟩
   · have h:=run_endLoop (P:=P) aa (by rw[ag];simp[rec'])
     rw[ag]at h
     exact⟨none,_,h,ah D xs _ (Zb _) hS (R.abides_put hI _ hi (by omega) aa rfl) ((World.putObj_heap_other (by omega)).trans ap)⟩
   · have h:=run_endLoop (P:=P) aa (by rw[ag];simp[rec'])
     rw[ag]at h
     exact⟨some c,_,h,aj D c pre _ (Zb _) bf (R.abides_put (ao c) _ hi (by omega) aa rfl) ((World.putObj_heap_other (by omega)).trans ap)⟩
theorem R.box_kept {W W':World} {row:Option Nat} {B b D:Nat} {t:TypeId} {v:Value} (h:Boxed W B t v) (hg:W.grownBy W' row)
 (hr:∀r,row=some r→r=b∨(D≤r∧∃o:Obj,W.heap[r]?=some o∧o.isCells=false)) (hne:B≠b):Boxed W' B t v:=by
 refine h.kept hg fun e=>?_
 rcases hr B e.symm with h1|⟨_,o,ho,hc⟩
 · exact hne h1
 · rw[show W.heap[B]?=_ from h]at ho
   cases ho
   cases hc
theorem R.own_kept {W W':World} {row:Option Nat} {b D base:Nat} {e:TypeId} {size:Nat} {v:Value} {k:Nat} {xs:List Value} (h:W.ownsRow base e size v k xs) (hg:W.grownBy W' row)
 (hr:∀r,row=some r→r=b∨(D≤r∧∃o:Obj,W.heap[r]?=some o∧o.isCells=false)) (hb:b<base):W'.ownsRow base e size v k xs:=by
 refine h.kept hg ?_
 rcases h.2 with ⟨rfl,_⟩|⟨g,cap,aa,rfl,ae,hh,_⟩
 · exact .inl rfl
 · refine .inr fun e'=>?_
   rcases hr g (by simpa [Value.ownBlock] using e'.symm) with h1|⟨_,o,ho,hc⟩
   · omega
   · rw[hh]at ho
     cases ho
     cases hc
theorem R.below_kept {n₀:Nat} {w W W':World} {row:Option Nat} {b D:Nat} (h:Below n₀ w W) (hs:n₀≤W.heap.size) (hg:W.grownBy W' row)
 (hr:∀r,row=some r→r=b∨(D≤r∧∃o:Obj,W.heap[r]?=some o∧o.isCells=false)) (h1:n₀≤b) (h2:n₀≤D):Below n₀ w W' :=
 h.grown hg hs fun k e=>by rcases hr k e with h3|⟨h3,_⟩ <;> omega
theorem R.own_base {W:World} {base aa:Nat} {e:TypeId} {size:Nat} {v:Value} {k:Nat} {xs:List Value} (h:W.ownsRow base e size v k xs) (hb:aa≤base):W.ownsRow aa e size v k xs:=by
 obtain⟨h1,h2⟩:=h
 refine⟨h1,?_⟩
 rcases h2 with h2|⟨g,cap,ae,hv,hg,r⟩
 · exact .inl h2
 · exact .inr ⟨g,cap,ae,hv,by omega,r⟩
theorem R.kept_set {ks:List Nat} {W:World} {B:Nat} (h:∀k∈ks,k≠B) (v:Value):R.Kept ks W (W.setCell ⟨B,0,none⟩ v):=fun k hk o ho=>(Ye _ _ _ k (fun e=>h k hk e)).trans ho
theorem R.appended {W w1:World} {D B n₀:Nat} {t e:TypeId} {size:Nat} {v v':Value} {k m:Nat} {xs ys:List Value} {tmp:Obj} {ks:List Nat}
 (hv:Boxed W B t v) (ah:t≠e) (af:W.ownsRow D e size v k xs) (ak:D≤W.heap.size) (hn:n₀≤B) (ao:B<D) (ag:∀q∈ks,q<D∧q≠B)
 (aa:w1.ownsRow D e size v' m ys) (ae:(W.alloc tmp).grownBy w1 v.ownBlock) :
 Boxed w1 B t v∧Boxed (w1.setCell ⟨B,0,none⟩ v') B t v'∧(w1.setCell ⟨B,0,none⟩ v').ownsRow D e size v' m ys∧KeepsFrom D W (w1.setCell ⟨B,0,none⟩ v')∧R.Kept ks W (w1.setCell ⟨B,0,none⟩ v')∧Below n₀ W (w1.setCell ⟨B,0,none⟩ v') ∧
  (∀B' t' u,B'≠B→B'<D→Boxed W B' t' u→Boxed (w1.setCell ⟨B,0,none⟩ v') B' t' u):=by
 obtain⟨a1,a2,_,a4,a5⟩:=hv.appended ah (R.own_base af (show n₀≤D by omega)) (by omega) hn (R.own_base aa (show n₀≤D by omega)) ae
 have low:∀q,q<D→∀o,W.heap[q]?=some o→w1.heap[q]?=some o:=fun q hq o ho=>by
  have h1:(W.alloc tmp).heap[q]?=some o:=(Below.heap_alloc _ _ _ (by omega)).trans ho
  refine (ae.block q (Array.getElem?_eq_some_iff.1 h1).1 fun e=>?_).trans h1
  rcases af.2 with ⟨rfl,_⟩|⟨g,cap,aj,rfl,ap,_⟩
  · simp[Value.ownBlock]at e
  · have:q=g:=by simpa [Value.ownBlock] using e
    omega
 refine⟨a1,a2,aa.kept (grownBy_setCell' w1 B v') (.inr (a1.not_row ah aa).symm),a4.from _,?_,a5,?_⟩
 · exact fun q hq o ho=>(R.kept_set (ks:=ks) (fun k hk=>(ag k hk).2) v') q hq o (low q (ag q hq).1 o ho)
 · exact fun B' t' u hne ai hb=>Boxed.other (show Boxed w1 B' t' u from low B' ai _ hb) hne v'
#print axioms R.range
attribute [local go_sem] Oper.semAt_some
set_option linter.unusedSimpArgs false
set_option linter.unusedVariables false
def Q.bas (l:List (List UInt8)):List ByteArray:=l.map fun x=>⟨x.toArray⟩
def Q.left (b:Nat) (W:World):Nat:=match W.cell? ⟨b,0,none⟩ with|some (.string r)=>r.size|_=>0
theorem Q.left_eq {W:World} {b:Nat} {t:TypeId} {r:ByteArray} (h:Boxed W b t (.string r)):Q.left b W=r.size:=by unfold Q.left;rw[h.cell]
theorem Q.kept {b:Nat} {ks:List Nat} {W W':World} (h:R.Kept ks W W') {t:TypeId} {v:Value} (hb:Boxed W b t v) (hm:b∈ks):Boxed W' b t v:=h b hm _ hb
theorem Q.split_hit {r:ByteArray} {i:Nat} (h:Lib.indexByte r.data.toList 32=i):Q.bas (Fi.spl 32 [] r.data.toList)=r.extract 0 i::Q.bas (Fi.spl 32 [] (r.extract (i+1) r.size).data.toList):=by
 obtain⟨h1,h2⟩:=Fi.idx_hit 32 _ i h
 have hd:(r.extract (i+1) r.size).data.toList=r.data.toList.drop (i+1):=by rw[Lib.extract_data,Zj (by simp)]
 have ht:(r.extract 0 i).data.toList=r.data.toList.take i:=by rw[Lib.extract_data];simp
 rw[hd]
 conv=>lhs;rw[h1]
 rw[Fi.spl_hit 32 _ _ h2]
 unfold Q.bas
 rw[Z0,←ht,Lib.mk_data]
theorem Q.split_miss {r:ByteArray} (h:Lib.indexByte r.data.toList 32 = -1):Q.bas (Fi.spl 32 [] r.data.toList)=[r]:=by
 rw[Fi.spl_miss 32 _ (Fi.idx_miss 32 _ h)]
 unfold Q.bas
 rw[Xp,Lib.mk_data]
theorem Q.idx_lt {r:ByteArray} {i:Nat} (h:Lib.indexByte r.data.toList 32=i):i<r.size:=by
 obtain⟨h1,_⟩:=Fi.idx_hit 32 _ i h
 have:=Z5 List.length h1
 have hl:r.data.toList.length=r.size:=by simp
 rw[Zi,ZM,Zm,ZL,hl]at this
 omega
set_option maxRecDepth 100000 in
set_option maxHeartbeats 4000000 in
theorem Q.splitSeq1 (s:ByteArray) (hs:s.size≤1000000) (n b:Nat) (hn:1≤n) (W:World) (h0:Boxed W b 9 (.string s)) (h1:Boxed W (b+1) 9 (.string ⟨#[32]⟩)) (h2:Boxed W (b+2) 3 (.int .i64 0)) :
 R.Seq n Tryz.prog 265 #[.pointer (some ⟨b+1,0,none⟩),.pointer (some ⟨b,0,none⟩),.pointer (some ⟨b+2,0,none⟩)] (fun x:ByteArray => #[Value.string x]) b [b,b+1,b+2]
  (fun xs=>xs=Q.bas (Fi.spl 32 [] s.data.toList)) (fun pre=>pre <+: Q.bas (Fi.spl 32 [] s.data.toList)) (Q.bas (Fi.spl 32 [] s.data.toList)).length W:=fun l J Jx hJ ao hY hj0=>by
 obtain⟨L,hL⟩:∃L,Q.bas (Fi.spl 32 [] s.data.toList)=L:=⟨_,rfl⟩
 rw[hL]at hY ⊢
 have c1:=h1.cell
 refine callsIn_of_wp Tryz.func265 rfl trivial ?_ rfl
 simp only[Tryz.ntmps265,List.size_toArray,ZM,Z9,Nat.reduceAdd,Nat.reduceSub,XC,XD,List.push_toArray,XH,ZZ,ZP]
 gi_wp2
 gi_loopw [7] (fun _ wr=>∃(pre:List ByteArray) (r:ByteArray),L=pre++Q.bas (Fi.spl 32 [] r.data.toList)∧Boxed wr b 9 (.string r)∧Boxed wr (b+1) 9 (.string ⟨#[32]⟩)∧Boxed wr (b+2) 3 (.int .i64 0)∧J pre wr∧r.size≤s.size)
  (fun _ wr=>Q.left b wr)
 case atStart=>exact⟨[],s,hL.symm,h0,h1,h2,hj0,Zb _⟩
 case round =>
  obtain⟨pre,r,aa,b0,b1,b2,ah,aj⟩:=hrel
  have d0:=b0.cell
  have d1:=b1.cell
  have d2:=b2.cell
  by_cases hidx:Lib.indexByte r.data.toList 32 = -1
  · rw[Q.split_miss hidx]at aa
    obtain⟨fn,tmps,assign,body,hy,hR⟩:=hY pre r wr ah (by rw[aa];simp) (by rw[aa];exact List.prefix_refl _)
    gi_wp2_with (refine⟨trivial,?_⟩;gi_at_call 211;refine (callsIn_wide.2 (Tryz.strings_Index_one r 32 _)).mono ?_;rintro e w1 ⟨rfl,rfl⟩;rw[hidx])
    refine hR.mono ?_
    rintro e W3 (⟨rfl,ag,af⟩|⟨rfl,ae⟩)
    · gi_wp2
      go_end0
      exact⟨⟨_,rfl⟩,.inl ⟨pre++[r],aa.symm,ag⟩⟩
    · gi_wp2
      go_end0
      exact⟨⟨_,rfl⟩,.inr ⟨pre++[r],by rw[aa];exact List.prefix_refl _,ae⟩⟩
  · have hge:=Lib.indexByte_ge r.data.toList 32
    obtain⟨i,hi⟩:∃i:Nat,Lib.indexByte r.data.toList 32=i:=⟨(Lib.indexByte r.data.toList 32).toNat,by omega⟩
    have ak:=Q.idx_lt hi
    rw[Q.split_hit hi]at aa
    obtain⟨x,hx⟩:∃x,r.extract 0 i=x:=⟨_,rfl⟩
    obtain⟨z,hz⟩:∃z,r.extract (i+1) r.size=z:=⟨_,rfl⟩
    rw[hx,hz]at aa
    have ap:z.size=r.size-(i+1):=by rw[←hz,ByteArray.size_extract];omega
    have i0:¬(i:Int)<0:=by omega
    have i1:(0:Int)≤(i:Int):=by omega
    have i2:(i:Int)≤r.size:=by omega
    have i3:(0:Int)≤(i:Int)+1:=by omega
    have i4:(i:Int)+1≤r.size:=by omega
    obtain⟨fn,tmps,assign,body,hy,hR⟩:=hY pre x wr ah (by rw[aa];simp) ⟨_,by rw[aa,ZN];rfl⟩
    have HI:=Za hi
    have HP:=Za aa
    clear hi hidx aa hge
    gi_wp2_with (refine⟨trivial,?_⟩;gi_at_call 211;refine (callsIn_wide.2 (Tryz.strings_Index_one r 32 _)).mono ?_;rintro e w1 ⟨rfl,rfl⟩;rw[HI.out])
    refine hR.mono ?_
    rintro e W3 (⟨rfl,ag,af⟩|⟨rfl,ae⟩)
    · have k0:=Q.kept af b0 (by simp)
      have k1:=Q.kept af b1 (by simp)
      have k2:=Q.kept af b2 (by simp)
      have e0:=k0.cell
      have e1:=k1.cell
      have e2:=k2.cell
      have f0:=k0.frozen
      have ai:=Za ag
      clear af ag
      gi_wp2
      go_roundw
      case rel=>exact⟨pre++[x],z,by rw[HP.out];simp,k0.set _,k1.other (by omega) _,k2.other (by omega) _,hJ _ _ _ _ ai.out (grownBy_setCell' W3 b (.string z)) (fun q e=>by cases e;rfl),by omega⟩
      case measure=>rw[Q.left_eq (k0.set _),Q.left_eq b0];omega
    · gi_wp2
      refine Yy (results_none rfl _ _ _) rfl ?_
      exact⟨⟨_,rfl⟩,.inr ⟨pre++[x],⟨_,by rw[HP.out,ZN];rfl⟩,ae⟩⟩
attribute [local go_sem] Oper.semAt_some
set_option linter.unusedSimpArgs false
set_option linter.unusedVariables false
def Rw.raw:List UInt8→List UInt8→List (List UInt8)
 | w,[]=>if w=[] then [] else [w]
 | w,b::r=>if b=10 then (w++[10])::Rw.raw [] r else Rw.raw (w++[b]) r
def Rw.trimN (x:List UInt8):List UInt8:=if x.getLast?=some 10 then x.dropLast else x
theorem Rw.raw_app:∀(a w r:List UInt8),(10:UInt8)∉a→Rw.raw w (a++r)=Rw.raw (w++a) r
 | [],w,r,_=>by simp
 | b::a,w,r,h=>by
   have hb:b≠10:=fun e=>h (by rw[e];exact Zw)
   rw[ZP,Rw.raw,Zs hb,Rw.raw_app a _ r (fun h'=>h (ZB _ h')),ZN]
   rfl
theorem Rw.raw_trim:∀(l w:List UInt8),(10:UInt8)∉w→(Rw.raw w l).map Rw.trimN=Rw.lns w l
 | [],w,h=>by
   unfold Rw.raw Rw.lns
   split
   · rfl
   · rw[Xp]
     unfold Rw.trimN
     rw[Zs]
     intro hl
     exact h (List.mem_of_getLast? hl)
 | b::r,w,h=>by
   unfold Rw.raw Rw.lns
   split
   · rw[Z0,Rw.raw_trim r [] (by simp)]
     congr 1
     unfold Rw.trimN
     simp
   · rename_i hb
     exact Rw.raw_trim r _ fun hm=>by
      rcases List.mem_append.1 hm with h1|h1
      · exact h h1
      · rw[Zy]at h1;exact hb h1.symm
def Rw.raws (s:ByteArray):List ByteArray:=(Rw.raw [] s.data.toList).map fun x=>⟨x.toArray⟩
theorem Rw.raws_hit {r:ByteArray} {i:Nat} (h:Lib.indexByte r.data.toList 10=i):Rw.raws r=r.extract 0 (i+1)::Rw.raws (r.extract (i+1) r.size):=by
 obtain⟨h1,h2⟩:=Fi.idx_hit 10 _ i h
 have hd:(r.extract (i+1) r.size).data.toList=r.data.toList.drop (i+1):=by rw[Lib.extract_data,Zj (by simp)]
 have hl:i<r.data.toList.length:=by
  have:=Z5 List.length h1
  rw[Zi,ZM,Zm,ZL]at this
  omega
 have hg:r.data.toList[i]=10:=by
  have e:=Z5 (·[i]?) h1
  simp only[Zc hl]at e
  rw[ZF (by rw[Zm];omega),Zm,Nat.min_eq_left (by omega),Yu]at e
  simpa using e
 have ht:(r.extract 0 (i+1)).data.toList=r.data.toList.take i++[10]:=by
  rw[Lib.extract_data,List.drop_zero,Nat.sub_zero,Yz hl,hg]
 unfold Rw.raws
 rw[hd]
 conv=>lhs;rw[h1]
 rw[Rw.raw_app _ _ _ h2,ZZ,Rw.raw,Zv rfl,Z0,←ht,Lib.mk_data]
theorem Rw.raws_miss {r:ByteArray} (h:Lib.indexByte r.data.toList 10 = -1) (h0:0<r.size):Rw.raws r=[r]:=by
 have hne:r.data.toList≠[]:=fun e=>by
  have:r.data.toList.length=r.size:=by simp
  rw[e,Z9]at this;omega
 have:=Rw.raw_app r.data.toList [] [] (Fi.idx_miss 10 _ h)
 rw[Yk,ZZ,Rw.raw,Zs hne]at this
 unfold Rw.raws
 rw[this,Xp,Lib.mk_data]
theorem Rw.raws_none {r:ByteArray} (h0:r.size=0):Rw.raws r=[]:=by
 have:r.data.toList=[]:=List.eq_nil_of_length_eq_zero (by simpa using h0)
 unfold Rw.raws
 rw[this]
 rfl
theorem Rw.idx_lt {r:ByteArray} {c:UInt8} {i:Nat} (h:Lib.indexByte r.data.toList c=i):i<r.size:=by
 obtain⟨h1,_⟩:=Fi.idx_hit c _ i h
 have:=Z5 List.length h1
 have hl:r.data.toList.length=r.size:=by simp
 rw[Zi,ZM,Zm,ZL,hl]at this
 omega
theorem Rw.grown_drew {W W':World} {row:Option Nat} (h:W.grownBy W' row):W.grownBy W'.drew row:=⟨h.os,h.tape,h.output,h.size,h.block⟩
theorem Rw.idx10 (r:ByteArray) (w:World):Calls Tryz.prog 135 #[.string r,.int .u8 10] w fun e w'=>e=.returned (.int .i64 (Lib.indexByte r.data.toList 10))∧w'=w :=
 Tryz.strings_IndexByte r 10 w
set_option maxRecDepth 100000 in
set_option maxHeartbeats 4000000 in
theorem Rw.linesSeq1 (s:ByteArray) (hs:s.size≤1000000000) (n b:Nat) (hn:1≤n) (W:World) (h0:Boxed W b 9 (.string s)) :
 R.Seq n Tryz.prog 134 #[.pointer (some ⟨b,0,none⟩)] (fun x:ByteArray => #[Value.string x]) b [b]
  (fun xs=>xs=Rw.raws s) (fun pre=>pre <+: Rw.raws s) (Rw.raws s).length W:=fun l J Jx hJ ar hY hj0=>by
 obtain⟨L,hL⟩:∃L,Rw.raws s=L:=⟨_,rfl⟩
 rw[hL]at hY ⊢
 have c1:=h0.cell
 refine callsIn_of_wp Tryz.func134 rfl trivial ?_ rfl
 simp only[Tryz.ntmps134,List.size_toArray,ZM,Z9,Nat.reduceAdd,Nat.reduceSub,XC,XD,List.push_toArray,XH,ZZ,ZP]
 gi_wp2
 gi_loopw [3] (fun _ wr=>∃(pre:List ByteArray) (r:ByteArray),L=pre++Rw.raws r∧Boxed wr b 9 (.string r)∧J pre wr∧r.size≤s.size)
  (fun _ wr=>Q.left b wr)
 case atStart=>exact⟨[],s,hL.symm,h0,hj0,Zb _⟩
 case round =>
  obtain⟨pre,r,aa,b0,af,ap⟩:=hrel
  have d0:=b0.cell
  have ao:=b0.frozen
  by_cases hr0:r.size=0
  · rw[Rw.raws_none hr0,Yk]at aa
    have hz:¬(0:Int)<(r.size:Int):=by omega
    have HP:=Za aa
    clear aa hr0
    gi_wp2
    go_end0
    refine⟨⟨_,rfl⟩,.inl ?_⟩
    rw[HP.out]
    first|exact af|exact⟨pre,rfl,af⟩
  have hz:(0:Int)<(r.size:Int):=by omega
  by_cases hidx:Lib.indexByte r.data.toList 10 = -1
  · rw[Rw.raws_miss hidx (by omega)]at aa
    have hm:¬(0:Int) ≤ -1:=by decide
    obtain⟨U,hU⟩:∃U,wr.setCell ⟨b,0,none⟩ (.string ⟨#[]⟩)=U:=⟨_,rfl⟩
    have ag:J pre U:=by rw[←hU];exact hJ _ _ _ _ af (grownBy_setCell' wr b (.string ⟨#[]⟩)) (fun q e=>by cases e;rfl)
    have bU:Boxed U b 9 (.string ⟨#[]⟩):=by rw[←hU];exact b0.set _
    obtain⟨fn,tmps,assign,body,hy,hR⟩:=hY pre r U ag (by rw[aa];simp) (by rw[aa];exact List.prefix_refl _)
    have HU:=Za hU
    have HP:=Za aa
    have HI:=Za hidx
    clear aa hU hidx
    gi_wp2_with (first|(refine⟨trivial,?_⟩;gi_at_call 135;refine (callsIn_wide.2 (Rw.idx10 _ _)).mono ?_;rintro e w1 ⟨rfl,rfl⟩;rw[HI.out])|fail)
    rw[HU.out]
    rw[hy]
    gi_wp2
    refine hR.mono ?_
    rintro e W3 (⟨rfl,ah,ai⟩|⟨rfl,ae⟩)
    · have k0:=Q.kept ai bU (by simp)
      gi_wp2
      go_roundw
      case rel=>exact⟨pre++[r],⟨#[]⟩,by rw[HP.out,Rw.raws_none rfl,Yk],k0,ah,Zz _⟩
      case measure=>rw[Q.left_eq k0,Q.left_eq b0];show (0:Nat)<r.size;omega
    · gi_wp2
      refine Yy (results_none rfl _ _ _) rfl ?_
      exact⟨⟨_,rfl⟩,.inr ⟨pre++[r],by rw[HP.out];exact List.prefix_refl _,ae⟩⟩
  · have hge:=Lib.indexByte_ge r.data.toList 10
    obtain⟨i,hi⟩:∃i:Nat,Lib.indexByte r.data.toList 10=i:=⟨(Lib.indexByte r.data.toList 10).toNat,by omega⟩
    have aq:=Rw.idx_lt hi
    rw[Rw.raws_hit hi]at aa
    obtain⟨x,hx⟩:∃x,r.extract 0 (i+1)=x:=⟨_,rfl⟩
    obtain⟨z,aj⟩:∃z,r.extract (i+1) r.size=z:=⟨_,rfl⟩
    rw[hx,aj]at aa
    have au:z.size=r.size-(i+1):=by rw[←aj,ByteArray.size_extract];omega
    have i0:¬(i:Int)<0:=by omega
    have i1:(0:Int)≤(i:Int):=by omega
    have i2:(i:Int)≤r.size:=by omega
    have i3:(0:Int)≤(i:Int)+1:=by omega
    have i4:(i:Int)+1≤r.size:=by omega
    obtain⟨U,hU⟩:∃U,(wr.setCell ⟨b,0,none⟩ (.string z)).drew=U:=⟨_,rfl⟩
    have ak:wr.grownBy U (some b):=by rw[←hU];exact Rw.grown_drew (grownBy_setCell' wr b (.string z))
    have ag:J pre U:=hJ _ _ _ _ af ak (fun q e=>by cases e;rfl)
    have bU:Boxed U b 9 (.string z):=by rw[←hU];exact b0.set _
    obtain⟨fn,tmps,assign,body,hy,hR⟩:=hY pre x U ag (by rw[aa];simp) ⟨_,by rw[aa,ZN];rfl⟩
    have HU:=Za hU
    have HY:=Za hy
    clear hU ak hy
    have HI:=Za hi
    have HP:=Za aa
    clear hi hidx aa hge
    gi_wp2_with (first|(refine⟨trivial,?_⟩;gi_at_call 135;refine (callsIn_wide.2 (Rw.idx10 _ _)).mono ?_;rintro e w1 ⟨rfl,rfl⟩;rw[HI.out])|fail)
    gi_region
    gi_wp2
    rw[HU.out,HY.out]
    gi_wp2
    refine hR.mono ?_
    rintro e W3 (⟨rfl,ah,ai⟩|⟨rfl,ae⟩)
    · have k0:=Q.kept ai bU (by simp)
      gi_wp2
      go_roundw
      case rel=>exact⟨pre++[x],z,by rw[HP.out];simp,k0,ah,by omega⟩
      case measure=>rw[Q.left_eq k0,Q.left_eq b0];omega
    · gi_wp2
      refine Yy (results_none rfl _ _ _) rfl ?_
      exact⟨⟨_,rfl⟩,.inr ⟨pre++[x],⟨_,by rw[HP.out,ZN];rfl⟩,ae⟩⟩
theorem Rw.lines0_any (s:ByteArray) (w:World) :
 Calls Tryz.prog 99 #[.string s] w fun e w'=>e=.returned (.func (.func 134) #[] #[.pointer (some ⟨w.heap.size,0,none⟩)])∧w'=w.alloc (.cells #[.string s] 9):=by
 go_enter Tryz.func99,Tryz.ntmps99
 go_wp2
 go_ret
 exact⟨rfl,rfl⟩
attribute [local go_sem] Oper.semAt_some
set_option linter.unusedSimpArgs false
set_option linter.unusedVariables false
theorem Rw.infoStr:(Tryz.prog.info? 9).map (fun i=>(i.zero,i.size,i.bytes))=some (some (.string ByteArray.empty),1,16):=by kernel_rfl
set_option maxHeartbeats 4000000 in
theorem Rw.plain_any (s:ByteArray) (hs:s.size≤1000000000) (hp:Rw.plainL s.data.toList=true) (w:World) :
 Calls Tryz.prog 101 #[.string s] w fun e w'=>e=.returned (.bool true)∧w'=w:=by
 have hb:∀k (h:k<s.size),32≤s[k].toNat∧s[k].toNat≤126:=by
  intro k h
  unfold Rw.plainL at hp
  rw[Ya]at hp
  have:=hp s[k] (by
   rw[show s[k]=s.data.toList[k]'(by simpa using h) from rfl]
   exact List.getElem_mem _)
  rw[Zx,Zp,Zp]at this
  exact this
 go_enter Tryz.func101,Tryz.ntmps101
 go_wp2
 go_loop [6] (fun i=>∃k:Nat,k≤s.size∧i=.int .i64 k) (fun i=>s.size-(intOf i).toNat)
 case atStart=>exact⟨0,Zz _,rfl⟩
 case round =>
  obtain⟨k,hk,rfl⟩:=hrel
  by_cases hlt:k<s.size
  · obtain⟨h1,h2⟩:=hb k hlt
    have aa:¬((s[k].toNat:Int)<32):=by omega
    have ae:¬((126:Int)<(s[k].toNat:Int)):=by omega
    go_wp2
    exact⟨⟨k+1,by omega,by go_num⟩,by simp[intOf];omega⟩
  · go_wp2
    go_ret
    exact⟨rfl,rfl⟩
def Rw.cutN (x:ByteArray):ByteArray:=⟨(Rw.trimN x.data.toList).toArray⟩
def Rw.strs (l:List ByteArray):List Value:=l.map fun x=>Value.string (Rw.cutN x)
def Rw.RetLines (L:List (List UInt8)) (w:World) (e:Ending) (w':World):Prop :=
 ∃A c,e=.returned (.tuple #[.slice A L.length c,.nilIface])∧Sl w' w'.heap.size A (L.map fun x=>Value.string ⟨x.toArray⟩)∧Below w.heap.size w w'
def Rw.RetL (L:List ByteArray) (w:World) (e:Ending) (w':World):Prop :=
 ∃A c,e=.returned (.tuple #[.slice A L.length c,.nilIface])∧Sl w' w'.heap.size A (Rw.strs L)∧Below w.heap.size w w'
theorem Rw.trim_eq (x:List UInt8):Lib.trimSuffix x [10]=Rw.trimN x:=by
 unfold Lib.trimSuffix Lib.hasSuffix Rw.trimN
 rcases YI x with rfl|⟨m,b,rfl⟩
 · simp
 · rw[YJ]
   simp only[List.getLast?_append,List.getLast?_singleton,List.dropLast_concat,Option.or_some,Zg,List.isSuffixOf_iff_suffix,Zi,Yq,Nat.add_sub_cancel,List.take_left]
   by_cases hb:b=10
   · subst hb
     simp
   · have h:¬([10] <:+ m++[b]):=by
      rintro⟨t,ht⟩
      have:=Z5 List.getLast? ht
      simp at this
      exact hb this.symm
     simp[hb,h]
theorem Rw.trim_any (x:ByteArray) (hx:x.size≤1000000000) (w:World):Calls Tryz.prog 100 #[.string x,.string ⟨#[10]⟩] w fun e w'=>e=.returned (.string (Rw.cutN x))∧w'=w:=by
 have h:=Tryz.strings_TrimSuffix x ⟨#[10]⟩ w (by omega)
 rw[show (⟨#[10]⟩:ByteArray).data.toList=[10] from rfl,Rw.trim_eq]at h
 exact h
theorem Rw.raw_sum:∀(l w:List UInt8),∀x∈Rw.raw w l,x.length≤w.length+l.length
 | [],w,x,h=>by
   unfold Rw.raw at h
   split at h
   · cases h
   · rw[Zy]at h;subst h;simp
 | b::r,w,x,h=>by
   unfold Rw.raw at h
   split at h
   · rcases List.mem_cons.1 h with rfl|h
     · simp
     · have:=Rw.raw_sum r [] x h;simp at this ⊢;omega
   · have:=Rw.raw_sum r _ x h;simp at this ⊢;omega
theorem Rw.raws_size (s:ByteArray) (x:ByteArray) (h:x∈Rw.raws s):x.size≤s.size:=by
 unfold Rw.raws at h
 obtain⟨y,hy,rfl⟩:=List.mem_map.1 h
 have:=Rw.raw_sum s.data.toList [] y hy
 have e:s.data.toList.length=s.size:=by simp
 show y.toArray.size≤s.size
 simp at this ⊢
 exact this
theorem Rw.raws_len (s:ByteArray):(Rw.raws s).length≤s.size+1:=by
 have h1:=Z5 List.length (Rw.raw_trim s.data.toList [] (by simp))
 have h2:=Rw.lns_len s.data.toList []
 have e:s.data.toList.length=s.size:=by simp
 unfold Rw.raws
 rw[Zf]at h1 ⊢
 omega
set_option maxRecDepth 100000 in
set_option maxHeartbeats 4000000 in
theorem Rw.linesL_any (s:ByteArray) (hs:s.size≤1000000) (ah:∀x∈Rw.raws s,(Rw.cutN x).size≤1000∧Rw.plainL (Rw.cutN x).data.toList=true) (w:World) :
 Calls Tryz.prog 63 #[.string s] w (Rw.RetL (Rw.raws s) w):=by
 obtain⟨i0,hi,ay,ba,a8⟩:=Yf Rw.infoStr
 have ai:=Rw.raws_size s
 have ag:=Rw.raws_len s
 refine (callsIn_wide (n:=5)).1 ?_
 refine callsIn_of_wp_marks Tryz.func63 rfl trivial ?_ rfl
 simp only[Tryz.ntmps63,List.size_toArray,ZM,Z9,Nat.reduceAdd,Nat.reduceSub,XC,XD,List.push_toArray,XH,ZZ,ZP]
 gi_wp2_with (refine⟨trivial,?_⟩;gi_at_call 99;refine (callsIn_wide.2 (Rw.lines0_any s _)).mono ?_;rintro e w1 ⟨rfl,ae⟩;have HW:=Za ae;clear ae)
 have ae:=HW.out
 have bg:w1.heap.size=w.heap.size+4:=by rw[ae];simp
 have q2:Boxed w1 w.heap.size 85 (.slice none 0 0):=by
  rw[ae]
  exact (((Boxed.new w 85 (.slice none 0 0)).alloc _).alloc _).alloc _
 have q3:Boxed w1 (w.heap.size+1) 35 (.nilIface):=by
  have h:=Boxed.new (w.alloc (.cells #[.slice none 0 0] 85)) 35 (.nilIface)
  rw[ZD]at h
  rw[ae]
  exact (h.alloc _).alloc _
 have q4:Boxed w1 (w.heap.size+1+1) 85 (.slice none 0 0):=by
  have h:=Boxed.new ((w.alloc (.cells #[.slice none 0 0] 85)).alloc (.cells #[.nilIface] 35)) 85 (.slice none 0 0)
  rw[ZD,ZD]at h
  rw[ae]
  exact h.alloc _
 have q5:Boxed w1 (w.heap.size+1+1+1) 9 (.string s):=by
  have h:=Boxed.new (((w.alloc (.cells #[.slice none 0 0] 85)).alloc (.cells #[.nilIface] 35)).alloc (.cells #[.slice none 0 0] 85)) 9 (.string s)
  rw[ZD,ZD,ZD]at h
  rw[ae]
  exact h
 have aw:Below w.heap.size w w1:=by
  rw[ae]
  exact ((((Zd _ w).alloc (by simp) _).alloc (by simp) _).alloc (by simp;omega) _).alloc (by simp;omega) _
 clear ae HW
 obtain⟨L,hL⟩:∃L,Rw.raws s=L:=⟨_,rfl⟩
 obtain⟨D,hD⟩:∃D,w1.heap.size=D:=⟨_,rfl⟩
 have ak:=fun (W:World) (hW:Below w1.heap.size w1 W)=>Rw.linesSeq1 s (by omega) (5-1) (w.heap.size+1+1+1) (by omega) W ((hW.block _ (by omega)).trans q5)
 rw[hL]at ak ai ag ah ⊢
 refine R.range (n:=5) (by omega) (gf:=134) (lb := #[.pointer (some ⟨w.heap.size+1+1+1,0,none⟩)]) rfl (enters_of Tryz.func134 (by kernel_rfl) rfl)
  (b:=w.heap.size+1+1+1) (by omega) (ks:=[w.heap.size+1+1+1]) (by simp;omega) ak (fun _=>rfl)
  (fun pre W=>(∃v,Boxed W (w.heap.size+1+1) 85 v∧W.ownsRow D 9 1 v pre.length (Rw.strs pre))∧Boxed W w.heap.size 85 (.slice none 0 0)∧Boxed W (w.heap.size+1) 35 (.nilIface)∧Below w.heap.size w W∧D≤W.heap.size)
  (fun c pre W=>False)
  (by
    rintro pre X Y row ⟨⟨v,a2,a3⟩,a4,a5,a6,a7⟩ hg hr
    exact⟨⟨v,R.box_kept a2 hg hr (by omega),R.own_kept a3 hg hr (by omega)⟩,R.box_kept a4 hg hr (by omega),R.box_kept a5 hg hr (by omega),R.below_kept a6 a6.size hg hr (by omega) (by omega),Zh a7 hg.size⟩)
  (fun c pre X Y row h _ _=>h)
  ⟨⟨_,q4,ZG _ _ _ _⟩,q2,q3,aw,by omega⟩
  (fun x=>{ tmps := #[.string s,undef,.pointer (some ⟨w.heap.size,0,none⟩),.pointer (some ⟨w.heap.size+1,0,none⟩),.pointer (some ⟨w.heap.size+1+1,0,none⟩),.string x,undef,.string s,
    .func (.func 134) #[] #[.pointer (some ⟨w.heap.size+1+1+1,0,none⟩)],.string x,undef,undef,undef,undef,undef,undef,undef,undef,undef,undef,undef,undef,undef,undef,undef,undef,undef,undef,undef,undef,undef,undef],defers:=[] }) ?assign ?body ?done ?stop
 case assign =>
  intro l x W K hK
  gi_wp2
  exact hK
 case body =>
  rintro l pre x W ⟨⟨v,hv,aa⟩,h2,h3,hB,ao⟩ hlen a1
  rw[hD]
  have aq:x∈L:=by
   obtain⟨t,rfl⟩:=a1
   simp
  obtain⟨az,ap⟩:=ah x aq
  have bf:=ai x aq
  have hT:=Rw.trim_any x (by omega)
  obtain⟨y,hy⟩:∃y,Rw.cutN x=y:=⟨_,rfl⟩
  rw[hy]at az ap
  simp only[hy]at hT
  have hP:=Rw.plain_any y (by omega) ap
  have hc:=hv.cell
  have bh:¬(1000:Int)<(y.size:Int):=by omega
  have HY:=Za hy
  clear hy ap
  gi_wp2_with first
   | (refine⟨trivial,?_⟩;gi_at_call 100;refine (CallsIn.inRound l (callsIn_wide.2 (hT _))).mono ?_;rintro e w2 ⟨rfl,au⟩;subst w2)
   | (refine⟨trivial,?_⟩;gi_at_call 101;refine (CallsIn.inRound l (callsIn_wide.2 (hP _))).mono ?_;rintro e w2 ⟨rfl,au⟩;subst w2)
   | (gi_at_builtin;refine wpListIn_append_own _ rfl _ _ 85 rfl D 9 i0 (.string ByteArray.empty) 1 16 Tryz.underlying85 hi ay ba a8 rfl (by decide) _ _ _ rfl (aa.alloc _) ⟨W.heap.size,0,none⟩ 1 1 [.string y] rfl rfl (cell_one_new _ _ _) (by simp[Value.oneCell']) (by simp only[maxLen];omega) (by omega) (by simp;omega) ?_;intro v' w3 af aj _;obtain⟨g',av,rfl⟩:=ownsRow_succ af;obtain⟨g1,g2,g3,g4,g5,g6,g7⟩:=R.appended (n₀:=w.heap.size) (ks:=[w.heap.size+1+1+1]) hv (by decide) aa ao (by omega) (by omega) (by simp;omega) af aj;have bb:=g1.cell;have bc:=g1.frozen)
   | fail
  exact⟨g4,g5,⟨_,g2,by rw[Zi,show Rw.strs (pre++[x])=Rw.strs pre++[Value.string y] by simp[Rw.strs,HY.out]];exact g3⟩,g7 _ _ _ (by omega) (by omega) h2,g7 _ _ _ (by omega) (by omega) h3,hB.trans g6,Zh ao g4.size⟩
 case done =>
  rintro E ys W hE rfl ⟨⟨v,hv,aa⟩,h2,h3,hB,ao⟩ hK
  have hc:=hv.cell
  have c2:=h2.cell
  have f2:=h2.frozen
  have c3:=h3.cell
  have f3:=h3.frozen
  obtain⟨A,cp,rfl⟩:=own_form aa
  gi_wp2
  have r1:=aa.kept (grownBy_setCell' W w.heap.size (.slice A ys.length cp)) (.inr (h2.not_row (by decide) aa).symm)
  have ar:=h3.other (show w.heap.size+1≠w.heap.size by omega) (.slice A ys.length cp)
  have r2:=r1.kept (grownBy_setCell' _ (w.heap.size+1) (.nilIface)) (.inr (ar.not_row (by decide) r1).symm)
  have b2:=(h2.set (.slice A ys.length cp)).other (show w.heap.size≠w.heap.size+1 by omega) (.nilIface)
  have b3:=ar.set (.nilIface)
  have hK':((W.setCell ⟨w.heap.size,0,none⟩ (.slice A ys.length cp)).setCell ⟨w.heap.size+1,0,none⟩ (.nilIface)).heap[E]?=some (.deferred (some [])) :=
   (Ye _ _ _ E (by show E≠w.heap.size+1;omega)).trans ((Ye _ _ _ E (by show E≠w.heap.size;omega)).trans hK)
  have k1:=(hB.setCell (p:=⟨w.heap.size,0,none⟩) (Zb _) (.slice A ys.length cp)).setCell (p:=⟨w.heap.size+1,0,none⟩) (by show w.heap.size≤w.heap.size+1;omega) (.nilIface)
  obtain⟨X,hX⟩:∃X,(W.setCell ⟨w.heap.size,0,none⟩ (.slice A ys.length cp)).setCell ⟨w.heap.size+1,0,none⟩ (.nilIface)=X:=⟨_,rfl⟩
  rw[hX]at r2 b2 b3 hK' k1 ⊢
  have e2:=cell_kept b2.cell (grownBy_putObj' X E (.deferred none)) (fun r e=>by cases e;exact⟨_,hK',rfl⟩)
  have e3:=cell_kept b3.cell (grownBy_putObj' X E (.deferred none)) (fun r e=>by cases e;exact⟨_,hK',rfl⟩)
  refine⟨by simp,.inl ⟨_,_,rfl,run_takeDeferred hK',?_⟩⟩
  refine⟨.tuple #[.slice A ys.length cp,.nilIface],?_,?_⟩
  · simp[results,Tryz.f63,go_sem,e2,e3]
  · rw[hL]
    exact⟨A,cp,rfl,Sl.of_own (ownsRow_putObj r2 _ hK' rfl),k1.trans (belowK_b (w:=w) (Zb _) X E _ _ (by omega) hK' rfl rfl)⟩
 case stop =>
  rintro E c pre W hE ax h hK
  exact h.elim
theorem Rw.lines_any (s:ByteArray) (hs:s.size≤1000000) (ag:(Rw.lns [] s.data.toList).all Rw.okl=true) (w:World) :
 Calls Tryz.prog 63 #[.string s] w (Rw.RetLines (Rw.lns [] s.data.toList) w):=by
 have af:=Rw.raw_trim s.data.toList [] (by simp)
 have ae:∀x∈Rw.raws s,(Rw.cutN x).size≤1000∧Rw.plainL (Rw.cutN x).data.toList=true:=by
  intro x hx
  unfold Rw.raws at hx
  obtain⟨y,hy,rfl⟩:=List.mem_map.1 hx
  have hm:Rw.trimN y∈Rw.lns [] s.data.toList:=by rw[←af];exact List.mem_map_of_mem hy
  rw[Ya]at ag
  have:=ag _ hm
  unfold Rw.okl at this
  rw[Zx,Zp]at this
  exact⟨by show (Rw.trimN y).toArray.size≤1000;simpa using this.1,this.2⟩
 have aa:(Rw.lns [] s.data.toList).map (fun x=>Value.string ⟨x.toArray⟩)=Rw.strs (Rw.raws s)∧(Rw.lns [] s.data.toList).length=(Rw.raws s).length:=by
  rw[←af]
  unfold Rw.strs Rw.raws
  rw[Y4,Y4]
  exact⟨rfl,by simp⟩
 refine (Rw.linesL_any s hs ae w).mono ?_
 rintro e w' ⟨A,c,rfl,h1,h2⟩
 exact⟨A,c,by rw[aa.2],by rw[aa.1];exact h1,h2⟩
end Go.Proofs.YtbeakahjbkdeiaaGreatDoor
