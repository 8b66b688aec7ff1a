/- A set's characters rise. -/
import Derived.Test.YtjakbblocbicjaaGreatDoorRwLines
import Derived.Lib.AppendIntMem
set_option maxRecDepth 100000
set_option maxHeartbeats 4000000
set_option linter.unusedVariables false
set_option linter.unusedSimpArgs false
namespace Go.Proofs.YtjakbblocbicjaaGreatDoor
open Go.Proofs.Tryz
section
open Go.RowKit
attribute [local go_sem] Oper.semAt_some
theorem zJz (s:ByteArray) (w:World) :
 Calls prog 248 #[.string s,.string ⟨#[32]⟩] w fun e w'=>e=.returned (.func (.func 280) #[] #[.pointer (some ⟨w.heap.size+1,0,none⟩),.pointer (some ⟨w.heap.size,0,none⟩),.pointer (some ⟨w.heap.size+2,0,none⟩)]) ∧
  w'=((w.alloc (.cells #[.string s] 9)).alloc (.cells #[.string ⟨#[32]⟩] 9)).alloc (.cells #[.int .i64 0] 3):=by
 have inner:∀w:World,Calls prog 269 #[.string s,.string ⟨#[32]⟩,.int .i64 0] w fun e w'=>e=.returned (.func (.func 280) #[] #[.pointer (some ⟨w.heap.size+1,0,none⟩),.pointer (some ⟨w.heap.size,0,none⟩),.pointer (some ⟨w.heap.size+2,0,none⟩)]) ∧
  w'=((w.alloc (.cells #[.string s] 9)).alloc (.cells #[.string ⟨#[32]⟩] 9)).alloc (.cells #[.int .i64 0] 3):=by
  intro w;go_enter func269,ntmps269;go_wp2;go_ret;exact⟨rfl,rfl⟩
 go_enter func248,ntmps248;go_wp2_with (refine (inner _).mono ?_;rintro e w1 ⟨rfl,rfl⟩);go_ret;exact⟨rfl,rfl⟩
def Q.ok (x:ByteArray):Bool:=(zAF x.data.toList).isSome
def Q.val (x:ByteArray):Int:=(zAF x.data.toList).getD 0
def zJ7 (l:List ByteArray):List Value:=l.map fun x=>Value.int .i32 (Q.val x)
def zEk (L:List ByteArray) (w:World) (e:Ending) (w':World):Prop :=
 if L.all Q.ok then ∃A c,e=.returned (.tuple #[.slice A L.length c,.bool true])∧Slt w' 21 A (zJ7 L)∧Below w.heap.size w w'
 else e=.returned (.tuple #[.slice none 0 0,.bool false])∧Below w.heap.size w w'
theorem zMB (s:ByteArray) (hs:s.size≤1000000) (w:World) :
 Calls prog 217 #[.string s] w (zEk (zEi (zAi 32 [] s.data.toList)) w):=by
 obtain⟨i0,hi,ax,au,av⟩:=Z2 zBL;refine (callsIn_wide (n:=5)).1 ?_;refine callsIn_of_wp_marks func217 rfl trivial ?_ rfl;simp only[ntmps217,Qg,ZB,ZY,Nat.reduceAdd,Nat.reduceSub,XP,XQ,Qh,XX,ZK,Zx]
 gi_wp2_with (refine⟨trivial,?_⟩;gi_at_call 248;refine (callsIn_wide.2 (zJz s _)).mono ?_;rintro e w1 ⟨rfl,ae⟩;have HW:=hy' ae;clear ae)
 have ae:=HW.o;have az:w1.heap.size=w.heap.size+6:=by rw[ae];simp
 have q2:Boxed w1 w.heap.size 35 (.slice none 0 0):=by
  rw[ae];exact (((((Boxed.new w 35 (.slice none 0 0)).alloc _).alloc _).alloc _).alloc _).alloc _
 have q3:Boxed w1 (w.heap.size+1) 4 (.bool false):=by
  have h:=Boxed.new (w.alloc (.cells #[.slice none 0 0] 35)) 4 (.bool false);rw[ZJ]at h;rw[ae];exact (((h.alloc _).alloc _).alloc _).alloc _
 have q4:Boxed w1 (w.heap.size+1+1) 35 (.slice none 0 0):=by
  have h:=Boxed.new ((w.alloc (.cells #[.slice none 0 0] 35)).alloc (.cells #[.bool false] 4)) 35 (.slice none 0 0);rw[ZJ,ZJ]at h;rw[ae];exact ((h.alloc _).alloc _).alloc _
 have q5:Boxed w1 (w.heap.size+1+1+1) 9 (.string s):=by
  have h:=Boxed.new (((w.alloc (.cells #[.slice none 0 0] 35)).alloc (.cells #[.bool false] 4)).alloc (.cells #[.slice none 0 0] 35)) 9 (.string s);rw[ZJ,ZJ,ZJ]at h;rw[ae];exact (h.alloc _).alloc _
 have q6:Boxed w1 (w.heap.size+1+1+1+1) 9 (.string ⟨#[32]⟩):=by
  have h:=Boxed.new ((((w.alloc (.cells #[.slice none 0 0] 35)).alloc (.cells #[.bool false] 4)).alloc (.cells #[.slice none 0 0] 35)).alloc (.cells #[.string s] 9)) 9 (.string ⟨#[32]⟩);rw[ZJ,ZJ,ZJ,ZJ]at h;rw[ae];exact h.alloc _
 have q7:Boxed w1 (w.heap.size+1+1+1+2) 3 (.int .i64 0):=by
  have h:=Boxed.new (((((w.alloc (.cells #[.slice none 0 0] 35)).alloc (.cells #[.bool false] 4)).alloc (.cells #[.slice none 0 0] 35)).alloc (.cells #[.string s] 9)).alloc (.cells #[.string ⟨#[32]⟩] 9)) 3 (.int .i64 0);rw[ZJ,ZJ,ZJ,ZJ,ZJ]at h;rw[ae];exact h
 have aq:Below w.heap.size w w1:=by
  rw[ae];exact ((((((Zc _ w).alloc (by simp) _).alloc (by simp) _).alloc (by simp;omega) _).alloc (by simp;omega) _).alloc (by simp;omega) _).alloc (by simp;omega) _
 clear ae HW;obtain⟨L,hL⟩:∃L,zEi (zAi 32 [] s.data.toList)=L:=⟨_,rfl⟩
 have ay:L.length≤1000001:=by
  rw[←hL];unfold zEi;rw[Ze];have:=zH7 32 s.data.toList [];have e:s.data.toList.length=s.size:=by simp
  omega
 obtain⟨D,hD⟩:∃D,w1.heap.size=D:=⟨_,rfl⟩;have ai:=fun (W:World) (hW:Below w1.heap.size w1 W)=>zNW s hs (5-1) (w.heap.size+1+1+1) (by omega) W ((hW.block _ (by omega)).trans q5) ((hW.block _ (by omega)).trans q6) ((hW.block _ (by omega)).trans q7)
 rw[hL]at ai ⊢
 refine R.range (n:=5) (by omega) (gf:=280) (lb := #[.pointer (some ⟨w.heap.size+1+1+1+1,0,none⟩),.pointer (some ⟨w.heap.size+1+1+1,0,none⟩),.pointer (some ⟨w.heap.size+1+1+1+2,0,none⟩)]) rfl (enters_of func280 (by kernel_rfl) rfl)
  (b:=w.heap.size+1+1+1) (by omega) (ks:=[w.heap.size+1+1+1,w.heap.size+1+1+1+1,w.heap.size+1+1+1+2]) (by simp;omega) ai (fun _=>rfl)
  (fun pre W=>pre.all Q.ok=true∧(∃v,Boxed W (w.heap.size+1+1) 35 v∧W.ownsRow D 21 1 v pre.length (zJ7 pre))∧Boxed W w.heap.size 35 (.slice none 0 0)∧Boxed W (w.heap.size+1) 4 (.bool false)∧Below w.heap.size w W∧D≤W.heap.size)
  (fun c pre W=>c=.ret∧pre.all Q.ok=false∧Boxed W w.heap.size 35 (.slice none 0 0)∧Boxed W (w.heap.size+1) 4 (.bool false)∧Below w.heap.size w W)
  (by
    rintro pre X Y row ⟨a1,⟨v,a2,a3⟩,a4,a5,a6,a7⟩ hg hr;exact⟨a1,⟨v,zC3 a2 hg hr (by omega),zKn a3 hg hr (by omega)⟩,zC3 a4 hg hr (by omega),zC3 a5 hg hr (by omega),zEU a6 a6.size hg hr (by omega) (by omega),Zh a7 hg.size⟩)
  (by
    rintro c pre X Y row ⟨a1,a2,a4,a5,a6⟩ hg hr;exact⟨a1,a2,zC3 a4 hg hr (by omega),zC3 a5 hg hr (by omega),zEU a6 a6.size hg hr (by omega) (by omega)⟩)
  ⟨rfl,⟨_,q4,ZE _ _ _ _⟩,q2,q3,aq,by omega⟩
  (fun x=>{ tmps := #[.string s,undef,.pointer (some ⟨w.heap.size,0,none⟩),.pointer (some ⟨w.heap.size+1,0,none⟩),.pointer (some ⟨w.heap.size+1+1,0,none⟩),.string x,undef,undef,.string s,
    .func (.func 280) #[] #[.pointer (some ⟨w.heap.size+1+1+1+1,0,none⟩),.pointer (some ⟨w.heap.size+1+1+1,0,none⟩),.pointer (some ⟨w.heap.size+1+1+1+2,0,none⟩)],.string x,undef,undef,undef,undef,undef,undef,undef,undef,undef,undef,undef,undef],defers:=[] }) ?assign ?body ?done ?stop
 case assign =>
  intro l x W K hK
  gi_wp2
  exact hK
 case done =>
  rintro E ys W hE rfl ⟨af,⟨v,hv,aa⟩,h2,h3,hB,ak⟩ hK;have hc:=hv.cell;have c2:=h2.cell;have f2:=h2.frozen;have c3:=h3.cell;have f3:=h3.frozen;obtain⟨A,cp,rfl⟩:=zA3 aa
  gi_wp2
  have r1:=aa.kept (grownBy_setCell' W w.heap.size (.slice A ys.length cp)) (.inr (h2.not_row (by decide) aa).symm);have ap:=h3.other (show w.heap.size+1≠w.heap.size by omega) (.slice A ys.length cp);have r2:=r1.kept (grownBy_setCell' _ (w.heap.size+1) (.bool true)) (.inr (ap.not_row (by decide) r1).symm);have b2:=(h2.set (.slice A ys.length cp)).other (show w.heap.size≠w.heap.size+1 by omega) (.bool true);have b3:=ap.set (.bool true)
  have hK':((W.setCell ⟨w.heap.size,0,none⟩ (.slice A ys.length cp)).setCell ⟨w.heap.size+1,0,none⟩ (.bool true)).heap[E]?=some (.deferred (some [])) :=
   (Yq _ _ _ E (by show E≠w.heap.size+1;omega)).trans ((Yq _ _ _ E (by show E≠w.heap.size;omega)).trans hK)
  have k1:=(hB.setCell (p:=⟨w.heap.size,0,none⟩) (Za _) (.slice A ys.length cp)).setCell (p:=⟨w.heap.size+1,0,none⟩) (by show w.heap.size≤w.heap.size+1;omega) (.bool true);obtain⟨X,hX⟩:∃X,(W.setCell ⟨w.heap.size,0,none⟩ (.slice A ys.length cp)).setCell ⟨w.heap.size+1,0,none⟩ (.bool true)=X:=⟨_,rfl⟩;rw[hX]at r2 b2 b3 hK' k1 ⊢;have e2:=cell_kept b2.cell (grownBy_putObj' X E (.deferred none)) (fun r e=>by cases e;exact⟨_,hK',rfl⟩);have e3:=cell_kept b3.cell (grownBy_putObj' X E (.deferred none)) (fun r e=>by cases e;exact⟨_,hK',rfl⟩);refine⟨by simp,.inl ⟨_,_,rfl,run_takeDeferred hK',?_⟩⟩;refine⟨.tuple #[.slice A ys.length cp,.bool true],?_,?_⟩
  · simp[results,Tryz.f217,go_sem,e2,e3]
  rw[hL];unfold zEk;rw[Zm af];exact⟨A,cp,rfl,Slt.of_own (ownsRow_putObj r2 _ hK' rfl),k1.trans (belowK_b (w:=w) (Za _) X E _ _ (by omega) hK' rfl rfl)⟩
 case stop =>
  rintro E c pre W hE aj ⟨rfl,ao,h2,h3,hB⟩ hK
  gi_wp2
  have e2:=cell_kept h2.cell (grownBy_putObj' W E (.deferred none)) (fun r e=>by cases e;exact⟨_,hK,rfl⟩);have e3:=cell_kept h3.cell (grownBy_putObj' W E (.deferred none)) (fun r e=>by cases e;exact⟨_,hK,rfl⟩);refine⟨by simp,.inl ⟨_,_,rfl,run_takeDeferred hK,?_⟩⟩;refine⟨.tuple #[.slice none 0 0,.bool false],?_,?_⟩
  · simp[results,Tryz.f217,go_sem,e2,e3]
  have hn:L.all Q.ok=false:=by
   obtain⟨t,rfl⟩:=aj;rw[Kc,ao,Y8]
  unfold zEk;rw[Zk (by rw[hn];decide)];exact⟨rfl,hB.trans (belowK_b (w:=w) (Za _) W E _ _ (by omega) hK rfl rfl)⟩
 rintro l pre x W ⟨af,⟨v,hv,aa⟩,h2,h3,hB,ak⟩ hlen _;rw[hD];have hc:=hv.cell;have c2:=h2.cell;have f2:=h2.frozen;have c3:=h3.cell;have f3:=h3.frozen
 by_cases hx:Q.ok x=true
 · have hH:∀W:World,Calls prog 154 #[.string x] W fun e w'=>e=.returned (.tuple #[.int .i32 (Q.val x),.bool true])∧w'=W:=fun W=>(zFl x W).mono fun e w' h=>⟨by
    have:=h.1;unfold zBc at this;rw[this,show (zAF x.data.toList).isSome=true from hx];rfl,h.2⟩
   gi_wp2_with first
    | (refine⟨trivial,?_⟩;gi_at_call 154;refine (CallsIn.inRound l (callsIn_wide.2 (hH _))).mono ?_;rintro e w2 ⟨rfl,aw⟩;subst w2)
    | (gi_at_builtin;refine wpListIn_append_own _ rfl _ _ 35 rfl D 21 i0 (.int .i32 0) 1 4 underlying35 hi ax au av rfl (by decide) _ _ _ rfl (aa.alloc _) ⟨W.heap.size,0,none⟩ 1 1 [.int .i32 (Q.val x)] rfl rfl (JS _ _ _) (by simp[Value.oneCell']) (by simp only[maxLen];omega) (by omega) (by simp;omega) ?_;intro v' w3 ag ah _;obtain⟨g',ar,rfl⟩:=ownsRow_succ ag;obtain⟨g1,g2,g3,g4,g5,g6,g7⟩:=R.appended (n₀:=w.heap.size) (ks:=[w.heap.size+1+1+1,w.heap.size+1+1+1+1,w.heap.size+1+1+1+2]) hv (by decide) aa ak (by omega) (by omega) (by simp;omega) ag ah;have a8:=g1.cell;have ba:=g1.frozen)
    | fail
   exact⟨g4,g5,by rw[List.all_append,af];simpa using hx,⟨_,g2,by rw[List.length_append,show zJ7 (pre++[x])=zJ7 pre++[Value.int .i32 (Q.val x)] by simp[zJ7]];exact g3⟩,g7 _ _ _ (by omega) (by omega) h2,g7 _ _ _ (by omega) (by omega) h3,hB.trans g6,Nat.le_trans ak g4.size⟩
 have hH:∀W:World,Calls prog 154 #[.string x] W fun e w'=>e=.returned (.tuple #[.int .i32 (Q.val x),.bool false])∧w'=W:=fun W=>(zFl x W).mono fun e w' h=>⟨by
  have:=h.1;unfold zBc at this;rw[this,show (zAF x.data.toList).isSome=false from by simpa [Q.ok] using hx];rfl,h.2⟩
 gi_wp2_with first
  | (refine⟨trivial,?_⟩;gi_at_call 154;refine (CallsIn.inRound l (callsIn_wide.2 (hH _))).mono ?_;rintro e w2 ⟨rfl,aw⟩;subst w2)
  | fail
 have k1:Below w.heap.size W ((W.setCell ⟨w.heap.size,0,none⟩ (.slice none 0 0)).setCell ⟨w.heap.size+1,0,none⟩ (.bool false)) :=
  ((Zc w.heap.size W).setCell (p:=⟨w.heap.size,0,none⟩) (Za _) _).setCell (p:=⟨w.heap.size+1,0,none⟩) (by show w.heap.size≤w.heap.size+1;omega) _
 exact⟨((KeepsOthers.setCell _ _ _).trans (KeepsOthers.setCell _ _ _)).from _,rfl,by rw[List.all_append,af];simpa using hx,(h2.set _).other (by omega) _,(h3.other (by omega) _).set _,hB.trans k1⟩
end
section
open Go.RowKit Go.Stop
def Fi.LaidN (w:World):Prop:=Lib.TabIs prog w "internal/strconv.uint64pow10" .u64 Lib.pow10Tab∧(∃tp p,w.var? prog "strconv.ErrSyntax" = some #[.iface tp p])∧∃tp p,w.var? prog "strconv.ErrRange" = some #[.iface tp p]
theorem zJ8 {w w':World} {n:String} {g:Nat} {cs:Array Value} (hg:prog.globalNamed n=some g) (hv:w.var? prog n=some cs) (hb:Below w.heap.size w w'):w'.var? prog n=some cs:=by
 refine var?_below hb hg ?_ hv;rcases Z0 g w.heap.size with h|h
 · exact h
 unfold World.var? at hv;simp[hg,YS h]at hv
theorem zQQ:prog.globalNamed "strconv.ErrSyntax" = some 6:=by kernel_rfl
theorem zQR:prog.globalNamed "strconv.ErrRange" = some 7:=by kernel_rfl
theorem Fi.LaidN.next {w w':World} (h:Fi.LaidN w) (hb:Below w.heap.size w w'):Fi.LaidN w':=by
 obtain⟨h1,⟨tp,p,h2⟩,aa,p',h3⟩:=h;exact⟨Lib.tabBelow_of_tabIs h1 w' hb,⟨tp,p,zJ8 zQQ h2 hb⟩,aa,p',zJ8 zQR h3 hb⟩
theorem zO0 (s:ByteArray) (hs:s.size≤100000) (w:World) (hL:Fi.LaidN w) :
 Calls prog 216 #[.string s] w fun e w'=>Below w.heap.size w w' ∧
  ((∃v,Lib.atoiAll s.data.toList=.ok v ∧ -9223372036854775808≤v∧v≤9223372036854775807∧e=.returned (.tuple #[.int .i64 v,.nilIface])) ∨
   ((∀v,Lib.atoiAll s.data.toList≠.ok v)∧∃v T p,e=.returned (.tuple #[.int .i64 v,.iface T p]))):=by
 obtain⟨_,⟨tp,p,h1⟩,aa,p',h2⟩:=hL;rcases hh:Lib.atoiAll s.data.toList with v|_|_
 · refine (Tryz.strconv_Atoi_ok s (by omega) v hh w).mono ?_;rintro e w' ⟨rfl,hw⟩;have hb:=Lib.atoiAll_bounds hh;refine⟨?_,.inl ⟨v,rfl,hb.1,hb.2,rfl⟩⟩;rcases hw with rfl|⟨t,rfl⟩
   · exact Zc _ _
   exact Lib.bytesWorld_below _ _ _
 · refine (Any.strconv_Atoi_syntax_var Tryz.laysC172 s (by omega) hh tp p w h1).mono ?_;rintro e w' ⟨N,rfl,_,_,hb⟩;exact⟨hb,.inr ⟨(fun v h=>by cases h),_,_,_,rfl⟩⟩
 refine (Any.strconv_Atoi_range_var Tryz.laysC172 s (by omega) hh aa p' w h2).mono ?_;rintro e w' ⟨N,rfl,_,_,hb⟩;exact⟨hb,.inr ⟨(fun v h=>by cases h),_,_,_,rfl⟩⟩
theorem zJ9 (n:Int) (h0 : -9223372036854775808≤n) (h1:n≤9223372036854775807) (w:World) (hL:Fi.LaidN w) :
 Calls prog 134 #[.int .i64 n] w fun e w'=>e=.returned (.string ⟨(Lib.itoa n).toArray⟩)∧Below w.heap.size w w':=by
 refine (Tryz.strconv_Itoa n h0 h1 w hL.1).mono ?_;rintro e w' ⟨he,k,os,rfl⟩;refine⟨he,rfl,rfl,rfl,by simp[Sort.grow],fun i hi=>?_⟩;simp only[Sort.grow,Qp];rw[Array.getElem?_append_left hi]
def zD8 (l:List UInt8) (aa:Int) (e:Ending):Prop:=e=.returned (.tuple #[.int .i64 ((zD6 l aa).getD 0),.bool (zD6 l aa).isSome])
theorem zPH (s:ByteArray) (hs:s.size≤100000) (aa:Int) (hm:aa≤1000000000) (w:World) (hL:Fi.LaidN w) :
 Calls prog 178 #[.string s,.int .i64 aa] w fun e w'=>zD8 s.data.toList aa e∧Below w.heap.size w w':=by
 have af:(∀v:Int,0≤v→v≤aa→Lib.atoiAll s.data.toList≠.ok v)→zD6 s.data.toList aa=none:=fun h =>
  zFD fun u hu he=>h u (by omega) hu (by rw[he];exact zJ3 u (by omega))
 go_enter func178,ntmps178;go_wp2_with fail;refine (zO0 s hs _ hL).mono ?_;rintro e w1 ⟨ae,(⟨v,hv,v0,v1,rfl⟩|⟨hv,v,T,p,rfl⟩)⟩
 rotate_left
 · have hN:=af (fun u _ _ h=>hv u h);clear hv af;go_wp2_with fail;go_ret2;exact⟨by unfold zD8;rw[hN];rfl,ae⟩
 rcases Q7 v 0 with ak|hpos
 · have hN:=af (fun u hu _ h=>by rw[hv]at h;cases h;omega);clear hv af;go_wp2_with fail;go_ret2;exact⟨by unfold zD8;rw[hN];rfl,ae⟩
 have ai:¬v<0:=by omega
 by_cases hbig:v > aa
 · have hN:=af (fun u hu ap h=>by rw[hv]at h;cases h;omega);clear hv af;go_wp2_with fail;go_ret2;exact⟨by unfold zD8;rw[hN];rfl,ae⟩
 have L1:Fi.LaidN w1:=hL.next ae;have hit:Lib.itoa v=Lib.decDigits v.toNat:=by unfold Lib.itoa;rw[if_neg (by omega)]
 have aj:(Lib.itoa v).length≤11:=by rw[hit];have:=zCQ 9 v.toNat (by rw[show (10:Nat) ^ (9+1)=10000000000 from by decide];omega);omega
 obtain⟨t,ht⟩:∃t:ByteArray,(⟨(Lib.itoa v).toArray⟩:ByteArray)=t:=⟨_,rfl⟩;have ag:t.data.toList=Lib.decDigits v.toNat:=by rw[←ht];exact hit
 have hI:=zJ9 v v0 v1 w1 L1;rw[ht]at hI
 by_cases heq:t=s
 · have hN:zD6 s.data.toList aa=some v:=by
    rw[←heq,ag,zHG _ _ (by omega)];congr 1;omega
   have HN:=hy' hN;clear hv af hit aj ht ag hN;go_wp2_with fail;refine hI.mono ?_;rintro e w2 ⟨rfl,ah⟩;subst heq;go_wp2_with fail;go_ret2;exact⟨by unfold zD8;rw[HN.o];rfl,ae.trans (ah.mono ae.size)⟩
 have hN:zD6 s.data.toList aa=none:=zFD fun u hu he=>heq (by
  have h1:=zJ3 u (by omega);rw[←he,hv]at h1;cases h1
  rw[←Lib.mk_data t,ag,←Lib.mk_data s,he];simp)
 have HN:=hy' hN
 have ao:(t.toList == s.toList)=false:=by
  rw[Xq,YB,YB];exact fun h=>heq (by rw[←Lib.mk_data t,h,Lib.mk_data])
 clear hv af hit aj ht ag hN;go_wp2_with fail;refine hI.mono ?_;rintro e w2 ⟨rfl,ah⟩;go_wp2_with fail;go_ret2;exact⟨by unfold zD8;rw[HN.o];rfl,ae.trans (ah.mono ae.size)⟩
end
section
open Go.RowKit
theorem zHN (c k:Int) (A:Option Addr) (n cp:Nat) (w:World) :
 Calls prog 151 #[.agg #[.int .i32 c,.int .i64 k,.slice A n cp]] w fun e w'=>e=.returned (.bool (decide (k=0)&&decide (n=0)))∧Below w.heap.size w w':=by
 by_cases hk:k=0
 · subst hk;rcases YF n with rfl|hn
   · go_enter func151,ntmps151;go_wp2;go_ret;exact⟨rfl,(Zc _ _).alloc (Za _) _⟩
   have h1:((n:Int) == 0)=false:=by simp;omega
   go_enter func151,ntmps151;go_wp2;go_ret;exact⟨by rw[Zq (show ¬n=0 by omega)];rfl,(Zc _ _).alloc (Za _) _⟩
 have h1:(k == 0)=false:=by simp[hk]
 go_enter func151,ntmps151;go_wp2;go_ret;exact⟨by rw[Zq hk];rfl,(Zc _ _).alloc (Za _) _⟩
theorem zO1 (s e:ByteArray) (hs:s.size≤1000000) (he:e.size≤1000) (w:World) :
 Calls prog 218 #[.string s,.string e] w fun x w'=>x=.returned (.tuple #[.string ⟨(zBZ s.data.toList e.data.toList).toArray⟩,.bool (zCz s.data.toList e.data.toList)])∧w'=w:=by
 have hH:=fun w=>Tryz.stringslite_HasSuffix s e w (by omega)
 have hE:Lib.hasSuffix s.data.toList e.data.toList=zCz s.data.toList e.data.toList:=by
  unfold Lib.hasSuffix zCz;rw[Yf,QH,Zw,Zn,YT,List.suffix_iff_eq_drop];constructor
  · intro h;refine⟨?_,h.symm⟩;have:=Z6 List.length h;rw[ZN]at this;omega
  exact fun h=>h.2.symm
 obtain⟨b,hb⟩:∃b,zCz s.data.toList e.data.toList=b:=⟨_,rfl⟩;rw[hE]at hH;cases b
 · have hc:(⟨(zBZ s.data.toList e.data.toList).toArray⟩:ByteArray)=s:=by
    unfold zBZ;rw[hb,Zk (by decide),Lib.mk_data]
   simp only[hb]at hH;rw[hc,hb];clear hc hb hE;go_enter func218,ntmps218;go_wp2_with (refine (hH _).mono ?_;rintro x w1 ⟨rfl,rfl⟩);go_ret2;exact⟨rfl,rfl⟩
 have hle:e.size≤s.size:=by
  have h1:=hb;unfold zCz at h1;rw[Zw,Zn]at h1;simpa using h1.1
 have hc:s.extract 0 (s.size-e.size)=⟨(zBZ s.data.toList e.data.toList).toArray⟩:=by
  unfold zBZ;rw[hb,Zm rfl,←Lib.mk_data (s.extract 0 (s.size-e.size)),Lib.extract_data];simp
 simp only[hb]at hH;rw[hb,←hc];have h1:(e.size:Int)≤s.size:=by omega
 have h2:(0:Int)≤(s.size:Int)-e.size:=by omega
 have h3:(s.size:Int)-e.size≤s.size:=by omega
 clear hc hb hE;go_enter func218,ntmps218;go_wp2_with (refine (hH _).mono ?_;rintro x w1 ⟨rfl,rfl⟩);go_ret2;exact⟨rfl,rfl⟩
theorem Rw.cut_any (s e:ByteArray) (hs:s.size≤1000000) (he:e.size≤1000) (w:World) :
 Calls prog 180 #[.string s,.string e] w fun x w'=>x=.returned (.tuple #[.string ⟨(zBZ s.data.toList e.data.toList).toArray⟩,.bool (zCz s.data.toList e.data.toList)])∧w'=w:=by
 go_enter func180,ntmps180;go_wp2_with (refine (zO1 s e hs he _).mono ?_;rintro x w1 ⟨rfl,rfl⟩);go_ret2;exact⟨rfl,rfl⟩
theorem zRz {s:ByteArray} {b:UInt8} (h:s.data.toList.head?=some b):∃h:0<s.size,s[0]=b:=by
 have h1:0<s.size:=by
  rcases hl:s.data.toList with _|⟨c,r⟩
  · rw[hl]at h;cases h
  have:s.data.toList.length=s.size:=by simp
  rw[hl]at this;simp at this;omega
 rw[zFZ s h1]at h;exact⟨h1,by simpa using h⟩
theorem zRA {s:ByteArray} {b:UInt8} (hne:s.data.toList≠[]) (h:s.data.toList.head?≠some b):∃h:0<s.size,s[0]≠b:=by
 have h1:0<s.size:=by
  have:s.data.toList.length=s.size:=by simp
  rcases hl:s.data.toList with _|⟨c,r⟩
  · exact absurd hl hne
  rw[hl]at this;simp at this;omega
 rw[zFZ s h1]at h;exact⟨h1,by simpa using h⟩
def zQS (m:List Int) (w:World) (e:Ending) (w':World):Prop :=
 ∃A c,e=.returned (.tuple #[.slice A m.length c,.bool true])∧Slt w' 21 A (m.map (Value.int .i32))∧Below w.heap.size w w'
theorem zJA (s:ByteArray) (hs:s.size≤1000000) (m:List Int) (hm:Rw.mp s.data.toList=some m) (w:World) :
 Calls prog 179 #[.string s] w (zQS m w):=by
 unfold Rw.mp at hm;split at hm
 · rename_i h0;simp only[Zg]at hm;subst hm;rcases h0 with h0|h0
   · have he:s.toList.isEmpty=true:=by rw[YB s,h0];rfl
     clear h0;go_enter func179,ntmps179;go_wp2;go_ret2;exact⟨none,0,rfl,Slt.nil _ _ _,Zc _ _⟩
   obtain⟨h1,h2⟩:=zRz h0
   have he:s.toList.isEmpty=false:=by
    rw[YB s];rcases hl:s.data.toList with _|⟨b,r⟩
    · rw[hl]at h0;cases h0
    rfl
   have h3:(s[0].toNat:Int)=60:=by rw[h2];rfl
   have h4:(0:Int)<s.size:=by omega
   clear h0 h2;go_enter func179,ntmps179;go_wp2;go_ret2;exact⟨none,0,rfl,Slt.nil _ _ _,Zc _ _⟩
 rename_i h0;split at hm
 rotate_left
 · cases hm
 rename_i h5;obtain⟨h5,h6⟩:=h5;simp only[Zg]at hm;have hne:s.data.toList≠[]:=fun e=>h0 (.inl e)
 obtain⟨h1,h2⟩:=zRA hne fun e=>h0 (.inr e)
 have he:s.toList.isEmpty=false:=by
  rw[YB s];rcases hl:s.data.toList with _|⟨b,r⟩
  · exact absurd hl hne
  rfl
 have h3:((s[0].toNat:Int) == 60)=false:=by
  have:s[0].toNat≠60:=fun e=>h2 (UInt8.toNat_inj.1 e)
  simp;omega
 have h4:(0:Int)<s.size:=by omega
 have hH:=zMB s hs
 have ae:(zEi (zAi 32 [] s.data.toList)).all Q.ok=true:=by
  unfold zEi;rw[List.all_map];exact h5
 have hlen:(zEi (zAi 32 [] s.data.toList)).length=m.length:=by
  unfold zEi;rw[Ze,←hm,Ze]
 have aa:zJ7 (zEi (zAi 32 [] s.data.toList))=m.map (Value.int .i32):=by
  rw[←hm];unfold zJ7 zEi Q.val;rw[Xf,Xf];rfl
 unfold zEk at hH;simp only[ae,Yy,hlen,aa]at hH;have af:m.length≤2:=by rw[←hm,Ze];exact h6
 have h7:(m.length:Int)≤2:=by omega
 clear h0 h5 h6 hm hne h2 ae hlen aa;go_enter func179,ntmps179;go_wp2_with fail;refine (hH _).mono ?_;rintro e w1 ⟨A,c,rfl,hS,hb⟩;have HS:=hy' hS;have HB:=hy' hb;clear hS hb hH;go_wp2_with fail;go_ret2;exact⟨A,c,rfl,HS.o,HB.o⟩
def zQT (r:Rw.Row) (w:World) (e:Ending) (w':World):Prop :=
 ∃A c,e=.returned (.tuple #[.agg #[.int .i32 r.1,.int .i64 r.2.1,.slice A r.2.2.length c],.string ⟨#[]⟩])∧Slt w' 21 A (r.2.2.map (Value.int .i32))∧Below w.heap.size w w'
theorem zJa {F:List (List UInt8)} {r:Rw.Row} (h:Rw.row F=some r):∃f0 f1 f3 f5,F.length=15∧F[0]?=some f0∧F[1]?=some f1∧F[3]?=some f3∧F[5]?=some f5∧f1≠[]∧zAF f0=some r.1∧zD6 f3 254=some r.2.1∧Rw.mp f5=some r.2.2:=by
 unfold Rw.row at h;split at h
 rotate_left
 · cases h
 rename_i h0;obtain⟨h0,h1⟩:=h0
 have g:∀i,i<15→F[i]?=some (F.getD i []):=fun i hi=>by
  rw[Zb (by omega),Yi,Zb (by omega)];rfl
 rcases hc:zAF (F.getD 0 []) with _|c
 · rw[hc]at h;cases h
 rcases hk:zD6 (F.getD 3 []) 254 with _|k
 · rw[hc,hk]at h;cases h
 rcases hm:Rw.mp (F.getD 5 []) with _|m
 · rw[hc,hk,hm]at h;cases h
 rw[hc,hk,hm]at h;simp only[ZC,Zz,Zg]at h;subst h;exact⟨_,_,_,_,h0,g 0 (by omega),g 1 (by omega),g 3 (by omega),g 5 (by omega),h1,hc,hk,hm⟩
theorem Rw.row_any (A:Option Addr) (n cp B:Nat) (F:List (List UInt8)) (r:Rw.Row) (w:World) (hF:Rw.row F=some r) (hn:F.length=n) (hB:B≤w.heap.size) (hA:Sl w B A (F.map fun x=>Value.string ⟨x.toArray⟩))
 (ap:∀x∈F,x.length≤100000) (hL:Fi.LaidN w):Calls prog 149 #[.slice A n cp] w (zQT r w):=by
 obtain⟨f0,f1,f3,f5,ay,i0,i1,i3,i5,hne,af,ah,aw⟩:=zJa hF;obtain rfl:n=15:=by omega
 obtain⟨b,o,rfl,hb,hc⟩:=hA (by rw[Ze];omega);have aj:=hc 0 (by rw[Ze];omega);have ar:=hc 1 (by rw[Ze];omega);have au:=hc 3 (by rw[Ze];omega);have ao:=hc 5 (by rw[Ze];omega);rw[Zo,i0,Zz]at aj;rw[Zo,i1,Zz]at ar;rw[Zo,i3,Zz]at au;rw[Zo,i5,Zz]at ao;have s3:=ap f3 (Zj i3);have s5:=ap f5 (Zj i5);obtain⟨b0,aq⟩:∃x:ByteArray,⟨f0.toArray⟩=x:=⟨_,rfl⟩;obtain⟨b1,av⟩:∃x:ByteArray,⟨f1.toArray⟩=x:=⟨_,rfl⟩;obtain⟨b3,aa⟩:∃x:ByteArray,⟨f3.toArray⟩=x:=⟨_,rfl⟩;obtain⟨b5,ak⟩:∃x:ByteArray,⟨f5.toArray⟩=x:=⟨_,rfl⟩
 have H1:∀W:World,Calls prog 154 #[.string b0] W fun e w'=>e=.returned (.tuple #[.int .i32 r.1,.bool true])∧w'=W:=fun W=>(zFl b0 W).mono fun e w' h=>⟨by
  have:=h.1;unfold zBc at this;rw[this,←aq,show (⟨f0.toArray⟩:ByteArray).data.toList=f0 from rfl,af];rfl,h.2⟩
 have H2:∀W:World,Fi.LaidN W→Calls prog 178 #[.string b3,.int .i64 254] W fun e w'=>e=.returned (.tuple #[.int .i64 r.2.1,.bool true])∧Below W.heap.size W w':=fun W hW=>(zPH b3 (by rw[←aa];show f3.toArray.size≤_;simpa using s3) 254 (by decide) W hW).mono fun e w' h=>⟨by
  have:=h.1;unfold zD8 at this;rw[this,←aa,show (⟨f3.toArray⟩:ByteArray).data.toList=f3 from rfl,ah];rfl,h.2⟩
 have H3:=zJA b5 (by rw[←ak];show f5.toArray.size≤_;simp;omega) r.2.2 (by rw[←ak];exact aw)
 have e1:b1.toList.isEmpty=false:=by
  rw[←av,YB];rcases hl:f1 with _|⟨x,t⟩
  · exact absurd hl hne
  rfl
 rw[aq]at aj;rw[av]at ar;rw[aa]at au;rw[ak]at ao;rw[YI]at aj;obtain⟨c,k,m⟩:=r;simp only at H1 H2 H3;have ax:b<w.heap.size:=by omega
 clear hc hA hF ay i0 i1 i3 i5 hne af ah aw aq av aa ak ap s3 s5 hn;go_enter func149,ntmps149;go_wp2_with fail;refine (H1 _).mono ?_;rintro e w1 ⟨rfl,rfl⟩;go_wp2_with fail;refine (H2 _ (hL.next (((Zc _ _).alloc (Za _) _).alloc (by simp) _))).mono ?_;rintro e w2 ⟨rfl,ai⟩;have k1:Rw.At w2 w.heap.size 155 [.int .i32 0,.int .i64 0,.slice none 0 0]:=((Rw.At.new w 155 [.int .i32 0,.int .i64 0,.slice none 0 0]).alloc _).below ai
 have k2:Rw.At w2 (w.heap.size+1) 155 [.int .i32 c,.int .i64 0,.slice none 0 0]:=by
  have h:=Rw.At.new (w.alloc (.cells #[.int .i32 0,.int .i64 0,.slice none 0 0] 155)) 155 [.int .i32 c,.int .i64 0,.slice none 0 0];rw[ZJ]at h;exact h.below ai
 have ae:Below w.heap.size w w2:=(((Zc w.heap.size w).alloc (Za _) _).alloc (by simp) _).trans (ai.mono (by simp;omega));obtain⟨d1,d2,d3,d4,d5,d6⟩:=k2.three;have c5:=((zAQ ae).1 _ _ ax).trans ao;clear aj ar au ao ai;go_wp2_with fail;refine (H3 _).mono ?_;rintro e w3 ⟨Am,cm,rfl,hS,aa⟩;have k3:=(k1.other (show w.heap.size≠w.heap.size+1 by omega) (.int .i64 k) (i:=1)).below aa;have k4:=(k2.set 1 (.int .i64 k)).below aa;simp only[Zv,Zs]at k4;have ag:Below w.heap.size w w3:=(ae.setCell (p:=⟨w.heap.size+1,1,none⟩) (ZW _) (.int .i64 k)).trans (aa.mono (Zh ae.size (KeepsWalks.setCell w2 _ (.int .i64 k)).size));obtain⟨g1,g2,g3,g4,g5,g6⟩:=k3.three;obtain⟨m1,m2,m3,m4,m5,m6⟩:=k4.three;have HS:=hy' hS;have HB:=hy' ag;clear hS aa ag ae k1 k2 d1 d2 d3 d4 d5 d6 c5;go_wp2_with fail;have j1:=k4.set 2 (.slice Am m.length cm);have j2:=k3.other (show w.heap.size≠w.heap.size+1 by omega) (.slice Am m.length cm) (i:=2);have j3:=j2.set 0 (.int .i32 c);have j4:=j3.set 1 (.int .i64 k);have j5:=j4.set 2 (.slice Am m.length cm);refine YH (zE1 rfl _ _ w.heap.size _ _ _ _ rfl j5 underlying155 rfl (by kernel_rfl)) rfl ⟨Am,cm,rfl,?_,?_⟩
 · exact ((((HS.o.setAt k4 (by decide) 2 _).setAt j2 (by decide) 0 _).setAt j3 (by decide) 1 _).setAt j4 (by decide) 2 _)
 exact (((HB.o.setCell (p:=⟨w.heap.size+1,2,none⟩) (ZW _) _).setCell (p:=⟨w.heap.size,0,none⟩) (Za _) _).setCell (p:=⟨w.heap.size,1,none⟩) (Za _) _).setCell (p:=⟨w.heap.size,2,none⟩) (Za _) _
def zJb:ByteArray:=⟨#[44,32,70,105,114,115,116,62]⟩
def zLd:ByteArray:=⟨#[44,32,76,97,115,116,62]⟩
def zO2 (b:Nat) (vo:Value) (code:Int) (o:List UInt8) (w:World) (e:Ending) (w':World):Prop :=
 e=.returned (.bool true)∧Rw.At w' b 193 [vo,.int .i32 code,.string ⟨o.toArray⟩]∧w.grownBy w' (some b)
theorem zEV (s:ByteArray):s.toList.isEmpty=s.data.toList.isEmpty:=by rw[YB s]
theorem zLe (b:Nat) (vo:Value) (code:Int) (was name:ByteArray) (c k:Int) (A:Option Addr) (n cp:Nat) (o:List UInt8) (w:World) (hv:vo.oneCell'=true)
 (aa:Rw.At w b 193 [vo,.int .i32 code,.string was]) (hs:name.size≤1000000) (hr:zBJ was.data.toList name.data.toList (decide (k=0)&&decide (n=0))=some o) :
 Calls prog 150 #[.pointer (some ⟨b,0,none⟩),.string name,.agg #[.int .i32 c,.int .i64 k,.slice A n cp]] w (zO2 b vo code o w):=by
 have c1:=Rw.cut_any name zJb hs (by decide);have c2:=Rw.cut_any name zLd hs (by decide);rw[show zJb.data.toList=Rw.first from rfl]at c1;rw[show zLd.data.toList=Rw.last from rfl]at c2;have hQ:=zHN c k A n cp;have av:=aa.lt;obtain⟨d1,d2,d3,d4,d5,d6⟩:=aa.three;unfold zBJ at hr;obtain⟨x1,af⟩:∃x:ByteArray,⟨(zBZ name.data.toList Rw.first).toArray⟩=x:=⟨_,rfl⟩;obtain⟨x2,ae⟩:∃x:ByteArray,⟨(zBZ name.data.toList Rw.last).toArray⟩=x:=⟨_,rfl⟩
 have aq:x1.size≤1000000:=by
  rw[←af];show (zBZ name.data.toList Rw.first).toArray.size≤1000000;unfold zBZ;split <;> simp <;> omega
 have ap:x2.size≤1000000:=by
  rw[←ae];show (zBZ name.data.toList Rw.last).toArray.size≤1000000;unfold zBZ;split <;> simp <;> omega
 obtain⟨b1,ai⟩:∃x,zCz name.data.toList Rw.first=x:=⟨_,rfl⟩;obtain⟨b2,ag⟩:∃x,zCz name.data.toList Rw.last=x:=⟨_,rfl⟩;rw[af,ai]at c1;rw[ae,ag]at c2;rw[ai,ag]at hr;unfold zJb at c1;unfold zLd at c2;split at hr
 · split at hr
   rotate_left
   · cases hr
   rename_i h1 h2;obtain⟨rfl,h2,h3⟩:=h2;simp only[Zg]at hr;subst hr;rw[h3]at hQ
   have hw:x2++(⟨#[44,32,70,105,114,115,116,62]⟩:ByteArray)=was:=by
    rw[←ae,show (⟨#[44,32,70,105,114,115,116,62]⟩:ByteArray)=⟨Rw.first.toArray⟩ from rfl,zAJ,h2,Lib.mk_data]
   have ao:was.toList.isEmpty=false:=by
    rw[zEV,←h2];simp[Rw.first]
   subst hw
   have ar:¬9223372036854775807<x2.size+(⟨#[44,32,70,105,114,115,116,62]⟩:ByteArray).size:=by
    have:(⟨#[44,32,70,105,114,115,116,62]⟩:ByteArray).size=8:=rfl;omega
   clear h1 h2 h3 af ae ai ag;go_enter func150,ntmps150;go_wp2_with fail;refine (c1 _).mono ?_;rintro e w1 ⟨rfl,rfl⟩;go_wp2_with fail;refine (c2 _).mono ?_;rintro e w2 ⟨rfl,rfl⟩;go_wp2_with fail;refine (hQ _).mono ?_;rintro e w3 ⟨rfl,ah⟩;have HB:=hy' ah;clear ah;go_wp2_with fail;go_ret;exact⟨rfl,((aa.set 2 (.string ⟨#[]⟩)).alloc _).below HB.o,zA0 (zA0 (Rw.grown_set b 2 _) (Yl _ _ _)) (zDg HB.o)⟩
 split at hr
 rotate_left
 · rename_i h1 h2;simp only[Zg]at hr;subst hr
   obtain⟨aj,ak⟩:was.data.toList=[]∧b2=false:=by
    refine⟨?_,?_⟩
    · rcases hl:was.data.toList with _|⟨x,r⟩
      · rfl
      exact absurd (.inl (by rw[hl];simp)) h1
    cases b2
    · rfl
    exact absurd (.inr rfl) h1
   have au:b1=false:=by simpa using h2
   have ao:was.toList.isEmpty=true:=by rw[zEV,aj];rfl
   subst ak au;clear h1 h2 af ae ai ag aj;go_enter func150,ntmps150;go_wp2_with fail;refine (c1 _).mono ?_;rintro e w1 ⟨rfl,rfl⟩;go_wp2_with fail;refine (c2 _).mono ?_;rintro e w2 ⟨rfl,rfl⟩;go_wp2_with fail;go_ret;exact⟨rfl,(aa.set 2 (.string ⟨#[]⟩)).alloc _,zA0 (Rw.grown_set b 2 _) (Yl _ _ _)⟩
 rename_i h1 h2;subst h2;split at hr
 rotate_left
 · cases hr
 rename_i h3;simp only[Zg]at hr;subst hr;rw[h3]at hQ
 have hw:x1++(⟨#[44,32,70,105,114,115,116,62]⟩:ByteArray)=⟨(zBZ name.data.toList Rw.first++Rw.first).toArray⟩:=by
  rw[←af,show (⟨#[44,32,70,105,114,115,116,62]⟩:ByteArray)=⟨Rw.first.toArray⟩ from rfl,zAJ]
 obtain⟨aj,ak⟩:was.data.toList=[]∧b2=false:=by
  refine⟨?_,?_⟩
  · rcases hl:was.data.toList with _|⟨x,r⟩
    · rfl
    exact absurd (.inl (by rw[hl];simp)) h1
  cases b2
  · rfl
  exact absurd (.inr rfl) h1
 have ao:was.toList.isEmpty=true:=by rw[zEV,aj];rfl
 have ar:¬9223372036854775807<x1.size+(⟨#[44,32,70,105,114,115,116,62]⟩:ByteArray).size:=by
  have:(⟨#[44,32,70,105,114,115,116,62]⟩:ByteArray).size=8:=rfl;omega
 subst ak;have HW:=hy' hw;clear hw h1 h3 af ae ai ag aj;go_enter func150,ntmps150;go_wp2_with fail;refine (c1 _).mono ?_;rintro e w1 ⟨rfl,rfl⟩;go_wp2_with fail;refine (c2 _).mono ?_;rintro e w2 ⟨rfl,rfl⟩;go_wp2_with fail;refine (hQ _).mono ?_;rintro e w3 ⟨rfl,ah⟩;have HB:=hy' ah;clear ah;go_wp2_with fail;go_ret;refine⟨rfl,?_,zA0 ?_ (zDg HB.o)⟩
 · rw[←HW.o]
   first|exact (((aa.set 2 _).set 2 _).alloc _).below HB.o|exact ((aa.set 2 _).alloc _).below HB.o|exact (((aa.set 2 _).alloc _).set 2 _).below HB.o
 first|exact zA0 (zA0 (Rw.grown_set b 2 _) (Rw.grown_set b 2 _)) (Yl _ _ _)|exact zA0 (Rw.grown_set b 2 _) (Yl _ _ _)|exact zA0 (zA0 (Rw.grown_set b 2 _) (Yl _ _ _)) (Rw.grown_set b 2 _)
end
section
open Go.RowKit Go.Stop
theorem zLf (w:World) (d:Int) :
 (convert 98 9 (.slice (some ⟨w.heap.size,0,none⟩) 1 1)).run prog (w.alloc (.cells #[.int .u8 d] 5))=.ok (.string ⟨#[UInt8.ofNat d.toNat]⟩) (w.alloc (.cells #[.int .u8 d] 5)):=by
 exact Qm _ 98 5 underlying98 underlying5 w.heap.size 0 1 1 [d] rfl (fun i hi=>by
  obtain rfl:i=0:=by omega
  simp) 9 underlying9
theorem Fi.rtext_any (c:Nat) (hc:c<16777216) (w:World) :
 Calls prog 109 #[.int .i64 c] w fun e w'=>e=.returned (.string ⟨(Fi.text c).toArray⟩)∧Below w.heap.size w w':=by
 have az:zBg c≤6:=zBU 5 c (by rw[show (16:Nat) ^ (5+1)=16777216 from by decide];exact hc);go_enter func109,ntmps109;go_wp2;go_loopw [0,3,4] (fun vx vs vi wr=>∃i x:Nat,vx=.int .i64 x∧vs=.string ⟨((Fi.low i c).map zBT).toArray⟩∧vi=.int .i64 i∧i≤max 4 (zBg c)∧x=c/16 ^ i∧Below w.heap.size w wr) (fun _ _ vi _=>7-(intOf vi).toNat)
 case atStart=>exact⟨0,c,rfl,rfl,rfl,by omega,by simp,Zc _ _⟩
 obtain⟨i,x,rfl,rfl,rfl,hi,hx,aa⟩:=hrel;obtain⟨w1,rfl⟩:∃w1:World,w1=wr:=⟨_,rfl⟩;have ak:=aa.size
 have a1:x<16777216:=by
  have:=Ke c (16 ^ i);omega
 have ar:=hy' aa;obtain⟨s,hs⟩:∃s:ByteArray,(⟨((Fi.low i c).map zBT).toArray⟩:ByteArray)=s:=⟨_,rfl⟩
 have a6:s.size=i:=by
  rw[←hs];show ((Fi.low i c).map zBT).toArray.size=i;simp[zCP]
 by_cases hgo:i<4∨0<x
 rotate_left
 · have ai:¬(i:Int)<4:=by omega
   have au:x=0:=by omega
   subst au
   have af:max 4 (zBg c)=i:=by
    have h1:c<16 ^ i:=by
     rcases Z0 c (16 ^ i) with h|h
     · exact h
     have:=Nat.div_pos h (Jw (by decide));omega
    have:=zBU (i-1) c (by rw[show i-1+1=i by omega];exact h1);omega
   have hT:s=⟨(Fi.text c).toArray⟩:=by rw[←hs];unfold Fi.text;rw[af]
   have HT:=hy' hT;rw[hs];clear hgo hx af hs hT;go_wp2;go_ret;exact⟨by rw[HT.o];rfl,ar.o⟩
 have aq:i+1≤max 4 (zBg c):=by
  rcases hgo with h|h
  · omega
  have h1:16 ^ i≤c:=by
   rcases Z0 c (16 ^ i) with h2|h2
   · rw[J4 h2]at hx;omega
   exact h2
  have:=zOE c i h1;omega
 have ao:x/16=c/16 ^ (i+1):=by rw[hx,Qf,←Xb]
 have ap:∀dg:UInt8,dg=zBT (x%16)→(⟨#[dg]⟩:ByteArray)++s=⟨((Fi.low (i+1) c).map zBT).toArray⟩:=by
  rintro dg rfl;rw[←hs,zCh,←hx];exact zAJ [zBT (x%16)] _
 have HI:=hy' aq;have aj:=hy' ao;have ah:=hy' ap;have ax:¬9223372036854775807<1+s.size:=by omega
 rw[hs];clear ap ao hx hs aq;have aw:(x:Int)%16=((x%16:Nat):Int):=by omega
 obtain⟨d,hd⟩:∃d,x%16=d:=⟨_,rfl⟩;rw[hd]at aw ah;have av:d<16:=by omega
 clear hd
 by_cases h10:(d:Int)<10
 · have hC:=zLf w1 (48+(d:Int));have ag:=hy' (aa.alloc ak (.cells #[.int .u8 (48+(d:Int))] 5))
   have ae:UInt8.ofNat (48+(d:Int)).toNat=zBT d:=by
    unfold zBT;rw[Zm (by omega),show (48+(d:Int)).toNat=48+d by omega]
   rw[ae]at hC;have HR:=hy' (ah.o _ rfl);clear ae aa ah;rcases Z0 i 4 with h4|h4
   · have ai:(i:Int)<4:=by omega
     clear hgo;go_wp2;exact⟨⟨i+1,x/16,by go_num,by first|exact Z6 Value.string HR.o|(congr 1;exact HR.o),by go_num,HI.o,aj.o,ag.o⟩,by simp[intOf];omega⟩
   have ai:¬(i:Int)<4:=by omega
   have ay:(x:Int) > 0:=by omega
   clear hgo;go_wp2;exact⟨⟨i+1,x/16,by go_num,by first|exact Z6 Value.string HR.o|(congr 1;exact HR.o),by go_num,HI.o,aj.o,ag.o⟩,by simp[intOf];omega⟩
 have hC:=zLf w1 (55+(d:Int));have ag:=hy' (aa.alloc ak (.cells #[.int .u8 (55+(d:Int))] 5))
 have ae:UInt8.ofNat (55+(d:Int)).toNat=zBT d:=by
  unfold zBT;rw[Zk (by omega),show (55+(d:Int)).toNat=55+d by omega]
 rw[ae]at hC;have HR:=hy' (ah.o _ rfl);clear ae aa ah;rcases Z0 i 4 with h4|h4
 · have ai:(i:Int)<4:=by omega
   clear hgo;go_wp2;exact⟨⟨i+1,x/16,by go_num,by first|exact Z6 Value.string HR.o|(congr 1;exact HR.o),by go_num,HI.o,aj.o,ag.o⟩,by simp[intOf];omega⟩
 have ai:¬(i:Int)<4:=by omega
 have ay:(x:Int) > 0:=by omega
 clear hgo;go_wp2;exact⟨⟨i+1,x/16,by go_num,by first|exact Z6 Value.string HR.o|(congr 1;exact HR.o),by go_num,HI.o,aj.o,ag.o⟩,by simp[intOf];omega⟩
theorem Fi.infoStr:(prog.info? 9).map (fun i=>(i.zero,i.size,i.bytes))=some (some (.string ByteArray.empty),1,16):=by kernel_rfl
def Fi.vs (l:List (List UInt8)):List Value:=l.map fun x=>Value.string ⟨x.toArray⟩
theorem Fi.split_any (s:ByteArray) (hs:s.size≤1000000000) (w:World) (hL:Fi.Laid w) :
 Calls prog 148 #[.string s] w (zPB w (zAi 59 [] s.data.toList)):=by
 obtain⟨m,hm⟩:=hL.1;have h1:=Tryz.strings_Split s ⟨#[59]⟩ m w (by omega) hm (Za 1);have hlen:=Lib.splitB_all ⟨#[59]⟩ (Za 1) 0 _ s rfl;have aa:=zNN 59 _ s (Za _);obtain⟨L,ae⟩:∃L,Lib.splitB ⟨#[59]⟩ 0 (Lib.countB s ⟨#[59]⟩) s=L:=⟨_,rfl⟩;obtain⟨n,hn⟩:∃n,Lib.countB s ⟨#[59]⟩+1=n:=⟨_,rfl⟩;rw[ae]at h1 hlen aa;rw[hn]at h1 hlen
 have af:L.map Value.string=Fi.vs (zAi 59 [] s.data.toList):=by
  rw[←aa];unfold Fi.vs;rw[Xf];exact YU fun x _=>by show Value.string x=Value.string ⟨x.data.toList.toArray⟩;rw[Lib.mk_data]
 rw[af]at h1;have ag:(zAi 59 [] s.data.toList).length=n:=by rw[←aa,Ze,hlen]
 have ah:=hy' ag;clear af aa hlen ae hn hm hL ag;obtain⟨V,hV⟩:∃V,Fi.vs (zAi 59 [] s.data.toList)=V:=⟨_,rfl⟩;have HV:=hy' hV;rw[hV]at h1;clear hV;go_enter func148,ntmps148;go_wp2_with fail;refine h1.mono ?_;rintro e w1 ⟨rfl,rfl⟩;go_wp2_with fail;go_ret;refine⟨some ⟨w.heap.size,0,none⟩,n,n,rfl,ah.o,?_,(Zc _ _).alloc (Za _) _⟩;intro _;refine⟨w.heap.size,0,rfl,by simp,fun j hj=>?_⟩;rw[Z1,Jj,show (zAi 59 [] s.data.toList).map (fun x=>Value.string ⟨x.toArray⟩)=V from HV.o];simp
end
end Go.Proofs.YtjakbblocbicjaaGreatDoor
