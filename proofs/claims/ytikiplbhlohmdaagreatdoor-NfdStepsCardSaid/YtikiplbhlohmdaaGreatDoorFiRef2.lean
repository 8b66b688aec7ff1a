/- A set's characters rise. -/
import Derived.Test.YtikiplbhlohmdaaGreatDoorRwLines
import Derived.Lib.AppendIntMem
set_option linter.unusedVariables false
set_option linter.unusedSimpArgs false
namespace Go.Proofs.YtikiplbhlohmdaaGreatDoor
end Go.Proofs.YtikiplbhlohmdaaGreatDoor
namespace Go.Proofs.YtikiplbhlohmdaaGreatDoor
open Go.RowKit
attribute [local go_sem] Oper.semAt_some
theorem Q.splitSeq_any (s:ByteArray) (w:World) :
 Calls Tryz.prog 214 #[.string s,.string ⟨#[32]⟩] w fun e w'=>e=.returned (.func (.func 248) #[] #[.pointer (some ⟨w.heap.size+1,0,none⟩),.pointer (some ⟨w.heap.size,0,none⟩),.pointer (some ⟨w.heap.size+2,0,none⟩)]) ∧
  w'=((w.alloc (.cells #[.string s] 9)).alloc (.cells #[.string ⟨#[32]⟩] 9)).alloc (.cells #[.int .i64 0] 3):=by
 have inner:∀w:World,Calls Tryz.prog 236 #[.string s,.string ⟨#[32]⟩,.int .i64 0] w fun e w'=>e=.returned (.func (.func 248) #[] #[.pointer (some ⟨w.heap.size+1,0,none⟩),.pointer (some ⟨w.heap.size,0,none⟩),.pointer (some ⟨w.heap.size+2,0,none⟩)]) ∧
  w'=((w.alloc (.cells #[.string s] 9)).alloc (.cells #[.string ⟨#[32]⟩] 9)).alloc (.cells #[.int .i64 0] 3):=by
  intro w
  go_enter Tryz.func236,Tryz.ntmps236
  go_wp2
  go_ret
  exact⟨rfl,rfl⟩
 go_enter Tryz.func214,Tryz.ntmps214
 go_wp2_with (refine (inner _).mono ?_;rintro e w1 ⟨rfl,rfl⟩)
 go_ret
 exact⟨rfl,rfl⟩
def Q.ok (x:ByteArray):Bool:=(Fi.hex x.data.toList).isSome
def Q.val (x:ByteArray):Int:=(Fi.hex x.data.toList).getD 0
def Q.vals (l:List ByteArray):List Value:=l.map fun x=>Value.int .i32 (Q.val x)
def Q.RetHexesT (L:List ByteArray) (w:World) (e:Ending) (w':World):Prop :=
 if L.all Q.ok then ∃A c,e=.returned (.tuple #[.slice A L.length c,.bool true])∧Slt w' 21 A (Q.vals L)∧Below w.heap.size w w'
 else e=.returned (.tuple #[.slice none 0 0,.bool false])∧Below w.heap.size w w'
set_option maxRecDepth 100000 in
set_option maxHeartbeats 4000000 in
theorem Q.hexesT_any (s:ByteArray) (hs:s.size≤1000000) (w:World) :
 Calls Tryz.prog 181 #[.string s] w (Q.RetHexesT (Q.bas (Fi.spl 32 [] s.data.toList)) w):=by
 obtain⟨i0,hi,aq,ar,au⟩:=Z7 infoRune
 refine (callsIn_wide (n:=5)).1 ?_
 refine callsIn_of_wp_marks Tryz.func181 rfl trivial ?_ rfl
 simp only[Tryz.ntmps181,List.size_toArray,ZI,Z6,Nat.reduceAdd,Nat.reduceSub,XK,XL,List.push_toArray,XQ,Z2,ZQ]
 gi_wp2_with (refine⟨trivial,?_⟩;gi_at_call 214;refine (callsIn_wide.2 (Q.splitSeq_any s _)).mono ?_;rintro e w1 ⟨rfl,ae⟩;have HW:=Za ae;clear ae)
 have ae:=HW.out
 have ba:w1.heap.size=w.heap.size+6:=by rw[ae];simp
 have q2:Boxed w1 w.heap.size 49 (.slice none 0 0):=by
  rw[ae]
  exact (((((Boxed.new w 49 (.slice none 0 0)).alloc _).alloc _).alloc _).alloc _).alloc _
 have q3:Boxed w1 (w.heap.size+1) 4 (.bool false):=by
  have h:=Boxed.new (w.alloc (.cells #[.slice none 0 0] 49)) 4 (.bool false)
  rw[ZH]at h
  rw[ae]
  exact (((h.alloc _).alloc _).alloc _).alloc _
 have q4:Boxed w1 (w.heap.size+1+1) 49 (.slice none 0 0):=by
  have h:=Boxed.new ((w.alloc (.cells #[.slice none 0 0] 49)).alloc (.cells #[.bool false] 4)) 49 (.slice none 0 0)
  rw[ZH,ZH]at h
  rw[ae]
  exact ((h.alloc _).alloc _).alloc _
 have q5:Boxed w1 (w.heap.size+1+1+1) 9 (.string s):=by
  have h:=Boxed.new (((w.alloc (.cells #[.slice none 0 0] 49)).alloc (.cells #[.bool false] 4)).alloc (.cells #[.slice none 0 0] 49)) 9 (.string s)
  rw[ZH,ZH,ZH]at h
  rw[ae]
  exact (h.alloc _).alloc _
 have q6:Boxed w1 (w.heap.size+1+1+1+1) 9 (.string ⟨#[32]⟩):=by
  have h:=Boxed.new ((((w.alloc (.cells #[.slice none 0 0] 49)).alloc (.cells #[.bool false] 4)).alloc (.cells #[.slice none 0 0] 49)).alloc (.cells #[.string s] 9)) 9 (.string ⟨#[32]⟩)
  rw[ZH,ZH,ZH,ZH]at h
  rw[ae]
  exact h.alloc _
 have q7:Boxed w1 (w.heap.size+1+1+1+2) 3 (.int .i64 0):=by
  have h:=Boxed.new (((((w.alloc (.cells #[.slice none 0 0] 49)).alloc (.cells #[.bool false] 4)).alloc (.cells #[.slice none 0 0] 49)).alloc (.cells #[.string s] 9)).alloc (.cells #[.string ⟨#[32]⟩] 9)) 3 (.int .i64 0)
  rw[ZH,ZH,ZH,ZH,ZH]at h
  rw[ae]
  exact h
 have ax:Below w.heap.size w w1:=by
  rw[ae]
  exact ((((((Zd _ w).alloc (by simp) _).alloc (by simp) _).alloc (by simp;omega) _).alloc (by simp;omega) _).alloc (by simp;omega) _).alloc (by simp;omega) _
 clear ae HW
 obtain⟨L,hL⟩:∃L,Q.bas (Fi.spl 32 [] s.data.toList)=L:=⟨_,rfl⟩
 have ay:L.length≤1000001:=by
  rw[←hL]
  unfold Q.bas
  rw[Zg]
  have:=Fi.spl_len 32 s.data.toList []
  have e:s.data.toList.length=s.size:=by simp
  omega
 obtain⟨D,hD⟩:∃D,w1.heap.size=D:=⟨_,rfl⟩
 have ah:=fun (W:World) (hW:Below w1.heap.size w1 W)=>Q.splitSeq1 s hs (5-1) (w.heap.size+1+1+1) (by omega) W ((hW.block _ (by omega)).trans q5) ((hW.block _ (by omega)).trans q6) ((hW.block _ (by omega)).trans q7)
 rw[hL]at ah ⊢
 refine R.range (n:=5) (by omega) (gf:=248) (lb := #[.pointer (some ⟨w.heap.size+1+1+1+1,0,none⟩),.pointer (some ⟨w.heap.size+1+1+1,0,none⟩),.pointer (some ⟨w.heap.size+1+1+1+2,0,none⟩)]) rfl (enters_of Tryz.func248 (by kernel_rfl) rfl)
  (b:=w.heap.size+1+1+1) (by omega) (ks:=[w.heap.size+1+1+1,w.heap.size+1+1+1+1,w.heap.size+1+1+1+2]) (by simp;omega) ah (fun _=>rfl)
  (fun pre W=>pre.all Q.ok=true∧(∃v,Boxed W (w.heap.size+1+1) 49 v∧W.ownsRow D 21 1 v pre.length (Q.vals pre))∧Boxed W w.heap.size 49 (.slice none 0 0)∧Boxed W (w.heap.size+1) 4 (.bool false)∧Below w.heap.size w W∧D≤W.heap.size)
  (fun c pre W=>c=.ret∧pre.all Q.ok=false∧Boxed W w.heap.size 49 (.slice none 0 0)∧Boxed W (w.heap.size+1) 4 (.bool false)∧Below w.heap.size w W)
  (by
    rintro pre X Y row ⟨a1,⟨v,a2,a3⟩,a4,a5,a6,a7⟩ hg hr
    exact⟨a1,⟨v,R.box_kept a2 hg hr (by omega),R.own_kept a3 hg hr (by omega)⟩,R.box_kept a4 hg hr (by omega),R.box_kept a5 hg hr (by omega),R.below_kept a6 a6.size hg hr (by omega) (by omega),Zh a7 hg.size⟩)
  (by
    rintro c pre X Y row ⟨a1,a2,a4,a5,a6⟩ hg hr
    exact⟨a1,a2,R.box_kept a4 hg hr (by omega),R.box_kept a5 hg hr (by omega),R.below_kept a6 a6.size hg hr (by omega) (by omega)⟩)
  ⟨rfl,⟨_,q4,ZC _ _ _ _⟩,q2,q3,ax,by omega⟩
  (fun x=>{ tmps := #[.string s,undef,.pointer (some ⟨w.heap.size,0,none⟩),.pointer (some ⟨w.heap.size+1,0,none⟩),.pointer (some ⟨w.heap.size+1+1,0,none⟩),.string x,undef,undef,.string s,
    .func (.func 248) #[] #[.pointer (some ⟨w.heap.size+1+1+1+1,0,none⟩),.pointer (some ⟨w.heap.size+1+1+1,0,none⟩),.pointer (some ⟨w.heap.size+1+1+1+2,0,none⟩)],.string x,undef,undef,undef,undef,undef,undef,undef,undef,undef,undef,undef,undef],defers:=[] }) ?assign ?body ?done ?stop
 case assign =>
  intro l x W K hK
  gi_wp2
  exact hK
 case body =>
  rintro l pre x W ⟨af,⟨v,hv,aa⟩,h2,h3,hB,ao⟩ hlen _
  rw[hD]
  have hc:=hv.cell
  have c2:=h2.cell
  have f2:=h2.frozen
  have c3:=h3.cell
  have f3:=h3.frozen
  by_cases hx:Q.ok x=true
  · have hH:∀W:World,Calls Tryz.prog 116 #[.string x] W fun e w'=>e=.returned (.tuple #[.int .i32 (Q.val x),.bool true])∧w'=W:=fun W=>(Fi.hex_any x W).mono fun e w' h=>⟨by
     have:=h.1
     unfold Fi.RetHex at this
     rw[this,show (Fi.hex x.data.toList).isSome=true from hx];rfl,h.2⟩
    gi_wp2_with first
     | (refine⟨trivial,?_⟩;gi_at_call 116;refine (CallsIn.inRound l (callsIn_wide.2 (hH _))).mono ?_;rintro e w2 ⟨rfl,av⟩;subst w2)
     | (gi_at_builtin;refine wpListIn_append_own _ rfl _ _ 49 rfl D 21 i0 (.int .i32 0) 1 4 Tryz.underlying49 hi aq ar au rfl (by decide) _ _ _ rfl (aa.alloc _) ⟨W.heap.size,0,none⟩ 1 1 [.int .i32 (Q.val x)] rfl rfl (cell_one_new _ _ _) (by simp[Value.oneCell']) (by simp only[maxLen];omega) (by omega) (by simp;omega) ?_;intro v' w3 ag ai _;obtain⟨g',aw,rfl⟩:=ownsRow_succ ag;obtain⟨g1,g2,g3,g4,g5,g6,g7⟩:=R.appended (n₀:=w.heap.size) (ks:=[w.heap.size+1+1+1,w.heap.size+1+1+1+1,w.heap.size+1+1+1+2]) hv (by decide) aa ao (by omega) (by omega) (by simp;omega) ag ai;have az:=g1.cell;have a8:=g1.frozen)
     | fail
    exact⟨g4,g5,by rw[List.all_append,af];simpa using hx,⟨_,g2,by rw[List.length_append,show Q.vals (pre++[x])=Q.vals pre++[Value.int .i32 (Q.val x)] by simp[Q.vals]];exact g3⟩,g7 _ _ _ (by omega) (by omega) h2,g7 _ _ _ (by omega) (by omega) h3,hB.trans g6,Nat.le_trans ao g4.size⟩
  · have hH:∀W:World,Calls Tryz.prog 116 #[.string x] W fun e w'=>e=.returned (.tuple #[.int .i32 (Q.val x),.bool false])∧w'=W:=fun W=>(Fi.hex_any x W).mono fun e w' h=>⟨by
     have:=h.1
     unfold Fi.RetHex at this
     rw[this,show (Fi.hex x.data.toList).isSome=false from by simpa [Q.ok] using hx];rfl,h.2⟩
    gi_wp2_with first
     | (refine⟨trivial,?_⟩;gi_at_call 116;refine (CallsIn.inRound l (callsIn_wide.2 (hH _))).mono ?_;rintro e w2 ⟨rfl,av⟩;subst w2)
     | fail
    have k1:Below w.heap.size W ((W.setCell ⟨w.heap.size,0,none⟩ (.slice none 0 0)).setCell ⟨w.heap.size+1,0,none⟩ (.bool false)) :=
     ((Zd w.heap.size W).setCell (p:=⟨w.heap.size,0,none⟩) (Zb _) _).setCell (p:=⟨w.heap.size+1,0,none⟩) (by show w.heap.size≤w.heap.size+1;omega) _
    exact⟨((KeepsOthers.setCell _ _ _).trans (KeepsOthers.setCell _ _ _)).from _,rfl,by rw[List.all_append,af];simpa using hx,(h2.set _).other (by omega) _,(h3.other (by omega) _).set _,hB.trans k1⟩
 case done =>
  rintro E ys W hE rfl ⟨af,⟨v,hv,aa⟩,h2,h3,hB,ao⟩ hK
  have hc:=hv.cell
  have c2:=h2.cell
  have f2:=h2.frozen
  have c3:=h3.cell
  have f3:=h3.frozen
  obtain⟨A,cp,rfl⟩:=own_form aa
  gi_wp2
  have r1:=aa.kept (grownBy_setCell' W w.heap.size (.slice A ys.length cp)) (.inr (h2.not_row (by decide) aa).symm)
  have ap:=h3.other (show w.heap.size+1≠w.heap.size by omega) (.slice A ys.length cp)
  have r2:=r1.kept (grownBy_setCell' _ (w.heap.size+1) (.bool true)) (.inr (ap.not_row (by decide) r1).symm)
  have b2:=(h2.set (.slice A ys.length cp)).other (show w.heap.size≠w.heap.size+1 by omega) (.bool true)
  have b3:=ap.set (.bool true)
  have hK':((W.setCell ⟨w.heap.size,0,none⟩ (.slice A ys.length cp)).setCell ⟨w.heap.size+1,0,none⟩ (.bool true)).heap[E]?=some (.deferred (some [])) :=
   (Ym _ _ _ E (by show E≠w.heap.size+1;omega)).trans ((Ym _ _ _ E (by show E≠w.heap.size;omega)).trans hK)
  have k1:=(hB.setCell (p:=⟨w.heap.size,0,none⟩) (Zb _) (.slice A ys.length cp)).setCell (p:=⟨w.heap.size+1,0,none⟩) (by show w.heap.size≤w.heap.size+1;omega) (.bool true)
  obtain⟨X,hX⟩:∃X,(W.setCell ⟨w.heap.size,0,none⟩ (.slice A ys.length cp)).setCell ⟨w.heap.size+1,0,none⟩ (.bool true)=X:=⟨_,rfl⟩
  rw[hX]at r2 b2 b3 hK' k1 ⊢
  have e2:=cell_kept b2.cell (grownBy_putObj' X E (.deferred none)) (fun r e=>by cases e;exact⟨_,hK',rfl⟩)
  have e3:=cell_kept b3.cell (grownBy_putObj' X E (.deferred none)) (fun r e=>by cases e;exact⟨_,hK',rfl⟩)
  refine⟨by simp,.inl ⟨_,_,rfl,run_takeDeferred hK',?_⟩⟩
  refine⟨.tuple #[.slice A ys.length cp,.bool true],?_,?_⟩
  · simp[results,Tryz.f181,go_sem,e2,e3]
  · rw[hL]
    unfold Q.RetHexesT
    rw[Zp af]
    exact⟨A,cp,rfl,Slt.of_own (ownsRow_putObj r2 _ hK' rfl),k1.trans (belowK_b (w:=w) (Zb _) X E _ _ (by omega) hK' rfl rfl)⟩
 case stop =>
  rintro E c pre W hE ak ⟨rfl,aj,h2,h3,hB⟩ hK
  gi_wp2
  have e2:=cell_kept h2.cell (grownBy_putObj' W E (.deferred none)) (fun r e=>by cases e;exact⟨_,hK,rfl⟩)
  have e3:=cell_kept h3.cell (grownBy_putObj' W E (.deferred none)) (fun r e=>by cases e;exact⟨_,hK,rfl⟩)
  refine⟨by simp,.inl ⟨_,_,rfl,run_takeDeferred hK,?_⟩⟩
  refine⟨.tuple #[.slice none 0 0,.bool false],?_,?_⟩
  · simp[results,Tryz.f181,go_sem,e2,e3]
  · have hn:L.all Q.ok=false:=by
     obtain⟨t,rfl⟩:=ak
     rw[List.all_append,aj,Xh]
    unfold Q.RetHexesT
    rw[Zl (by rw[hn];decide)]
    exact⟨rfl,hB.trans (belowK_b (w:=w) (Zb _) W E _ _ (by omega) hK rfl rfl)⟩
end Go.Proofs.YtikiplbhlohmdaaGreatDoor
namespace Go.Proofs.YtikiplbhlohmdaaGreatDoor
open Go.RowKit Go.Stop
def Fi.LaidN (w:World):Prop:=Lib.TabIs Tryz.prog w "internal/strconv.uint64pow10" .u64 Lib.pow10Tab∧(∃tp p,w.var? Tryz.prog "strconv.ErrSyntax" = some #[.iface tp p])∧∃tp p,w.var? Tryz.prog "strconv.ErrRange" = some #[.iface tp p]
theorem Fi.var_next {w w':World} {n:String} {g:Nat} {cs:Array Value} (hg:Tryz.prog.globalNamed n=some g) (hv:w.var? Tryz.prog n=some cs) (hb:Below w.heap.size w w'):w'.var? Tryz.prog n=some cs:=by
 refine var?_below hb hg ?_ hv
 rcases ZX g w.heap.size with h|h
 · exact h
 · unfold World.var? at hv
   simp[hg,YJ h]at hv
theorem Fi.gSyn:Tryz.prog.globalNamed "strconv.ErrSyntax" = some 6:=by kernel_rfl
theorem Fi.gRng:Tryz.prog.globalNamed "strconv.ErrRange" = some 7:=by kernel_rfl
theorem Fi.LaidN.next {w w':World} (h:Fi.LaidN w) (hb:Below w.heap.size w w'):Fi.LaidN w':=by
 obtain⟨h1,⟨tp,p,h2⟩,aa,p',h3⟩:=h
 exact⟨Lib.tabBelow_of_tabIs h1 w' hb,⟨tp,p,Fi.var_next Fi.gSyn h2 hb⟩,aa,p',Fi.var_next Fi.gRng h3 hb⟩
theorem Fi.atoi_any (s:ByteArray) (hs:s.size≤100000) (w:World) (hL:Fi.LaidN w) :
 Calls Tryz.prog 180 #[.string s] w fun e w'=>Below w.heap.size w w' ∧
  ((∃v,Lib.atoiAll s.data.toList=.ok v ∧ -9223372036854775808≤v∧v≤9223372036854775807∧e=.returned (.tuple #[.int .i64 v,.nilIface])) ∨
   ((∀v,Lib.atoiAll s.data.toList≠.ok v)∧∃v T p,e=.returned (.tuple #[.int .i64 v,.iface T p]))):=by
 obtain⟨_,⟨tp,p,h1⟩,aa,p',h2⟩:=hL
 rcases hh:Lib.atoiAll s.data.toList with v|_|_
 · refine (Tryz.strconv_Atoi_ok s (by omega) v hh w).mono ?_
   rintro e w' ⟨rfl,hw⟩
   have hb:=Lib.atoiAll_bounds hh
   refine⟨?_,.inl ⟨v,rfl,hb.1,hb.2,rfl⟩⟩
   rcases hw with rfl|⟨t,rfl⟩
   · exact Zd _ _
   · exact Lib.bytesWorld_below _ _ _
 · refine (Any.strconv_Atoi_syntax_var Tryz.laysC172 s (by omega) hh tp p w h1).mono ?_
   rintro e w' ⟨N,rfl,_,_,hb⟩
   exact⟨hb,.inr ⟨(fun v h=>by cases h),_,_,_,rfl⟩⟩
 · refine (Any.strconv_Atoi_range_var Tryz.laysC172 s (by omega) hh aa p' w h2).mono ?_
   rintro e w' ⟨N,rfl,_,_,hb⟩
   exact⟨hb,.inr ⟨(fun v h=>by cases h),_,_,_,rfl⟩⟩
theorem Fi.itoa_any (n:Int) (h0 : -9223372036854775808≤n) (h1:n≤9223372036854775807) (w:World) (hL:Fi.LaidN w) :
 Calls Tryz.prog 95 #[.int .i64 n] w fun e w'=>e=.returned (.string ⟨(Lib.itoa n).toArray⟩)∧Below w.heap.size w w':=by
 refine (Tryz.strconv_Itoa n h0 h1 w hL.1).mono ?_
 rintro e w' ⟨he,k,os,rfl⟩
 refine⟨he,rfl,rfl,rfl,by simp[Sort.grow],fun i hi=>?_⟩
 simp only[Sort.grow,World.heap_drewN]
 rw[Array.getElem?_append_left hi]
def Fi.RetNum (l:List UInt8) (aa:Int) (e:Ending):Prop:=e=.returned (.tuple #[.int .i64 ((Fi.num l aa).getD 0),.bool (Fi.num l aa).isSome])
set_option maxRecDepth 100000 in
set_option maxHeartbeats 4000000 in
theorem Fi.num_any (s:ByteArray) (hs:s.size≤100000) (aa:Int) (hm:aa≤1000000000) (w:World) (hL:Fi.LaidN w) :
 Calls Tryz.prog 140 #[.string s,.int .i64 aa] w fun e w'=>Fi.RetNum s.data.toList aa e∧Below w.heap.size w w':=by
 have af:(∀v:Int,0≤v→v≤aa→Lib.atoiAll s.data.toList≠.ok v)→Fi.num s.data.toList aa=none:=fun h =>
  Fi.num_none_of fun u hu he=>h u (by omega) hu (by rw[he];exact Fi.atoi_dec u (by omega))
 go_enter Tryz.func140,Tryz.ntmps140
 go_wp2_with fail
 refine (Fi.atoi_any s hs _ hL).mono ?_
 rintro e w1 ⟨ae,(⟨v,hv,v0,v1,rfl⟩|⟨hv,v,T,p,rfl⟩)⟩
 · rcases Int.lt_or_le v 0 with ao|hpos
   · have hN:=af (fun u hu _ h=>by rw[hv]at h;cases h;omega)
     clear hv af
     go_wp2_with fail
     go_ret2
     exact⟨by unfold Fi.RetNum;rw[hN];rfl,ae⟩
   have aj:¬v<0:=by omega
   by_cases hbig:v > aa
   · have hN:=af (fun u hu ap h=>by rw[hv]at h;cases h;omega)
     clear hv af
     go_wp2_with fail
     go_ret2
     exact⟨by unfold Fi.RetNum;rw[hN];rfl,ae⟩
   have L1:Fi.LaidN w1:=hL.next ae
   have hit:Lib.itoa v=Lib.decDigits v.toNat:=by unfold Lib.itoa;rw[if_neg (by omega)]
   have ai:(Lib.itoa v).length≤11:=by rw[hit];have:=Fi.dec_len 9 v.toNat (by rw[show (10:Nat) ^ (9+1)=10000000000 from by decide];omega);omega
   obtain⟨t,ht⟩:∃t:ByteArray,(⟨(Lib.itoa v).toArray⟩:ByteArray)=t:=⟨_,rfl⟩
   have ag:t.data.toList=Lib.decDigits v.toNat:=by rw[←ht];exact hit
   have hI:=Fi.itoa_any v v0 v1 w1 L1
   rw[ht]at hI
   by_cases heq:t=s
   · have hN:Fi.num s.data.toList aa=some v:=by
      rw[←heq,ag,Fi.isNum_dec _ _ (by omega)]
      congr 1
      omega
     have HN:=Za hN
     clear hv af hit ai ht ag hN
     go_wp2_with fail
     refine hI.mono ?_
     rintro e w2 ⟨rfl,ah⟩
     subst heq
     go_wp2_with fail
     go_ret2
     exact⟨by unfold Fi.RetNum;rw[HN.out];rfl,ae.trans (ah.mono ae.size)⟩
   · have hN:Fi.num s.data.toList aa=none:=Fi.num_none_of fun u hu he=>heq (by
      have h1:=Fi.atoi_dec u (by omega)
      rw[←he,hv]at h1
      cases h1
      rw[←Lib.mk_data t,ag,←Lib.mk_data s,he]
      simp)
     have HN:=Za hN
     have ak:(t.toList == s.toList)=false:=by
      rw[Xq,Yw,Yw]
      exact fun h=>heq (by rw[←Lib.mk_data t,h,Lib.mk_data])
     clear hv af hit ai ht ag hN
     go_wp2_with fail
     refine hI.mono ?_
     rintro e w2 ⟨rfl,ah⟩
     go_wp2_with fail
     go_ret2
     exact⟨by unfold Fi.RetNum;rw[HN.out];rfl,ae.trans (ah.mono ae.size)⟩
 · have hN:=af (fun u _ _ h=>hv u h)
   clear hv af
   go_wp2_with fail
   go_ret2
   exact⟨by unfold Fi.RetNum;rw[hN];rfl,ae⟩
end Go.Proofs.YtikiplbhlohmdaaGreatDoor
namespace Go.Proofs.YtikiplbhlohmdaaGreatDoor
open Go.RowKit
set_option maxHeartbeats 1000000 in
theorem Rw.quiet_any (c k:Int) (A:Option Addr) (n cp:Nat) (w:World) :
 Calls Tryz.prog 113 #[.agg #[.int .i32 c,.int .i64 k,.slice A n cp]] w fun e w'=>e=.returned (.bool (decide (k=0)&&decide (n=0)))∧Below w.heap.size w w':=by
 by_cases hk:k=0
 · subst hk
   rcases Yz n with rfl|hn
   · go_enter Tryz.func113,Tryz.ntmps113
     go_wp2
     go_ret
     exact⟨rfl,(Zd _ _).alloc (Zb _) _⟩
   · have h1:((n:Int) == 0)=false:=by simp;omega
     go_enter Tryz.func113,Tryz.ntmps113
     go_wp2
     go_ret
     exact⟨by rw[Zo (show ¬n=0 by omega)];rfl,(Zd _ _).alloc (Zb _) _⟩
 · have h1:(k == 0)=false:=by simp[hk]
   go_enter Tryz.func113,Tryz.ntmps113
   go_wp2
   go_ret
   exact⟨by rw[Zo hk];rfl,(Zd _ _).alloc (Zb _) _⟩
theorem Rw.cut0_any (s e:ByteArray) (hs:s.size≤1000000) (he:e.size≤1000) (w:World) :
 Calls Tryz.prog 182 #[.string s,.string e] w fun x w'=>x=.returned (.tuple #[.string ⟨(Rw.cutE s.data.toList e.data.toList).toArray⟩,.bool (Rw.ends s.data.toList e.data.toList)])∧w'=w:=by
 have hH:=fun w=>Tryz.stringslite_HasSuffix s e w (by omega)
 have hE:Lib.hasSuffix s.data.toList e.data.toList=Rw.ends s.data.toList e.data.toList:=by
  unfold Lib.hasSuffix Rw.ends
  rw[Yb,List.isSuffixOf_iff_suffix,ZB,Zm,YP,List.suffix_iff_eq_drop]
  constructor
  · intro h
    refine⟨?_,h.symm⟩
    have:=Z4 List.length h
    rw[ZK]at this
    omega
  · exact fun h=>h.2.symm
 obtain⟨b,hb⟩:∃b,Rw.ends s.data.toList e.data.toList=b:=⟨_,rfl⟩
 rw[hE]at hH
 cases b
 · have hc:(⟨(Rw.cutE s.data.toList e.data.toList).toArray⟩:ByteArray)=s:=by
    unfold Rw.cutE
    rw[hb,Zl (by decide),Lib.mk_data]
   simp only[hb]at hH
   rw[hc,hb]
   clear hc hb hE
   go_enter Tryz.func182,Tryz.ntmps182
   go_wp2_with (refine (hH _).mono ?_;rintro x w1 ⟨rfl,rfl⟩)
   go_ret2
   exact⟨rfl,rfl⟩
 · have hle:e.size≤s.size:=by
    have h1:=hb
    unfold Rw.ends at h1
    rw[ZB,Zm]at h1
    simpa using h1.1
   have hc:s.extract 0 (s.size-e.size)=⟨(Rw.cutE s.data.toList e.data.toList).toArray⟩:=by
    unfold Rw.cutE
    rw[hb,Zp rfl,←Lib.mk_data (s.extract 0 (s.size-e.size)),Lib.extract_data]
    simp
   simp only[hb]at hH
   rw[hb,←hc]
   have h1:(e.size:Int)≤s.size:=by omega
   have h2:(0:Int)≤(s.size:Int)-e.size:=by omega
   have h3:(s.size:Int)-e.size≤s.size:=by omega
   clear hc hb hE
   go_enter Tryz.func182,Tryz.ntmps182
   go_wp2_with (refine (hH _).mono ?_;rintro x w1 ⟨rfl,rfl⟩)
   go_ret2
   exact⟨rfl,rfl⟩
theorem Rw.cut_any (s e:ByteArray) (hs:s.size≤1000000) (he:e.size≤1000) (w:World) :
 Calls Tryz.prog 142 #[.string s,.string e] w fun x w'=>x=.returned (.tuple #[.string ⟨(Rw.cutE s.data.toList e.data.toList).toArray⟩,.bool (Rw.ends s.data.toList e.data.toList)])∧w'=w:=by
 go_enter Tryz.func142,Tryz.ntmps142
 go_wp2_with (refine (Rw.cut0_any s e hs he _).mono ?_;rintro x w1 ⟨rfl,rfl⟩)
 go_ret2
 exact⟨rfl,rfl⟩
theorem Rw.head0 {s:ByteArray} {b:UInt8} (h:s.data.toList.head?=some b):∃h:0<s.size,s[0]=b:=by
 have h1:0<s.size:=by
  rcases hl:s.data.toList with _|⟨c,r⟩
  · rw[hl]at h;cases h
  · have:s.data.toList.length=s.size:=by simp
    rw[hl]at this;simp at this;omega
 rw[Fi.head_get s h1]at h
 exact⟨h1,by simpa using h⟩
theorem Rw.head1 {s:ByteArray} {b:UInt8} (hne:s.data.toList≠[]) (h:s.data.toList.head?≠some b):∃h:0<s.size,s[0]≠b:=by
 have h1:0<s.size:=by
  have:s.data.toList.length=s.size:=by simp
  rcases hl:s.data.toList with _|⟨c,r⟩
  · exact absurd hl hne
  · rw[hl]at this;simp at this;omega
 rw[Fi.head_get s h1]at h
 exact⟨h1,by simpa using h⟩
def Rw.RetMap (m:List Int) (w:World) (e:Ending) (w':World):Prop :=
 ∃A c,e=.returned (.tuple #[.slice A m.length c,.bool true])∧Slt w' 21 A (m.map (Value.int .i32))∧Below w.heap.size w w'
theorem Rw.mapping_any (s:ByteArray) (hs:s.size≤1000000) (m:List Int) (hm:Rw.mp s.data.toList=some m) (w:World) :
 Calls Tryz.prog 141 #[.string s] w (Rw.RetMap m w):=by
 unfold Rw.mp at hm
 split at hm
 · rename_i h0
   simp only[Zi]at hm
   subst hm
   rcases h0 with h0|h0
   · have he:s.toList.isEmpty=true:=by rw[Yw s,h0];rfl
     clear h0
     go_enter Tryz.func141,Tryz.ntmps141
     go_wp2
     go_ret2
     exact⟨none,0,rfl,Slt.nil _ _ _,Zd _ _⟩
   · obtain⟨h1,h2⟩:=Rw.head0 h0
     have he:s.toList.isEmpty=false:=by
      rw[Yw s]
      rcases hl:s.data.toList with _|⟨b,r⟩
      · rw[hl]at h0;cases h0
      · rfl
     have h3:(s[0].toNat:Int)=60:=by rw[h2];rfl
     have h4:(0:Int)<s.size:=by omega
     clear h0 h2
     go_enter Tryz.func141,Tryz.ntmps141
     go_wp2
     go_ret2
     exact⟨none,0,rfl,Slt.nil _ _ _,Zd _ _⟩
 · rename_i h0
   split at hm
   · rename_i h5
     obtain⟨h5,h6⟩:=h5
     simp only[Zi]at hm
     have hne:s.data.toList≠[]:=fun e=>h0 (.inl e)
     obtain⟨h1,h2⟩:=Rw.head1 hne fun e=>h0 (.inr e)
     have he:s.toList.isEmpty=false:=by
      rw[Yw s]
      rcases hl:s.data.toList with _|⟨b,r⟩
      · exact absurd hl hne
      · rfl
     have h3:((s[0].toNat:Int) == 60)=false:=by
      have:s[0].toNat≠60:=fun e=>h2 (UInt8.toNat_inj.1 e)
      simp;omega
     have h4:(0:Int)<s.size:=by omega
     have hH:=Q.hexesT_any s hs
     have ae:(Q.bas (Fi.spl 32 [] s.data.toList)).all Q.ok=true:=by
      unfold Q.bas
      rw[List.all_map]
      exact h5
     have hlen:(Q.bas (Fi.spl 32 [] s.data.toList)).length=m.length:=by
      unfold Q.bas
      rw[Zg,←hm,Zg]
     have aa:Q.vals (Q.bas (Fi.spl 32 [] s.data.toList))=m.map (Value.int .i32):=by
      rw[←hm]
      unfold Q.vals Q.bas Q.val
      rw[Xc,Xc]
      rfl
     unfold Q.RetHexesT at hH
     simp only[ae,Yt,hlen,aa]at hH
     have af:m.length≤2:=by rw[←hm,Zg];exact h6
     have h7:(m.length:Int)≤2:=by omega
     clear h0 h5 h6 hm hne h2 ae hlen aa
     go_enter Tryz.func141,Tryz.ntmps141
     go_wp2_with fail
     refine (hH _).mono ?_
     rintro e w1 ⟨A,c,rfl,hS,hb⟩
     have HS:=Za hS
     have HB:=Za hb
     clear hS hb hH
     go_wp2_with fail
     go_ret2
     exact⟨A,c,rfl,HS.out,HB.out⟩
   · cases hm
def Rw.RetRow (r:Rw.Row) (w:World) (e:Ending) (w':World):Prop :=
 ∃A c,e=.returned (.tuple #[.agg #[.int .i32 r.1,.int .i64 r.2.1,.slice A r.2.2.length c],.string ⟨#[]⟩])∧Slt w' 21 A (r.2.2.map (Value.int .i32))∧Below w.heap.size w w'
theorem Rw.row_some {F:List (List UInt8)} {r:Rw.Row} (h:Rw.row F=some r):∃f0 f1 f3 f5,F.length=15∧F[0]?=some f0∧F[1]?=some f1∧F[3]?=some f3∧F[5]?=some f5∧f1≠[]∧Fi.hex f0=some r.1∧Fi.num f3 254=some r.2.1∧Rw.mp f5=some r.2.2:=by
 unfold Rw.row at h
 split at h
 · rename_i h0
   obtain⟨h0,h1⟩:=h0
   have g:∀i,i<15→F[i]?=some (F.getD i []):=fun i hi=>by
    rw[Zc (by omega),Xi,Zc (by omega)];rfl
   rcases hc:Fi.hex (F.getD 0 []) with _|c
   · rw[hc]at h;cases h
   rcases hk:Fi.num (F.getD 3 []) 254 with _|k
   · rw[hc,hk]at h;cases h
   rcases hm:Rw.mp (F.getD 5 []) with _|m
   · rw[hc,hk,hm]at h;cases h
   rw[hc,hk,hm]at h
   simp only[Zr,Zt,Zi]at h
   subst h
   exact⟨_,_,_,_,h0,g 0 (by omega),g 1 (by omega),g 3 (by omega),g 5 (by omega),h1,hc,hk,hm⟩
 · cases h
set_option maxRecDepth 100000 in
set_option maxHeartbeats 4000000 in
theorem Rw.row_any (A:Option Addr) (n cp B:Nat) (F:List (List UInt8)) (r:Rw.Row) (w:World) (hF:Rw.row F=some r) (hn:F.length=n) (hB:B≤w.heap.size) (hA:Sl w B A (F.map fun x=>Value.string ⟨x.toArray⟩))
 (au:∀x∈F,x.length≤100000) (hL:Fi.LaidN w):Calls Tryz.prog 111 #[.slice A n cp] w (Rw.RetRow r w):=by
 obtain⟨f0,f1,f3,f5,ax,i0,i1,i3,i5,hne,ag,ah,aw⟩:=Rw.row_some hF
 obtain rfl:n=15:=by omega
 obtain⟨b,o,rfl,hb,hc⟩:=hA (by rw[Zg];omega)
 have aj:=hc 0 (by rw[Zg];omega)
 have ap:=hc 1 (by rw[Zg];omega)
 have ar:=hc 3 (by rw[Zg];omega)
 have ao:=hc 5 (by rw[Zg];omega)
 rw[Zu,i0,Zt]at aj
 rw[Zu,i1,Zt]at ap
 rw[Zu,i3,Zt]at ar
 rw[Zu,i5,Zt]at ao
 have s3:=au f3 (Zk i3)
 have s5:=au f5 (Zk i5)
 obtain⟨b0,av⟩:∃x:ByteArray,⟨f0.toArray⟩=x:=⟨_,rfl⟩
 obtain⟨b1,aq⟩:∃x:ByteArray,⟨f1.toArray⟩=x:=⟨_,rfl⟩
 obtain⟨b3,ae⟩:∃x:ByteArray,⟨f3.toArray⟩=x:=⟨_,rfl⟩
 obtain⟨b5,ak⟩:∃x:ByteArray,⟨f5.toArray⟩=x:=⟨_,rfl⟩
 have H1:∀W:World,Calls Tryz.prog 116 #[.string b0] W fun e w'=>e=.returned (.tuple #[.int .i32 r.1,.bool true])∧w'=W:=fun W=>(Fi.hex_any b0 W).mono fun e w' h=>⟨by
  have:=h.1
  unfold Fi.RetHex at this
  rw[this,←av,show (⟨f0.toArray⟩:ByteArray).data.toList=f0 from rfl,ag];rfl,h.2⟩
 have H2:∀W:World,Fi.LaidN W→Calls Tryz.prog 140 #[.string b3,.int .i64 254] W fun e w'=>e=.returned (.tuple #[.int .i64 r.2.1,.bool true])∧Below W.heap.size W w':=fun W hW=>(Fi.num_any b3 (by rw[←ae];show f3.toArray.size≤_;simpa using s3) 254 (by decide) W hW).mono fun e w' h=>⟨by
  have:=h.1
  unfold Fi.RetNum at this
  rw[this,←ae,show (⟨f3.toArray⟩:ByteArray).data.toList=f3 from rfl,ah];rfl,h.2⟩
 have H3:=Rw.mapping_any b5 (by rw[←ak];show f5.toArray.size≤_;simp;omega) r.2.2 (by rw[←ak];exact aw)
 have e1:b1.toList.isEmpty=false:=by
  rw[←aq,Yw]
  rcases hl:f1 with _|⟨x,t⟩
  · exact absurd hl hne
  · rfl
 rw[av]at aj
 rw[aq]at ap
 rw[ae]at ar
 rw[ak]at ao
 rw[YW]at aj
 obtain⟨c,k,m⟩:=r
 simp only at H1 H2 H3
 have ay:b<w.heap.size:=by omega
 clear hc hA hF ax i0 i1 i3 i5 hne ag ah aw av aq ae ak au s3 s5 hn
 go_enter Tryz.func111,Tryz.ntmps111
 go_wp2_with fail
 refine (H1 _).mono ?_
 rintro e w1 ⟨rfl,rfl⟩
 go_wp2_with fail
 refine (H2 _ (hL.next (((Zd _ _).alloc (Zb _) _).alloc (by simp) _))).mono ?_
 rintro e w2 ⟨rfl,ai⟩
 have k1:Rw.At w2 w.heap.size 113 [.int .i32 0,.int .i64 0,.slice none 0 0]:=((Rw.At.new w 113 [.int .i32 0,.int .i64 0,.slice none 0 0]).alloc _).below ai
 have k2:Rw.At w2 (w.heap.size+1) 113 [.int .i32 c,.int .i64 0,.slice none 0 0]:=by
  have h:=Rw.At.new (w.alloc (.cells #[.int .i32 0,.int .i64 0,.slice none 0 0] 113)) 113 [.int .i32 c,.int .i64 0,.slice none 0 0]
  rw[ZH]at h
  exact h.below ai
 have aa:Below w.heap.size w w2:=(((Zd w.heap.size w).alloc (Zb _) _).alloc (by simp) _).trans (ai.mono (by simp;omega))
 obtain⟨d1,d2,d3,d4,d5,d6⟩:=k2.three
 have c5:=((bcell aa).1 _ _ ay).trans ao
 clear aj ap ar ao ai
 go_wp2_with fail
 refine (H3 _).mono ?_
 rintro e w3 ⟨Am,cm,rfl,hS,ae⟩
 have k3:=(k1.other (show w.heap.size≠w.heap.size+1 by omega) (.int .i64 k) (i:=1)).below ae
 have k4:=(k2.set 1 (.int .i64 k)).below ae
 simp only[ZF,ZD]at k4
 have af:Below w.heap.size w w3:=(aa.setCell (p:=⟨w.heap.size+1,1,none⟩) (ZZ _) (.int .i64 k)).trans (ae.mono (Zh aa.size (KeepsWalks.setCell w2 _ (.int .i64 k)).size))
 obtain⟨g1,g2,g3,g4,g5,g6⟩:=k3.three
 obtain⟨m1,m2,m3,m4,m5,m6⟩:=k4.three
 have HS:=Za hS
 have HB:=Za af
 clear hS ae af aa k1 k2 d1 d2 d3 d4 d5 d6 c5
 go_wp2_with fail
 have j1:=k4.set 2 (.slice Am m.length cm)
 have j2:=k3.other (show w.heap.size≠w.heap.size+1 by omega) (.slice Am m.length cm) (i:=2)
 have j3:=j2.set 0 (.int .i32 c)
 have j4:=j3.set 1 (.int .i64 k)
 have j5:=j4.set 2 (.slice Am m.length cm)
 refine Yl (Rw.results2 rfl _ _ w.heap.size _ _ _ _ rfl j5 Tryz.underlying113 rfl (by kernel_rfl)) rfl ⟨Am,cm,rfl,?_,?_⟩
 · exact ((((HS.out.setAt k4 (by decide) 2 _).setAt j2 (by decide) 0 _).setAt j3 (by decide) 1 _).setAt j4 (by decide) 2 _)
 · exact (((HB.out.setCell (p:=⟨w.heap.size+1,2,none⟩) (ZZ _) _).setCell (p:=⟨w.heap.size,0,none⟩) (Zb _) _).setCell (p:=⟨w.heap.size,1,none⟩) (Zb _) _).setCell (p:=⟨w.heap.size,2,none⟩) (Zb _) _
def Rw.firstB:ByteArray:=⟨#[44,32,70,105,114,115,116,62]⟩
def Rw.lastB:ByteArray:=⟨#[44,32,76,97,115,116,62]⟩
def Rw.RetRange (b:Nat) (vo:Value) (code:Int) (o:List UInt8) (w:World) (e:Ending) (w':World):Prop :=
 e=.returned (.bool true)∧Rw.At w' b 153 [vo,.int .i32 code,.string ⟨o.toArray⟩]∧w.grownBy w' (some b)
theorem Rw.empty_iff (s:ByteArray):s.toList.isEmpty=s.data.toList.isEmpty:=by rw[Yw s]
set_option maxRecDepth 100000 in
set_option maxHeartbeats 4000000 in
theorem Rw.ranged_any (b:Nat) (vo:Value) (code:Int) (was name:ByteArray) (c k:Int) (A:Option Addr) (n cp:Nat) (o:List UInt8) (w:World) (hv:vo.oneCell'=true)
 (aa:Rw.At w b 153 [vo,.int .i32 code,.string was]) (hs:name.size≤1000000) (hr:Rw.ranged was.data.toList name.data.toList (decide (k=0)&&decide (n=0))=some o) :
 Calls Tryz.prog 112 #[.pointer (some ⟨b,0,none⟩),.string name,.agg #[.int .i32 c,.int .i64 k,.slice A n cp]] w (Rw.RetRange b vo code o w):=by
 have c1:=Rw.cut_any name Rw.firstB hs (by decide)
 have c2:=Rw.cut_any name Rw.lastB hs (by decide)
 rw[show Rw.firstB.data.toList=Rw.first from rfl]at c1
 rw[show Rw.lastB.data.toList=Rw.last from rfl]at c2
 have hQ:=Rw.quiet_any c k A n cp
 have av:=aa.lt
 obtain⟨d1,d2,d3,d4,d5,d6⟩:=aa.three
 unfold Rw.ranged at hr
 obtain⟨x1,af⟩:∃x:ByteArray,⟨(Rw.cutE name.data.toList Rw.first).toArray⟩=x:=⟨_,rfl⟩
 obtain⟨x2,ae⟩:∃x:ByteArray,⟨(Rw.cutE name.data.toList Rw.last).toArray⟩=x:=⟨_,rfl⟩
 have ap:x1.size≤1000000:=by
  rw[←af]
  show (Rw.cutE name.data.toList Rw.first).toArray.size≤1000000
  unfold Rw.cutE
  split <;> simp <;> omega
 have ar:x2.size≤1000000:=by
  rw[←ae]
  show (Rw.cutE name.data.toList Rw.last).toArray.size≤1000000
  unfold Rw.cutE
  split <;> simp <;> omega
 obtain⟨b1,ah⟩:∃x,Rw.ends name.data.toList Rw.first=x:=⟨_,rfl⟩
 obtain⟨b2,ag⟩:∃x,Rw.ends name.data.toList Rw.last=x:=⟨_,rfl⟩
 rw[af,ah]at c1
 rw[ae,ag]at c2
 rw[ah,ag]at hr
 unfold Rw.firstB at c1
 unfold Rw.lastB at c2
 split at hr
 · split at hr
   · rename_i h1 h2
     obtain⟨rfl,h2,h3⟩:=h2
     simp only[Zi]at hr
     subst hr
     rw[h3]at hQ
     have hw:x2++(⟨#[44,32,70,105,114,115,116,62]⟩:ByteArray)=was:=by
      rw[←ae,show (⟨#[44,32,70,105,114,115,116,62]⟩:ByteArray)=⟨Rw.first.toArray⟩ from rfl,Fi.ba_app,h2,Lib.mk_data]
     have ao:was.toList.isEmpty=false:=by
      rw[Rw.empty_iff,←h2]
      simp[Rw.first]
     subst hw
     have au:¬9223372036854775807<x2.size+(⟨#[44,32,70,105,114,115,116,62]⟩:ByteArray).size:=by
      have:(⟨#[44,32,70,105,114,115,116,62]⟩:ByteArray).size=8:=rfl
      omega
     clear h1 h2 h3 af ae ah ag
     go_enter Tryz.func112,Tryz.ntmps112
     go_wp2_with fail
     refine (c1 _).mono ?_
     rintro e w1 ⟨rfl,rfl⟩
     go_wp2_with fail
     refine (c2 _).mono ?_
     rintro e w2 ⟨rfl,rfl⟩
     go_wp2_with fail
     refine (hQ _).mono ?_
     rintro e w3 ⟨rfl,aj⟩
     have HB:=Za aj
     clear aj
     go_wp2_with fail
     go_ret
     exact⟨rfl,((aa.set 2 (.string ⟨#[]⟩)).alloc _).below HB.out,Rw.grown_trans (Rw.grown_trans (Rw.grown_set b 2 _) (Yk _ _ _)) (Rw.grown_bel HB.out)⟩
   · cases hr
 · split at hr
   · rename_i h1 h2
     subst h2
     split at hr
     · rename_i h3
       simp only[Zi]at hr
       subst hr
       rw[h3]at hQ
       have hw:x1++(⟨#[44,32,70,105,114,115,116,62]⟩:ByteArray)=⟨(Rw.cutE name.data.toList Rw.first++Rw.first).toArray⟩:=by
        rw[←af,show (⟨#[44,32,70,105,114,115,116,62]⟩:ByteArray)=⟨Rw.first.toArray⟩ from rfl,Fi.ba_app]
       obtain⟨ai,ak⟩:was.data.toList=[]∧b2=false:=by
        refine⟨?_,?_⟩
        · rcases hl:was.data.toList with _|⟨x,r⟩
          · rfl
          · exact absurd (.inl (by rw[hl];simp)) h1
        · cases b2
          · rfl
          · exact absurd (.inr rfl) h1
       have ao:was.toList.isEmpty=true:=by rw[Rw.empty_iff,ai];rfl
       have au:¬9223372036854775807<x1.size+(⟨#[44,32,70,105,114,115,116,62]⟩:ByteArray).size:=by
        have:(⟨#[44,32,70,105,114,115,116,62]⟩:ByteArray).size=8:=rfl
        omega
       subst ak
       have HW:=Za hw
       clear hw h1 h3 af ae ah ag ai
       go_enter Tryz.func112,Tryz.ntmps112
       go_wp2_with fail
       refine (c1 _).mono ?_
       rintro e w1 ⟨rfl,rfl⟩
       go_wp2_with fail
       refine (c2 _).mono ?_
       rintro e w2 ⟨rfl,rfl⟩
       go_wp2_with fail
       refine (hQ _).mono ?_
       rintro e w3 ⟨rfl,aj⟩
       have HB:=Za aj
       clear aj
       go_wp2_with fail
       go_ret
       refine⟨rfl,?_,Rw.grown_trans ?_ (Rw.grown_bel HB.out)⟩
       · rw[←HW.out]
         first|exact (((aa.set 2 _).set 2 _).alloc _).below HB.out|exact ((aa.set 2 _).alloc _).below HB.out|exact (((aa.set 2 _).alloc _).set 2 _).below HB.out
       · first|exact Rw.grown_trans (Rw.grown_trans (Rw.grown_set b 2 _) (Rw.grown_set b 2 _)) (Yk _ _ _)|exact Rw.grown_trans (Rw.grown_set b 2 _) (Yk _ _ _)|exact Rw.grown_trans (Rw.grown_trans (Rw.grown_set b 2 _) (Yk _ _ _)) (Rw.grown_set b 2 _)
     · cases hr
   · rename_i h1 h2
     simp only[Zi]at hr
     subst hr
     obtain⟨ai,ak⟩:was.data.toList=[]∧b2=false:=by
      refine⟨?_,?_⟩
      · rcases hl:was.data.toList with _|⟨x,r⟩
        · rfl
        · exact absurd (.inl (by rw[hl];simp)) h1
      · cases b2
        · rfl
        · exact absurd (.inr rfl) h1
     have aq:b1=false:=by simpa using h2
     have ao:was.toList.isEmpty=true:=by rw[Rw.empty_iff,ai];rfl
     subst ak aq
     clear h1 h2 af ae ah ag ai
     go_enter Tryz.func112,Tryz.ntmps112
     go_wp2_with fail
     refine (c1 _).mono ?_
     rintro e w1 ⟨rfl,rfl⟩
     go_wp2_with fail
     refine (c2 _).mono ?_
     rintro e w2 ⟨rfl,rfl⟩
     go_wp2_with fail
     go_ret
     exact⟨rfl,(aa.set 2 (.string ⟨#[]⟩)).alloc _,Rw.grown_trans (Rw.grown_set b 2 _) (Yk _ _ _)⟩
end Go.Proofs.YtikiplbhlohmdaaGreatDoor
namespace Go.Proofs.YtikiplbhlohmdaaGreatDoor
open Go.RowKit Go.Stop
theorem Fi.conv1 (w:World) (d:Int) :
 (convert 77 9 (.slice (some ⟨w.heap.size,0,none⟩) 1 1)).run Tryz.prog (w.alloc (.cells #[.int .u8 d] 5))=.ok (.string ⟨#[UInt8.ofNat d.toNat]⟩) (w.alloc (.cells #[.int .u8 d] 5)):=by
 exact run_convert_bytes_arg _ 77 5 Tryz.underlying77 Tryz.underlying5 w.heap.size 0 1 1 [d] rfl (fun i hi=>by
  obtain rfl:i=0:=by omega
  simp) 9 Tryz.underlying9
set_option maxRecDepth 100000 in
set_option maxHeartbeats 4000000 in
theorem Fi.rtext_any (c:Nat) (hc:c<16777216) (w:World) :
 Calls Tryz.prog 78 #[.int .i64 c] w fun e w'=>e=.returned (.string ⟨(Fi.text c).toArray⟩)∧Below w.heap.size w w':=by
 have az:Fi.nd c≤6:=Fi.nd_le 5 c (by rw[show (16:Nat) ^ (5+1)=16777216 from by decide];exact hc)
 go_enter Tryz.func78,Tryz.ntmps78
 go_wp2
 go_loopw [0,3,4] (fun vx vs vi wr=>∃i x:Nat,vx=.int .i64 x∧vs=.string ⟨((Fi.low i c).map Fi.up).toArray⟩∧vi=.int .i64 i∧i≤max 4 (Fi.nd c)∧x=c/16 ^ i∧Below w.heap.size w wr) (fun _ _ vi _=>7-(intOf vi).toNat)
 case atStart=>exact⟨0,c,rfl,rfl,rfl,by omega,by simp,Zd _ _⟩
 case round =>
  obtain⟨i,x,rfl,rfl,rfl,hi,hx,aa⟩:=hrel
  obtain⟨w1,rfl⟩:∃w1:World,w1=wr:=⟨_,rfl⟩
  have ap:=aa.size
  have a6:x<16777216:=by
   have:=Nat.div_le_self c (16 ^ i)
   omega
  have ax:=Za aa
  obtain⟨s,hs⟩:∃s:ByteArray,(⟨((Fi.low i c).map Fi.up).toArray⟩:ByteArray)=s:=⟨_,rfl⟩
  have a1:s.size=i:=by
   rw[←hs]
   show ((Fi.low i c).map Fi.up).toArray.size=i
   simp[Fi.low_len]
  by_cases hgo:i<4∨0<x
  · have aq:i+1≤max 4 (Fi.nd c):=by
     rcases hgo with h|h
     · omega
     · have h1:16 ^ i≤c:=by
        rcases ZX c (16 ^ i) with h2|h2
        · rw[Nat.div_eq_of_lt h2]at hx;omega
        · exact h2
       have:=Fi.nd_ge c i h1
       omega
    have ao:x/16=c/16 ^ (i+1):=by rw[hx,Nat.div_div_eq_div_mul,←YY]
    have ak:∀dg:UInt8,dg=Fi.up (x%16)→(⟨#[dg]⟩:ByteArray)++s=⟨((Fi.low (i+1) c).map Fi.up).toArray⟩:=by
     rintro dg rfl
     rw[←hs,Fi.low_cons,←hx]
     exact Fi.ba_app [Fi.up (x%16)] _
    have HI:=Za aq
    have aj:=Za ao
    have ag:=Za ak
    have ar:¬9223372036854775807<1+s.size:=by omega
    rw[hs]
    clear ak ao hx hs aq
    have aw:(x:Int)%16=((x%16:Nat):Int):=by omega
    obtain⟨d,hd⟩:∃d,x%16=d:=⟨_,rfl⟩
    rw[hd]at aw ag
    have av:d<16:=by omega
    clear hd
    by_cases h10:(d:Int)<10
    · have hC:=Fi.conv1 w1 (48+(d:Int))
      have ah:=Za (aa.alloc ap (.cells #[.int .u8 (48+(d:Int))] 5))
      have af:UInt8.ofNat (48+(d:Int)).toNat=Fi.up d:=by
       unfold Fi.up
       rw[Zp (by omega),show (48+(d:Int)).toNat=48+d by omega]
      rw[af]at hC
      have HR:=Za (ag.out _ rfl)
      clear af aa ag
      rcases ZX i 4 with h4|h4
      · have ai:(i:Int)<4:=by omega
        clear hgo
        go_wp2
        exact⟨⟨i+1,x/16,by go_num,by first|exact Z4 Value.string HR.out|(congr 1;exact HR.out),by go_num,HI.out,aj.out,ah.out⟩,by simp[intOf];omega⟩
      · have ai:¬(i:Int)<4:=by omega
        have au:(x:Int) > 0:=by omega
        clear hgo
        go_wp2
        exact⟨⟨i+1,x/16,by go_num,by first|exact Z4 Value.string HR.out|(congr 1;exact HR.out),by go_num,HI.out,aj.out,ah.out⟩,by simp[intOf];omega⟩
    · have hC:=Fi.conv1 w1 (55+(d:Int))
      have ah:=Za (aa.alloc ap (.cells #[.int .u8 (55+(d:Int))] 5))
      have af:UInt8.ofNat (55+(d:Int)).toNat=Fi.up d:=by
       unfold Fi.up
       rw[Zl (by omega),show (55+(d:Int)).toNat=55+d by omega]
      rw[af]at hC
      have HR:=Za (ag.out _ rfl)
      clear af aa ag
      rcases ZX i 4 with h4|h4
      · have ai:(i:Int)<4:=by omega
        clear hgo
        go_wp2
        exact⟨⟨i+1,x/16,by go_num,by first|exact Z4 Value.string HR.out|(congr 1;exact HR.out),by go_num,HI.out,aj.out,ah.out⟩,by simp[intOf];omega⟩
      · have ai:¬(i:Int)<4:=by omega
        have au:(x:Int) > 0:=by omega
        clear hgo
        go_wp2
        exact⟨⟨i+1,x/16,by go_num,by first|exact Z4 Value.string HR.out|(congr 1;exact HR.out),by go_num,HI.out,aj.out,ah.out⟩,by simp[intOf];omega⟩
  · have ai:¬(i:Int)<4:=by omega
    have ay:x=0:=by omega
    subst ay
    have ae:max 4 (Fi.nd c)=i:=by
     have h1:c<16 ^ i:=by
      rcases ZX c (16 ^ i) with h|h
      · exact h
      · have:=Nat.div_pos h (Nat.pow_pos (by decide));omega
     have:=Fi.nd_le (i-1) c (by rw[show i-1+1=i by omega];exact h1)
     omega
    have hT:s=⟨(Fi.text c).toArray⟩:=by rw[←hs];unfold Fi.text;rw[ae]
    have HT:=Za hT
    rw[hs]
    clear hgo hx ae hs hT
    go_wp2
    go_ret
    exact⟨by rw[HT.out];rfl,ax.out⟩
def Fi.vs (l:List (List UInt8)):List Value:=l.map fun x=>Value.string ⟨x.toArray⟩
set_option maxRecDepth 100000 in
set_option maxHeartbeats 1000000 in
theorem Fi.split_any (s:ByteArray) (hs:s.size≤1000000000) (w:World) (hL:Fi.Laid w) :
 Calls Tryz.prog 110 #[.string s] w (Fi.RetStrs w (Fi.spl 59 [] s.data.toList)):=by
 obtain⟨m,hm⟩:=hL.1
 have h1:=Tryz.strings_Split s ⟨#[59]⟩ m w (by omega) hm (Zb 1)
 have hlen:=Lib.splitB_all ⟨#[59]⟩ (Zb 1) 0 _ s rfl
 have aa:=Fi.split_eq 59 _ s (Zb _)
 obtain⟨L,ae⟩:∃L,Lib.splitB ⟨#[59]⟩ 0 (Lib.countB s ⟨#[59]⟩) s=L:=⟨_,rfl⟩
 obtain⟨n,hn⟩:∃n,Lib.countB s ⟨#[59]⟩+1=n:=⟨_,rfl⟩
 rw[ae]at h1 hlen aa
 rw[hn]at h1 hlen
 have ag:L.map Value.string=Fi.vs (Fi.spl 59 [] s.data.toList):=by
  rw[←aa]
  unfold Fi.vs
  rw[Xc]
  exact Y0 fun x _=>by show Value.string x=Value.string ⟨x.data.toList.toArray⟩;rw[Lib.mk_data]
 rw[ag]at h1
 have af:(Fi.spl 59 [] s.data.toList).length=n:=by rw[←aa,Zg,hlen]
 have ah:=Za af
 clear ag aa hlen ae hn hm hL af
 obtain⟨V,hV⟩:∃V,Fi.vs (Fi.spl 59 [] s.data.toList)=V:=⟨_,rfl⟩
 have HV:=Za hV
 rw[hV]at h1
 clear hV
 go_enter Tryz.func110,Tryz.ntmps110
 go_wp2_with fail
 refine h1.mono ?_
 rintro e w1 ⟨rfl,rfl⟩
 go_wp2_with fail
 go_ret
 refine⟨some ⟨w.heap.size,0,none⟩,n,n,rfl,ah.out,?_,(Zd _ _).alloc (Zb _) _⟩
 intro _
 refine⟨w.heap.size,0,rfl,by simp,fun j hj=>?_⟩
 rw[Z1,World.cell?_alloc_new,show (Fi.spl 59 [] s.data.toList).map (fun x=>Value.string ⟨x.toArray⟩)=V from HV.out]
 simp
end Go.Proofs.YtikiplbhlohmdaaGreatDoor
