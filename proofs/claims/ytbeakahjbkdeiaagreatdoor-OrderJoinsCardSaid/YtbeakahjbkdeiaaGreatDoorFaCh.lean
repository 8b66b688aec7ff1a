/- Regions that draw their order and hold calls that make memory but answer one thing: walked once, in the order of the text. -/
import Derived.Test.YtbeakahjbkdeiaaGreatDoorAl1
import Derived.Test.YtbeakahjbkdeiaaGreatDoorMdFull
import Derived.BigQuiet
import Derived.Deep.QuietTactic
import Derived.Test.YtbeakahjbkdeiaaGreatDoorMdExp
import Derived.Deep.RegionHeld3
import Derived.Test.YtbeakahjbkdeiaaGreatDoorSlt
namespace Go.Proofs.YtbeakahjbkdeiaaGreatDoor
open Go.RowKit
set_option linter.unusedSimpArgs false
set_option linter.unusedVariables false
structure Ext (w:World) where
 val:World
 below:Below w.heap.size w val
instance (w:World):Nonempty (Ext w):=⟨⟨w,Zd _ _⟩⟩
theorem Ext.cell {w:World} (x:Ext w) {b:Nat} (o:Nat) (hb:b<w.heap.size):x.val.cell? ⟨b,o,none⟩=w.cell? ⟨b,o,none⟩:=(bcell x.below).1 b o hb
theorem Ext.cells {w:World} {b o:Nat} {v:Value} (h:w.cell? ⟨b,o,none⟩=some v) (hb:b<w.heap.size):∀x:Ext w,x.val.cell? ⟨b,o,none⟩=some v:=fun x=>(x.cell o hb).trans h
theorem Ext.call {P:Program} {f:FuncId} {args:Array Value} {w:World} {v:Value} (h:∀W,Below w.heap.size w W→Calls P f args W fun e w'=>e=.returned v∧Below W.heap.size W w') (x:Ext w) :
 Calls P f args x.val fun e w''=>e=.returned v∧∃y:Ext w,w''=y.val :=
 (h x.val x.below).mono fun _ w' ⟨he,hb⟩=>⟨he,⟨w',x.below.trans (hb.mono x.below.size)⟩,rfl⟩
theorem Ext.same {P:Program} {f:FuncId} {args:Array Value} {w:World} {v:Value} (h:∀W,Below w.heap.size w W→Calls P f args W fun e w'=>e=.returned v∧W=w') (x:Ext w) :
 Calls P f args x.val fun e w''=>e=.returned v∧∃y:Ext w,w''=y.val :=
 (h x.val x.below).mono fun _ w' ⟨he,hb⟩=>⟨he,x,hb.symm⟩
theorem wp_region_ext {P:Program} {id:Nat} {Q:Exit→Act→World→Prop} {a:Act} {w:World} {l:List Oper} (hm:P.follows .mixedOrders=true) (hB:Region.lexB .any l.toArray=true)
 (h:wpQuiet P l.toArray (fun w'=>∃x:Ext w,w'=x.val) (fun a'=>∀x:Ext w,Q .normal a' x.val) l a):(Code.region id l.toArray true).wp P Q a w:=by
 refine wp_region_quiet (C:=fun w'=>∃x:Ext w,w'=x.val) hm hB ⟨⟨_,(Zd _ _).drew⟩,rfl⟩ ?_
 have:(fun a'=>∀x:Ext w,Q .normal a' x.val)=(fun a'=>∀w',(∃x:Ext w,w'=x.val)→Q .normal a' w'):=by
  funext a'
  exact propext ⟨fun h w' ⟨x,hx⟩=>by rw[hx];exact h x,fun h x=>h _ ⟨x,rfl⟩⟩
 rw[←this]
 simpa using h
section
set_option maxRecDepth 100000
set_option maxHeartbeats 2000000
theorem Md.comp_any (v:Value) (T:List Rw.Row) (S:List Int) (r:Rw.Row) (aA:Option Addr) (ac:Nat) (w:World) (ok:Md.Ok T) (h:Md.Is w v T S) (hS:C.srt S) (bb:S.length≤1000000) (hr : -2147483648≤r.1∧r.1≤2147483647) (hm:∀c∈r.2.2,-2147483648≤c∧c≤2147483647) (hl:r.2.2.length≤1000000) (hM:Sl w w.heap.size aA (r.2.2.map (Value.int .i32))) :
 Calls Tryz.prog 157 #[v,Md.rv r (aA,ac)] w fun e w'=>e=.returned (.bool (Md.comp T (C.mem S) r))∧Below w.heap.size w w':=by
 obtain⟨A,c,XA,xc,rfl,h2,hX⟩:=id h
 obtain⟨xn,ap⟩:∃k,S.length=k:=⟨_,rfl⟩
 obtain⟨n,hn⟩:∃k,T.length=k:=⟨_,rfl⟩
 rw[hn,ap]at h ⊢
 obtain⟨ml,au⟩:∃k,r.2.2.length=k:=⟨_,rfl⟩
 have a7:=Za au
 unfold Md.rv
 rw[au]at hl ⊢
 obtain⟨wa,ai⟩:∃wa,(w.alloc (.cells #[.slice A n c,.slice XA xn xc] 120)).alloc (.cells #[.int .i32 r.1,.int .i64 r.2.1,.slice aA ml ac] 103)=wa:=⟨_,rfl⟩
 have ay:Below w.heap.size w wa:=by rw[←ai];exact ((Zd _ _).alloc (Zb _) _).alloc (by simp) _
 have af:Rw.At wa w.heap.size 120 [.slice A n c,.slice XA xn xc]:=by rw[←ai];exact (Rw.At.new w 120 [.slice A n c,.slice XA xn xc]).alloc _
 have aa:Rw.At wa (w.heap.size+1) 103 [.int .i32 r.1,.int .i64 r.2.1,.slice aA ml ac]:=by
  have hh:=Rw.At.new (w.alloc (.cells #[.slice A n c,.slice XA xn xc] 120)) 103 [.int .i32 r.1,.int .i64 r.2.1,.slice aA ml ac]
  rw[ZD]at hh
  rw[←ai]
  exact hh
 have aj:w.heap.size+1<wa.heap.size:=aa.lt
 have z0:=af.cell 0 rfl
 have z1:=af.cell 1 rfl
 have y0:=aa.cell 0 rfl
 have y1:=aa.cell 1 rfl
 have y2:=aa.cell 2 rfl
 have ak:=Za ai
 have ae:=Za ay
 have bo:=Za (h.below ay)
 have HX:=Za hX
 have bm:=Za ap
 have br:=Za hS
 have bf:=Za hM
 have bl:=Za hm
 have bq:=Za ok
 have bp:=Za af
 have bk:=Za aa
 rw[ap]at bb
 obtain⟨cm,ah⟩:∃b,Md.comp T (C.mem S) r=b:=⟨_,rfl⟩
 rw[ah]
 have az:=Za ah
 clear ai ay h h2 hX ap hS hM hm hn ok af aa ah au
 unfold Md.tv
 rcases hb1:(r.2.1 == 0) with _|_
 · go_enter Tryz.func157,Tryz.ntmps157
   go_upto_region 1 with (fail)
   rw[ak.out]
   go_quiet (fail)
   go_wp2_with fail
   go_ret
   have hc:cm=false:=by
    rw[←az.out]
    unfold Md.comp
    rw[decide_eq_false (by simpa using hb1),Bool.false_and]
   exact⟨by rw[hc];rfl,below_drewN ae.out _⟩
 · rcases hb2:((ml:Int) == 2) with _|_
   · go_enter Tryz.func157,Tryz.ntmps157
     go_upto_region 1 with (fail)
     rw[ak.out]
     go_quiet (fail)
     go_wp2_with fail
     go_ret
     have hc:cm=false:=by
      rw[←az.out]
      unfold Md.comp
      have h2:¬r.2.2.length=2:=fun e=>by rw[a7.out]at e;rw[e]at hb2;simp at hb2
      rw[Zu h2,XL,Bool.and_false]
     exact⟨by rw[hc];rfl,below_drewN ae.out _⟩
   · obtain⟨x,y,ax⟩:∃x y,r.2.2=[x,y]:=by
      have h2:r.2.2.length=2:=by rw[a7.out];have:=beq_iff_eq.1 hb2;omega
      match hh:r.2.2,h2 with
      | [x,y],_=>exact⟨x,y,rfl⟩
     have av:=bf.out.below ae.out ae.out.size
     rw[ax]at av
     obtain⟨ab,ao,hA,bh,ba⟩:=av (by simp)
     have a1:wa.cell? ⟨ab,ao,none⟩=some (.int .i32 x):=by simpa using ba 0 (by simp)
     subst hA
     have a8:=bl.out x (by rw[ax];simp)
     have aw:Hid (∀W,Below wa.heap.size wa W→Calls Tryz.prog 203 #[.agg #[.slice A n c,.slice XA xn xc],.int .i32 x] W fun e w'=>e=.returned (.int .i64 (Md.cls T x))∧Below W.heap.size W w'):=Za fun W hW=>Md.class_any _ T S x W bq.out (bo.out.below hW) a8.1 a8.2
     have bc:Hid (∀W,Below wa.heap.size wa W→Calls Tryz.prog 204 #[.agg #[.slice XA xn xc],.int .i32 r.1] W fun e w'=>e=.returned (.bool (C.mem S r.1))∧Below W.heap.size W w'):=Za fun W hW=>C.has_any XA xc xn w.heap.size S r.1 W bm.out bb br.out (Zh ae.out.size hW.size) (HX.out.below (ae.out.trans (hW.mono ae.out.size)) (Zb _))
     have bi:Below wa.heap.size wa wa:=Zd _ _
     have ah:cm=(decide (Md.cls T x=0)&&!C.mem S r.1):=by
      rw[←az.out]
      unfold Md.comp
      rw[Zo (beq_iff_eq.1 hb1),ax]
      rfl
     have ag:=Za ah
     have bn:0<ml:=by have:=beq_iff_eq.1 hb2;omega
     have bg:(0:Int)<ml:=by have:=beq_iff_eq.1 hb2;omega
     obtain⟨q,hq⟩:∃q,Md.cls T x=q:=⟨_,rfl⟩
     rw[hq]at aw ag
     have C1:=Za (Ext.call aw.out)
     have C2:=Za (Ext.call bc.out)
     have f0:=Ext.cells z0 (Nat.lt_trans (ZR _) aj)
     have f1:=Ext.cells z1 (Nat.lt_trans (ZR _) aj)
     have f2:=Ext.cells y0 aj
     have f3:=Ext.cells y1 aj
     have f4:=Ext.cells y2 aj
     have f5:=Ext.cells a1 bh
     clear ah ba av hq aw bc z0 z1 y0 y1 y2 a1 bi
     rcases hb3:(q == 0) with _|_
     · have a6:decide (q=0)=false:=by simpa using hb3
       have ar:Hid (cm=false):=Za (by rw[ag.out,a6];rfl)
       clear a6
       go_enter Tryz.func157,Tryz.ntmps157
       go_upto_region 1 with (fail)
       rw[ak.out]
       refine wp_region_ext (by kernel_rfl) (by kernel_rfl) ?_
       repeat (go_big_quiet_step ((first|(go_at_call 203;with_reducible exact C1.out _)|(go_at_call 204;with_reducible exact C2.out _))))
       refine wpQuiet_nil ?_
       intro xw
       have aq:=Za (ae.out.trans (xw.below.mono ae.out.size))
       go_wp2_with fail
       go_ret
       exact⟨by rw[ar.out];rfl,aq.out⟩
     · have bj:q=0:=beq_iff_eq.1 hb3
       subst bj
       have ar:Hid (cm=!C.mem S r.1):=Za (by rw[ag.out];rfl)
       clear hb3
       go_enter Tryz.func157,Tryz.ntmps157
       go_upto_region 1 with (fail)
       rw[ak.out]
       refine wp_region_ext (by kernel_rfl) (by kernel_rfl) ?_
       repeat (go_big_quiet_step ((first|(go_at_call 203;with_reducible exact C1.out _)|(go_at_call 204;with_reducible exact C2.out _))))
       refine wpQuiet_nil ?_
       intro xw
       have aq:=Za (ae.out.trans (xw.below.mono ae.out.size))
       go_wp2_with fail
       go_ret
       exact⟨by rw[ar.out];rfl,aq.out⟩
theorem Md.prim_any (v:Value) (T:List Rw.Row) (S:List Int) (d:Int) (w:World) (ok:Md.Ok T) (h:Md.Is w v T S) (hS:C.srt S) (a6:S.length≤1000000) (h3 : -2147483648≤d) (h4:d≤2147483647) :
 Calls Tryz.prog 121 #[v,.int .i32 d] w fun e w'=>e=.returned (.bool (Md.prim T (C.mem S) d))∧Below w.heap.size w w':=by
 obtain⟨A,c,XA,xc,rfl,h2,hX⟩:=id h
 obtain⟨xn,ax⟩:∃k,S.length=k:=⟨_,rfl⟩
 obtain⟨n,hn⟩:∃k,T.length=k:=⟨_,rfl⟩
 rw[hn,ax]at h ⊢
 have ap:Below w.heap.size w (w.alloc (.cells #[.slice A n c,.slice XA xn xc] 120)):=(Zd _ _).alloc (Zb _) _
 have aj:Rw.At (w.alloc (.cells #[.slice A n c,.slice XA xn xc] 120)) w.heap.size 120 [.slice A n c,.slice XA xn xc]:=Rw.At.new w 120 [.slice A n c,.slice XA xn xc]
 have HF:=Za (Md.find_is d ok (h.below ap) h3 h4)
 have HP:=Za (Hg.pair_any d (w.alloc (.cells #[.slice A n c,.slice XA xn xc] 120)) h3 h4)
 have aa:Hid (∀(r:Rw.Row) (a:Option Addr × Nat) (W:World),Md.find T d=some r→Below w.heap.size w W→Sl W W.heap.size a.1 (r.2.2.map (Value.int .i32)) →
  Calls Tryz.prog 157 #[.agg #[.slice A n c,.slice XA xn xc],Md.rv r a] W fun e w'=>e=.returned (.bool (Md.comp T (C.mem S) r))∧Below W.heap.size W w'):=Za fun r a W hr hW ak=>by
  have hm:=(Md.find_some hr).1
  have hb:=ok.2.2.1 r hm
  exact Md.comp_any _ T S r a.1 a.2 W ok (h.below hW) hS (by omega) hb.1 hb.2 (ok.2.2.2 r hm) ak
 have z0:=aj.cell 0 rfl
 have z1:=aj.cell 1 rfl
 have HB:=Za ap
 have ay:=Za aj
 rcases hpk:Hg.pairK d with ⟨x,y,is⟩
 have hp:=HP.out
 rw[hpk]at hp
 have ar:=Za hpk
 obtain⟨o,ho⟩:∃o,Md.prim T (C.mem S) d=o:=⟨_,rfl⟩
 rw[ho]
 have HO:=Za ho
 clear h h2 hX ax hn ap aj hpk HP ho hS ok
 unfold Md.tv at HF ⊢
 cases is
 · go_enter Tryz.func121,Tryz.ntmps121
   go_wp2_with fail
   refine hp.mono ?_
   rintro e w0 ⟨rfl,rfl⟩
   go_wp2_with fail
   refine HF.out.mono ?_
   rintro e w1 ⟨a,rfl,ak,aq⟩
   have ag:=Za (HB.out.trans (aq.mono HB.out.size))
   have ae:=ay.out.below aq
   have a1:=Za ae
   have k0:=ae.cell 0 rfl
   have k1:=ae.cell 1 rfl
   have a7:=ae.lt
   have ao:=Za ak
   clear aq ak z0 z1 hp ae HF
   rcases hfi:Md.find T d with _|r
   · have hro:Md.rowOf T d=(0,0,[]):=by unfold Md.rowOf;rw[hfi];rfl
     have af:o=false:=by
      rw[←HO.out]
      unfold Md.prim
      rw[ar.out,hfi]
      rfl
     have ah:=Za af
     rw[hro]
     clear hro hfi af
     unfold Md.rv
     go_wp2_with fail
     go_ret
     exact⟨by rw[ah.out];rfl,ag.out.alloc ag.out.size _⟩
   · have hro:Md.rowOf T d=r:=by unfold Md.rowOf;rw[hfi];rfl
     rw[hro]at ao
     have af:o=Md.comp T (C.mem S) r:=by
      rw[←HO.out]
      unfold Md.prim
      rw[ar.out,hfi]
      rfl
     have ah:=Za af
     have ai:Below w1.heap.size w1 (w1.alloc (.cells #[.int .i32 r.1,.int .i64 r.2.1,.slice a.1 r.2.2.length a.2] 103)):=(Zd _ _).alloc (Zb _) _
     have HC:=Za (aa.out r a _ hfi (ag.out.trans (ai.mono ag.out.size)) (ao.out.below ai ai.size))
     have au:=Za (ag.out.trans (ai.mono ag.out.size))
     rw[hro]
     obtain⟨cr,aw⟩:∃b,Md.comp T (C.mem S) r=b:=⟨_,rfl⟩
     rw[aw]at HC ah
     clear hro hfi af ai aw ao aa
     unfold Md.rv at HC ⊢
     go_wp2_with fail
     refine HC.out.mono ?_
     rintro e wk ⟨rfl,av⟩
     have az:=Za (au.out.trans (av.mono au.out.size))
     clear av
     go_wp2_with fail
     go_ret
     exact⟨by rw[ah.out];rfl,az.out⟩
 · have af:o=true:=by
    rw[←HO.out]
    unfold Md.prim
    rw[ar.out]
    rfl
   have ah:=Za af
   clear af HF aa
   go_enter Tryz.func121,Tryz.ntmps121
   go_wp2_with fail
   refine hp.mono ?_
   rintro e w0 ⟨rfl,rfl⟩
   go_wp2_with fail
   go_ret
   exact⟨by rw[ah.out];rfl,HB.out⟩
end
theorem C.utfis_any (c:Int) (w:World):Calls Tryz.prog 105 #[.int .i32 c] w fun e w'=>e=.returned (.bool (C.isC c))∧w=w':=by
 have e:C.isC c=(decide (0≤c)&&decide (c≤1114111)&&(decide (c<55296)||decide (57343<c))):=by
  unfold C.isC
  rw[YK]
  simp
  omega
 rw[e]
 clear e
 by_cases h1:0≤c <;> by_cases h2:c≤1114111 <;> by_cases h3:c<55296 <;> by_cases h4:57343<c
 all_goals
  first
   | (exfalso;omega)
   | (go_enter Tryz.func105,Tryz.ntmps105
      go_wp2
      go_ret
      exact⟨by simp[h1,h2,h3,h4],rfl⟩)
def Md.note:Nat→ByteArray
 | 0=>⟨#[]⟩
 | 1=>⟨#[114,111,119]⟩
 | 2=>⟨#[104,97,110,103,117,108]⟩
 | 3=>⟨#[116,97,114,103,101,116]⟩
 | 4=>⟨#[102,117,108,108]⟩
 | _=>⟨#[112,97,105,114]⟩
def Md.tk (r:Rw.Row) (k:Nat):Bool:=(r.1::r.2.2.take k).any fun c=>decide (Hg.ofK c≠0)
def Md.st (r:Rw.Row) (k:Nat):Bool:=(r.2.2.take k).any fun c=>!C.isC c
theorem Md.tk_zero (r:Rw.Row):Md.tk r 0=decide (Hg.ofK r.1≠0):=by simp[Md.tk]
theorem Md.tk_succ {r:Rw.Row} {k:Nat} {x:Int} (h:r.2.2[k]?=some x):Md.tk r (k+1)=(Md.tk r k||decide (Hg.ofK x≠0)):=by
 unfold Md.tk
 rw[Zr,h,←ZP,List.any_append]
 simp
theorem Md.st_succ {r:Rw.Row} {k:Nat} {x:Int} (h:r.2.2[k]?=some x):Md.st r (k+1)=(Md.st r k||!C.isC x):=by
 unfold Md.st
 rw[Zr,h,List.any_append]
 simp
theorem Md.bad_of (last:Int) (r:Rw.Row):Md.bad last r=if (!C.isC r.1||decide (r.1≤last)||decide (r.2.1<0)||decide (254<r.2.1)||decide (2<r.2.2.length))=true then 1
 else if Md.tk r r.2.2.length=true then 2 else if Md.st r r.2.2.length=true then 3 else 0:=by
 unfold Md.bad Md.tk Md.st
 rw[List.take_length]
set_option maxRecDepth 100000 in
set_option maxHeartbeats 2000000 in
theorem Md.row_any (r:Rw.Row) (aA:Option Addr) (ac:Nat) (last:Int) (w:World) (hr : -2147483648≤r.1∧r.1≤2147483647) (bk : -2147483648≤last∧last≤2147483647) (hm:∀c∈r.2.2,-2147483648≤c∧c≤2147483647) (hl:r.2.2.length≤1000000) (hM:Sl w w.heap.size aA (r.2.2.map (Value.int .i32))) :
 Calls Tryz.prog 154 #[Md.rv r (aA,ac),.int .i32 last] w fun e w'=>e=.returned (.string (Md.note (Md.bad last r)))∧Below w.heap.size w w':=by
 rw[Md.bad_of]
 obtain⟨ml,aq⟩:∃k,r.2.2.length=k:=⟨_,rfl⟩
 have ag:=Md.tk_zero r
 obtain⟨bm,h0⟩:∃b,Md.tk r 0=b:=⟨_,rfl⟩
 unfold Md.rv
 rw[aq]at hl ⊢
 have ap:=Za aq
 obtain⟨res,ae⟩:∃n,(if (!C.isC r.1||decide (r.1≤last)||decide (r.2.1<0)||decide (254<r.2.1)||decide (2<ml))=true then 1 else if Md.tk r ml=true then 2 else if Md.st r ml=true then 3 else 0)=n:=⟨_,rfl⟩
 rw[ae]
 have aa:=Za ae
 clear ae
 have aj:Below w.heap.size w (w.alloc (.cells #[.int .i32 r.1,.int .i64 r.2.1,.slice aA ml ac] 103)):=(Zd _ _).alloc (Zb _) _
 have ai:Rw.At (w.alloc (.cells #[.int .i32 r.1,.int .i64 r.2.1,.slice aA ml ac] 103)) w.heap.size 103 [.int .i32 r.1,.int .i64 r.2.1,.slice aA ml ac]:=Rw.At.new w 103 [.int .i32 r.1,.int .i64 r.2.1,.slice aA ml ac]
 have bl:=Za ai
 have HB:=Za aj
 have az:=hM.below aj aj.size
 have HS:=Za az
 have bc:=Za hm
 have bg:=Za ag
 obtain⟨c0,c1,c2,_,_,_⟩:=ai.three
 obtain⟨wa,ar⟩:∃wa,w.alloc (.cells #[.int .i32 r.1,.int .i64 r.2.1,.slice aA ml ac] 103)=wa:=⟨_,rfl⟩
 have a1:=Hg.of_any r.1 wa hr.1 hr.2
 have hU:=C.utfis_any r.1 wa
 rw[ar]at c0 c1 c2 ai
 have bj:=ai.lt
 have ak:=Za ar
 have ba:=hr.1
 have bi:=hr.2
 obtain⟨bh,ah⟩:∃k,Hg.ofK r.1=k:=⟨_,rfl⟩
 rw[ah]at a1
 have ay:Md.tk r 0=!(bh == 0):=by
  rw[ag,ah,YK]
  simp
 have bf:=Za ay
 clear aq ag ai aj az hM hm h0 hr ar ah ay
 go_enter Tryz.func154,Tryz.ntmps154
 go_upto_region 1 with (fail)
 rw[ak.out]
 go_wp2_with fail
 refine a1.mono ?_
 rintro e w0 ⟨rfl,rfl⟩
 go_wp2_with fail
 go_loop [5,6,16] (fun v5 v6 i=>∃k:Nat,k≤ml∧i=.int .i64 k∧v5=.bool (Md.tk r k)∧v6=.bool (Md.st r k)) (fun _ _ i=>ml-(intOf i).toNat)
 case atStart=>exact⟨0,Zz _,rfl,by rw[bf.out];rfl,rfl⟩
 case round =>
  obtain⟨k,hk,rfl,rfl,rfl⟩:=hrel
  by_cases hlt':k<ml
  · obtain⟨x,hx⟩:∃x,r.2.2[k]?=some x:=⟨_,Zc (by rw[ap.out];exact hlt')⟩
    have aw:=bc.out x (Zk hx)
    obtain⟨ab,ao,hA,a8,ax⟩:=HS.out (by rw[Zf,ap.out];omega)
    have hc:=ax k (by rw[Zf,ap.out];exact hlt')
    rw[Zl,hx,Zn,ak.out]at hc
    rw[ak.out]at a8
    have h1:=Md.tk_succ hx
    have h2:=Md.st_succ hx
    have hO:=Hg.of_any x wa aw.1 aw.2
    have hI:=C.utfis_any x wa
    obtain⟨ox,av⟩:∃k,Hg.ofK x=k:=⟨_,rfl⟩
    obtain⟨ix,a7⟩:∃k,C.isC x=k:=⟨_,rfl⟩
    obtain⟨t,ht⟩:∃b,Md.tk r k=b:=⟨_,rfl⟩
    obtain⟨s,hs⟩:∃b,Md.st r k=b:=⟨_,rfl⟩
    rw[av]at hO h1
    rw[a7]at hI h2
    rw[ht]at h1 ⊢
    rw[hs]at h2 ⊢
    have hd:decide (ox≠0)=!(ox == 0):=by rw[YK];simp
    rw[hd]at h1
    have H1:=Za h1
    have H2:=Za h2
    subst hA
    clear hx ax av a7 ht hs h1 h2 hd
    have bb:(k:Int)<ml:=by omega
    cases t <;> cases s
    all_goals
     go_wp2_with (first|(go_at_call 81;refine hO.mono ?_;rintro e w' ⟨rfl,rfl⟩)|(go_at_call 105;refine hI.mono ?_;rintro e w' ⟨rfl,rfl⟩)|fail)
     go_round
     case rel=>exact⟨k+1,by omega,by go_num,by rw[H1.out];rfl,by rw[H2.out];rfl⟩
     case measure=>simp[intOf];omega
  · obtain rfl:k=ml:=by omega
    have a6:Below w.heap.size w wa:=by rw[←ak.out];exact HB.out
    have af:=Za a6
    obtain⟨t,ht⟩:∃b,Md.tk r k=b:=⟨_,rfl⟩
    obtain⟨s,hs⟩:∃b,Md.st r k=b:=⟨_,rfl⟩
    obtain⟨ic,au⟩:∃b,C.isC r.1=b:=⟨_,rfl⟩
    rw[ht,hs]
    rw[au]at hU
    have ae:=aa.out
    rw[ht,hs,au]at ae
    clear aa
    have aa:=Za ae
    clear a6 ht hs au ae
    cases ic
    · have he:1=res:=aa.out
      subst he
      go_wp2_with (first|(go_at_call 105;refine hU.mono ?_;rintro e w' ⟨rfl,rfl⟩)|fail)
      go_ret
      exact⟨rfl,af.out⟩
    · rcases hb2:decide (r.1≤last) with _|_
      · rcases hb3:decide (r.2.1<0) with _|_
        · rcases hb4:decide (254<r.2.1) with _|_
          · rcases hb5:decide (2<(k:Int)) with _|_
            · have h5:decide (2<k)=false:=by simp at hb5 ⊢;omega
              cases t
              · cases s
                · have he:0=res:=by rw[←aa.out,hb2,hb3,hb4,h5];rfl
                  subst he
                  clear h5
                  go_wp2_with (first|(go_at_call 105;refine hU.mono ?_;rintro e w' ⟨rfl,rfl⟩)|fail)
                  go_ret
                  exact⟨rfl,af.out⟩
                · have he:3=res:=by rw[←aa.out,hb2,hb3,hb4,h5];rfl
                  subst he
                  clear h5
                  go_wp2_with (first|(go_at_call 105;refine hU.mono ?_;rintro e w' ⟨rfl,rfl⟩)|fail)
                  go_ret
                  exact⟨rfl,af.out⟩
              · have he:2=res:=by rw[←aa.out,hb2,hb3,hb4,h5];rfl
                subst he
                clear h5
                go_wp2_with (first|(go_at_call 105;refine hU.mono ?_;rintro e w' ⟨rfl,rfl⟩)|fail)
                go_ret
                exact⟨rfl,af.out⟩
            · have h5:decide (2<k)=true:=by simp at hb5 ⊢;omega
              have he:1=res:=by rw[←aa.out,hb2,hb3,hb4,h5];rfl
              subst he
              clear h5
              go_wp2_with (first|(go_at_call 105;refine hU.mono ?_;rintro e w' ⟨rfl,rfl⟩)|fail)
              go_ret
              exact⟨rfl,af.out⟩
          · have he:1=res:=by rw[←aa.out,hb2,hb3,hb4];rfl
            subst he
            go_wp2_with (first|(go_at_call 105;refine hU.mono ?_;rintro e w' ⟨rfl,rfl⟩)|fail)
            go_ret
            exact⟨rfl,af.out⟩
        · have he:1=res:=by rw[←aa.out,hb2,hb3];rfl
          subst he
          go_wp2_with (first|(go_at_call 105;refine hU.mono ?_;rintro e w' ⟨rfl,rfl⟩)|fail)
          go_ret
          exact⟨rfl,af.out⟩
      · have he:1=res:=by rw[←aa.out,hb2];rfl
        subst he
        go_wp2_with (first|(go_at_call 105;refine hU.mono ?_;rintro e w' ⟨rfl,rfl⟩)|fail)
        go_ret
        exact⟨rfl,af.out⟩
end Go.Proofs.YtbeakahjbkdeiaaGreatDoor
namespace Go.Proofs.YtbeakahjbkdeiaaGreatDoor
open Go.RowKit Go.Stop
set_option linter.unusedSimpArgs false
set_option linter.unusedVariables false
def F.Ch (w:World) (B:Nat):List (Nat × Int × Int × ByteArray)→Value→Prop
 | [],v=>v=.nilIface
 | (b,c,n,s)::t,v=>v=.iface 160 (.pointer (some ⟨b,0,none⟩))∧b<B∧∃e,w.heap[b]?=some (.cells #[.int .i64 c,.int .i64 n,.string s,e] 162 (0,0))∧F.Ch w B t e
def F.lk (q:List (Nat × Int × Int × ByteArray)):List (Int × Int × ByteArray):=q.map (·.2)
def F.RetCh (l:List (Int × Int × ByteArray)) (w:World) (e:Ending) (w':World):Prop :=
 ∃q v,e=.returned v∧F.lk q=l∧F.Ch w' w'.heap.size q v∧Below w.heap.size w w'
set_option maxRecDepth 100000 in
set_option maxHeartbeats 1000000 in
theorem F.at_any (c n:Int) (s:ByteArray) (w:World) :
 Calls Tryz.prog 64 #[.int .i64 c,.int .i64 n,.string s] w (F.RetCh (if c=0 then [] else [(c,n,s)]) w):=by
 by_cases hc:c=0
 · rw[Zv hc]
   subst hc
   go_enter Tryz.func64,Tryz.ntmps64
   go_wp2
   go_ret
   exact⟨[],.nilIface,rfl,rfl,rfl,Zd _ _⟩
 · rw[Zs hc]
   go_enter Tryz.func64,Tryz.ntmps64
   go_wp2
   go_ret
   have hn:=ZT w (.cells #[.int .i64 c,.int .i64 n,.string s,.nilIface] 162)
   have hs:w.heap.size<(w.alloc (.cells #[.int .i64 c,.int .i64 n,.string s,.nilIface] 162)).heap.size:=by simp
   have aa:Below w.heap.size w (w.alloc (.cells #[.int .i64 c,.int .i64 n,.string s,.nilIface] 162)):=(Zd _ _).alloc (Zb _) _
   exact⟨[(w.heap.size,c,n,s)],_,rfl,rfl,⟨rfl,hs,.nilIface,hn,rfl⟩,aa⟩
theorem F.of_any (c:Int) (w:World) :
 Calls Tryz.prog 59 #[.int .i64 c] w (F.RetCh (if c=0 then [] else [(c,0,⟨#[]⟩)]) w):=by
 have HA:=Za (F.at_any c 0 ⟨#[]⟩ w)
 obtain⟨l,aa⟩:∃l,(if c=0 then [] else [(c,(0:Int),(⟨#[]⟩:ByteArray))])=l:=⟨_,rfl⟩
 rw[aa]at HA ⊢
 clear aa
 go_enter Tryz.func59,Tryz.ntmps59
 go_wp2_with fail
 refine HA.out.mono ?_
 rintro e w1 ⟨q,v,rfl,hl,hq,hb⟩
 go_wp2
 go_ret
 exact⟨q,v,rfl,hl,hq,hb⟩
end Go.Proofs.YtbeakahjbkdeiaaGreatDoor
