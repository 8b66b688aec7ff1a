/- Regions that draw their order and hold calls that make memory but answer one thing: walked once, in the order of the text. -/
import Derived.Test.YtjakbblocbicjaaGreatDoorMdExp
set_option maxRecDepth 100000
set_option maxHeartbeats 2000000
set_option linter.unusedVariables false
set_option linter.unusedSimpArgs false
namespace Go.Proofs.YtjakbblocbicjaaGreatDoor
open Go.Proofs.Tryz
section
open Go.RowKit
structure Ext (w:World) where
 val:World
 below:Below w.heap.size w val
instance (w:World):Nonempty (Ext w):=⟨⟨w,Zc _ _⟩⟩
theorem Ext.cell {w:World} (x:Ext w) {b:Nat} (o:Nat) (hb:b<w.heap.size):x.val.cell? ⟨b,o,none⟩=w.cell? ⟨b,o,none⟩:=(zAQ x.below).1 b o hb
theorem Ext.cells {w:World} {b o:Nat} {v:Value} (h:w.cell? ⟨b,o,none⟩=some v) (hb:b<w.heap.size):∀x:Ext w,x.val.cell? ⟨b,o,none⟩=some v:=fun x=>(x.cell o hb).trans h
theorem Ext.call {P:Program} {f:FuncId} {args:Array Value} {w:World} {v:Value} (h:∀W,Below w.heap.size w W→Calls P f args W fun e w'=>e=.returned v∧Below W.heap.size W w') (x:Ext w) :
 Calls P f args x.val fun e w''=>e=.returned v∧∃y:Ext w,w''=y.val :=
 (h x.val x.below).mono fun _ w' ⟨he,hb⟩=>⟨he,⟨w',x.below.trans (hb.mono x.below.size)⟩,rfl⟩
theorem Ext.same {P:Program} {f:FuncId} {args:Array Value} {w:World} {v:Value} (h:∀W,Below w.heap.size w W→Calls P f args W fun e w'=>e=.returned v∧W=w') (x:Ext w) :
 Calls P f args x.val fun e w''=>e=.returned v∧∃y:Ext w,w''=y.val :=
 (h x.val x.below).mono fun _ w' ⟨he,hb⟩=>⟨he,x,hb.symm⟩
theorem zA7 {P:Program} {id:Nat} {Q:Exit→Act→World→Prop} {a:Act} {w:World} {l:List Oper} (hm:P.follows .mixedOrders=true) (hB:Region.lexB .any l.toArray=true)
 (h:wpQuiet P l.toArray (fun w'=>∃x:Ext w,w'=x.val) (fun a'=>∀x:Ext w,Q .normal a' x.val) l a):(Code.region id l.toArray true).wp P Q a w:=by
 refine wp_region_quiet (C:=fun w'=>∃x:Ext w,w'=x.val) hm hB ⟨⟨_,(Zc _ _).drew⟩,rfl⟩ ?_
 have:(fun a'=>∀x:Ext w,Q .normal a' x.val)=(fun a'=>∀w',(∃x:Ext w,w'=x.val)→Q .normal a' w'):=by
  funext a'
  exact propext ⟨fun h w' ⟨x,hx⟩=>by rw[hx];exact h x,fun h x=>h _ ⟨x,rfl⟩⟩
 rw[←this];simpa using h
theorem zIz (v:Value) (T:List Rw.Row) (S:List Int) (r:Rw.Row) (aA:Option Addr) (ac:Nat) (w:World) (ok:Md.Ok T) (h:Md.Is w v T S) (hS:C.srt S) (az:S.length≤1000000) (hr : -2147483648≤r.1∧r.1≤2147483647) (hm:∀c∈r.2.2,-2147483648≤c∧c≤2147483647) (hl:r.2.2.length≤1000000) (hM:Sl w w.heap.size aA (r.2.2.map (Value.int .i32))) :
 Calls prog 159 #[v,zHU r (aA,ac)] w fun e w'=>e=.returned (.bool (zAc T (C.mem S) r))∧Below w.heap.size w w':=by
 obtain⟨A,c,XA,xc,rfl,h2,hX⟩:=id h;obtain⟨xn,hxn⟩:∃k,S.length=k:=⟨_,rfl⟩;obtain⟨n,hn⟩:∃k,T.length=k:=⟨_,rfl⟩;rw[hn,hxn]at h ⊢;obtain⟨ml,ay⟩:∃k,r.2.2.length=k:=⟨_,rfl⟩;have a8:=hy' ay;unfold zHU;rw[ay]at hl ⊢;obtain⟨wa,ai⟩:∃wa,(w.alloc (.cells #[.slice A n c,.slice XA xn xc] 87)).alloc (.cells #[.int .i32 r.1,.int .i64 r.2.1,.slice aA ml ac] 155)=wa:=⟨_,rfl⟩;have aq:Below w.heap.size w wa:=by rw[←ai];exact ((Zc _ _).alloc (Za _) _).alloc (by simp) _
 have af:Rw.At wa w.heap.size 87 [.slice A n c,.slice XA xn xc]:=by rw[←ai];exact (Rw.At.new w 87 [.slice A n c,.slice XA xn xc]).alloc _
 have aa:Rw.At wa (w.heap.size+1) 155 [.int .i32 r.1,.int .i64 r.2.1,.slice aA ml ac]:=by
  have hh:=Rw.At.new (w.alloc (.cells #[.slice A n c,.slice XA xn xc] 87)) 155 [.int .i32 r.1,.int .i64 r.2.1,.slice aA ml ac];rw[ZJ]at hh;rw[←ai];exact hh
 have aj:w.heap.size+1<wa.heap.size:=aa.lt;have z0:=af.cell 0 rfl;have z1:=af.cell 1 rfl;have y0:=aa.cell 0 rfl;have y1:=aa.cell 1 rfl;have y2:=aa.cell 2 rfl;have ak:=hy' ai;have ae:=hy' aq;have bh:=hy' (h.below aq);have HX:=hy' hX;have bn:=hy' hxn;have bp:=hy' hS;have bg:=hy' hM;have bk:=hy' hm;have bf:=hy' ok;have bo:=hy' af;have bi:=hy' aa;rw[hxn]at az;obtain⟨cm,ah⟩:∃b,zAc T (C.mem S) r=b:=⟨_,rfl⟩;rw[ah];have av:=hy' ah;clear ai aq h h2 hX hxn hS hM hm hn ok af aa ah ay;unfold zAX;rcases hb1:(r.2.1 == 0) with _|_
 · go_enter func159,ntmps159;go_upto_region 1 with (fail)
   rw[ak.o];go_quiet (fail);go_wp2_with fail;go_ret
   have hc:cm=false:=by
    rw[←av.o];unfold zAc;rw[decide_eq_false (by simpa using hb1),Bool.false_and]
   exact⟨by rw[hc];rfl,below_drewN ae.o _⟩
 rcases hb2:((ml:Int) == 2) with _|_
 · go_enter func159,ntmps159;go_upto_region 1 with (fail)
   rw[ak.o];go_quiet (fail);go_wp2_with fail;go_ret
   have hc:cm=false:=by
    rw[←av.o];unfold zAc;have h2:¬r.2.2.length=2:=fun e=>by rw[a8.o]at e;rw[e]at hb2;simp at hb2
    rw[Zq h2,Y8,Kh]
   exact⟨by rw[hc];rfl,below_drewN ae.o _⟩
 obtain⟨x,y,aw⟩:∃x y,r.2.2=[x,y]:=by
  have h2:r.2.2.length=2:=by rw[a8.o];have:=beq_iff_eq.1 hb2;omega
  match hh:r.2.2,h2 with
  | [x,y],_=>exact⟨x,y,rfl⟩
 have ax:=bg.o.below ae.o ae.o.size;rw[aw]at ax;obtain⟨ab,ao,hA,bm,ba⟩:=ax (by simp);have a1:wa.cell? ⟨ab,ao,none⟩=some (.int .i32 x):=by simpa using ba 0 (by simp)
 subst hA;have hxb:=bk.o x (by rw[aw];simp);have ap:Hy (∀W,Below wa.heap.size wa W→Calls prog 191 #[.agg #[.slice A n c,.slice XA xn xc],.int .i32 x] W fun e w'=>e=.returned (.int .i64 (Md.cls T x))∧Below W.heap.size W w'):=hy' fun W hW=>Md.class_any _ T S x W bf.o (bh.o.below hW) hxb.1 hxb.2
 have a7:Hy (∀W,Below wa.heap.size wa W→Calls prog 55 #[.agg #[.slice XA xn xc],.int .i32 r.1] W fun e w'=>e=.returned (.bool (C.mem S r.1))∧Below W.heap.size W w'):=hy' fun W hW=>zIw XA xc xn w.heap.size S r.1 W bn.o az bp.o (Zh ae.o.size hW.size) (HX.o.below (ae.o.trans (hW.mono ae.o.size)) (Za _))
 have bb:Below wa.heap.size wa wa:=Zc _ _
 have ah:cm=(decide (Md.cls T x=0)&&!C.mem S r.1):=by
  rw[←av.o];unfold zAc;rw[Zp (beq_iff_eq.1 hb1),aw];rfl
 have ag:=hy' ah;have bj:0<ml:=by have:=beq_iff_eq.1 hb2;omega
 have bl:(0:Int)<ml:=by have:=beq_iff_eq.1 hb2;omega
 obtain⟨q,hq⟩:∃q,Md.cls T x=q:=⟨_,rfl⟩;rw[hq]at ap ag;have C1:=hy' (Ext.call ap.o);have C2:=hy' (Ext.call a7.o);have f0:=Ext.cells z0 (Nat.lt_trans (ZO _) aj);have f1:=Ext.cells z1 (Nat.lt_trans (ZO _) aj);have f2:=Ext.cells y0 aj;have f3:=Ext.cells y1 aj;have f4:=Ext.cells y2 aj;have f5:=Ext.cells a1 bm;clear ah ba ax hq ap a7 z0 z1 y0 y1 y2 a1 bb;rcases hb3:(q == 0) with _|_
 · have a6:decide (q=0)=false:=by simpa using hb3
   have au:Hy (cm=false):=hy' (by rw[ag.o,a6];rfl);clear a6;go_enter func159,ntmps159;go_upto_region 1 with (fail)
   rw[ak.o];refine zA7 (by kernel_rfl) (by kernel_rfl) ?_
   repeat (go_big_quiet_step ((first|(go_at_call 191;with_reducible exact C1.o _)|(go_at_call 55;with_reducible exact C2.o _))))
   refine wpQuiet_nil ?_;intro xw;have ar:=hy' (ae.o.trans (xw.below.mono ae.o.size));go_wp2_with fail;go_ret;exact⟨by rw[au.o];rfl,ar.o⟩
 have bc:q=0:=beq_iff_eq.1 hb3;subst bc;have au:Hy (cm=!C.mem S r.1):=hy' (by rw[ag.o];rfl);clear hb3;go_enter func159,ntmps159;go_upto_region 1 with (fail)
 rw[ak.o];refine zA7 (by kernel_rfl) (by kernel_rfl) ?_
 repeat (go_big_quiet_step ((first|(go_at_call 191;with_reducible exact C1.o _)|(go_at_call 55;with_reducible exact C2.o _))))
 refine wpQuiet_nil ?_;intro xw;have ar:=hy' (ae.o.trans (xw.below.mono ae.o.size));go_wp2_with fail;go_ret;exact⟨by rw[au.o];rfl,ar.o⟩
theorem zNk (v:Value) (T:List Rw.Row) (S:List Int) (d:Int) (w:World) (ok:Md.Ok T) (h:Md.Is w v T S) (hS:C.srt S) (a1:S.length≤1000000) (h3 : -2147483648≤d) (h4:d≤2147483647) :
 Calls prog 130 #[v,.int .i32 d] w fun e w'=>e=.returned (.bool (zAo T (C.mem S) d))∧Below w.heap.size w w':=by
 obtain⟨A,c,XA,xc,rfl,h2,hX⟩:=id h;obtain⟨xn,hxn⟩:∃k,S.length=k:=⟨_,rfl⟩;obtain⟨n,hn⟩:∃k,T.length=k:=⟨_,rfl⟩;rw[hn,hxn]at h ⊢;have aq:Below w.heap.size w (w.alloc (.cells #[.slice A n c,.slice XA xn xc] 87)):=(Zc _ _).alloc (Za _) _;have aj:Rw.At (w.alloc (.cells #[.slice A n c,.slice XA xn xc] 87)) w.heap.size 87 [.slice A n c,.slice XA xn xc]:=Rw.At.new w 87 [.slice A n c,.slice XA xn xc];have HF:=hy' (zGR d ok (h.below aq) h3 h4);have HP:=hy' (zBX d (w.alloc (.cells #[.slice A n c,.slice XA xn xc] 87)) h3 h4)
 have aa:Hy (∀(r:Rw.Row) (a:Option Addr × Nat) (W:World),Md.find T d=some r→Below w.heap.size w W→Sl W W.heap.size a.1 (r.2.2.map (Value.int .i32)) →
  Calls prog 159 #[.agg #[.slice A n c,.slice XA xn xc],zHU r a] W fun e w'=>e=.returned (.bool (zAc T (C.mem S) r))∧Below W.heap.size W w'):=hy' fun r a W hr hW ak=>by
  have hm:=(zAq hr).1;have hb:=ok.2.2.1 r hm;exact zIz _ T S r a.1 a.2 W ok (h.below hW) hS (by omega) hb.1 hb.2 (ok.2.2.2 r hm) ak
 have z0:=aj.cell 0 rfl;have z1:=aj.cell 1 rfl;have HB:=hy' aq;have ay:=hy' aj;rcases hpk:zAh d with ⟨x,y,is⟩
 have hp:=HP.o;rw[hpk]at hp;have ar:=hy' hpk;obtain⟨o,ho⟩:∃o,zAo T (C.mem S) d=o:=⟨_,rfl⟩;rw[ho];have HO:=hy' ho;clear h h2 hX hxn hn aq aj hpk HP ho hS ok;unfold zAX at HF ⊢;cases is
 rotate_left
 · have af:o=true:=by
    rw[←HO.o];unfold zAo;rw[ar.o];rfl
   have ah:=hy' af;clear af HF aa;go_enter func130,ntmps130;go_wp2_with fail;refine hp.mono ?_;rintro e w0 ⟨rfl,rfl⟩;go_wp2_with fail;go_ret;exact⟨by rw[ah.o];rfl,HB.o⟩
 go_enter func130,ntmps130;go_wp2_with fail;refine hp.mono ?_;rintro e w0 ⟨rfl,rfl⟩;go_wp2_with fail;refine HF.o.mono ?_;rintro e w1 ⟨a,rfl,ak,ap⟩;have ag:=hy' (HB.o.trans (ap.mono HB.o.size));have ae:=ay.o.below ap;have ax:=hy' ae;have k0:=ae.cell 0 rfl;have k1:=ae.cell 1 rfl;have a6:=ae.lt;have ao:=hy' ak;clear ap ak z0 z1 hp ae HF;rcases hfi:Md.find T d with _|r
 · have hro:Md.rowOf T d=(0,0,[]):=by unfold Md.rowOf;rw[hfi];rfl
   have af:o=false:=by
    rw[←HO.o];unfold zAo;rw[ar.o,hfi];rfl
   have ah:=hy' af;rw[hro];clear hro hfi af;unfold zHU;go_wp2_with fail;go_ret;exact⟨by rw[ah.o];rfl,ag.o.alloc ag.o.size _⟩
 have hro:Md.rowOf T d=r:=by unfold Md.rowOf;rw[hfi];rfl
 rw[hro]at ao
 have af:o=zAc T (C.mem S) r:=by
  rw[←HO.o];unfold zAo;rw[ar.o,hfi];rfl
 have ah:=hy' af;have ai:Below w1.heap.size w1 (w1.alloc (.cells #[.int .i32 r.1,.int .i64 r.2.1,.slice a.1 r.2.2.length a.2] 155)):=(Zc _ _).alloc (Za _) _;have HC:=hy' (aa.o r a _ hfi (ag.o.trans (ai.mono ag.o.size)) (ao.o.below ai ai.size));have av:=hy' (ag.o.trans (ai.mono ag.o.size));rw[hro];obtain⟨cr,au⟩:∃b,zAc T (C.mem S) r=b:=⟨_,rfl⟩;rw[au]at HC ah;clear hro hfi af ai au ao aa;unfold zHU at HC ⊢;go_wp2_with fail;refine HC.o.mono ?_;rintro e wk ⟨rfl,aw⟩;have az:=hy' (av.o.trans (aw.mono av.o.size));clear aw;go_wp2_with fail;go_ret;exact⟨by rw[ah.o];rfl,az.o⟩
theorem zBd (c:Int) (w:World):Calls prog 50 #[.int .i32 c] w fun e w'=>e=.returned (.bool (C.isC c))∧w=w':=by
 have e:C.isC c=(decide (0≤c)&&decide (c≤1114111)&&(decide (c<55296)||decide (57343<c))):=by
  unfold C.isC;rw[Yf];simp;omega
 rw[e];clear e
 by_cases h1:0≤c <;> by_cases h2:c≤1114111 <;> by_cases h3:c<55296 <;> by_cases h4:57343<c
 all_goals
  first
   | (exfalso;omega)
   | (go_enter func50,ntmps50
      go_wp2;go_ret;exact⟨by simp[h1,h2,h3,h4],rfl⟩)
def zBe:Nat→ByteArray
 | 0=>⟨#[]⟩
 | 1=>⟨#[114,111,119]⟩
 | 2=>⟨#[104,97,110,103,117,108]⟩
 | 3=>⟨#[116,97,114,103,101,116]⟩
 | 4=>⟨#[102,117,108,108]⟩
 | _=>⟨#[112,97,105,114]⟩
def zGV (r:Rw.Row) (k:Nat):Bool:=(r.1::r.2.2.take k).any fun c=>decide (zA2 c≠0)
def Md.st (r:Rw.Row) (k:Nat):Bool:=(r.2.2.take k).any fun c=>!C.isC c
theorem zPa (r:Rw.Row):zGV r 0=decide (zA2 r.1≠0):=by simp[zGV]
theorem zPb {r:Rw.Row} {k:Nat} {x:Int} (h:r.2.2[k]?=some x):zGV r (k+1)=(zGV r k||decide (zA2 x≠0)):=by
 unfold zGV;rw[ZA,h,←Zx,Qz];simp
theorem zPc {r:Rw.Row} {k:Nat} {x:Int} (h:r.2.2[k]?=some x):Md.st r (k+1)=(Md.st r k||!C.isC x):=by
 unfold Md.st;rw[ZA,h,Qz];simp
theorem zQl (last:Int) (r:Rw.Row):zBS last r=if (!C.isC r.1||decide (r.1≤last)||decide (r.2.1<0)||decide (254<r.2.1)||decide (2<r.2.2.length))=true then 1
 else if zGV r r.2.2.length=true then 2 else if Md.st r r.2.2.length=true then 3 else 0:=by
 unfold zBS zGV Md.st;rw[QV]
theorem Md.row_any (r:Rw.Row) (aA:Option Addr) (ac:Nat) (last:Int) (w:World) (hr : -2147483648≤r.1∧r.1≤2147483647) (bk : -2147483648≤last∧last≤2147483647) (hm:∀c∈r.2.2,-2147483648≤c∧c≤2147483647) (hl:r.2.2.length≤1000000) (hM:Sl w w.heap.size aA (r.2.2.map (Value.int .i32))) :
 Calls prog 156 #[zHU r (aA,ac),.int .i32 last] w fun e w'=>e=.returned (.string (zBe (zBS last r)))∧Below w.heap.size w w':=by
 rw[zQl];obtain⟨ml,ar⟩:∃k,r.2.2.length=k:=⟨_,rfl⟩;have ah:=zPa r;obtain⟨bj,h0⟩:∃b,zGV r 0=b:=⟨_,rfl⟩;unfold zHU;rw[ar]at hl ⊢;have au:=hy' ar;obtain⟨res,ae⟩:∃n,(if (!C.isC r.1||decide (r.1≤last)||decide (r.2.1<0)||decide (254<r.2.1)||decide (2<ml))=true then 1 else if zGV r ml=true then 2 else if Md.st r ml=true then 3 else 0)=n:=⟨_,rfl⟩;rw[ae];have aa:=hy' ae;clear ae;have ak:Below w.heap.size w (w.alloc (.cells #[.int .i32 r.1,.int .i64 r.2.1,.slice aA ml ac] 155)):=(Zc _ _).alloc (Za _) _;have ai:Rw.At (w.alloc (.cells #[.int .i32 r.1,.int .i64 r.2.1,.slice aA ml ac] 155)) w.heap.size 155 [.int .i32 r.1,.int .i64 r.2.1,.slice aA ml ac]:=Rw.At.new w 155 [.int .i32 r.1,.int .i64 r.2.1,.slice aA ml ac];have bl:=hy' ai;have HB:=hy' ak;have az:=hM.below ak ak.size;have HS:=hy' az;have bb:=hy' hm;have a7:=hy' ah;obtain⟨c0,c1,c2,_,_,_⟩:=ai.three;obtain⟨wa,aq⟩:∃wa,w.alloc (.cells #[.int .i32 r.1,.int .i64 r.2.1,.slice aA ml ac] 155)=wa:=⟨_,rfl⟩;have ay:=Hg.of_any r.1 wa hr.1 hr.2;have hU:=zBd r.1 wa;rw[aq]at c0 c1 c2 ai;have bi:=ai.lt;have aj:=hy' aq;have bc:=hr.1;have bg:=hr.2;obtain⟨a8,ag⟩:∃k,zA2 r.1=k:=⟨_,rfl⟩;rw[ag]at ay
 have ax:zGV r 0=!(a8 == 0):=by
  rw[ah,ag,Yf];simp
 have ba:=hy' ax;clear ar ah ai ak az hM hm h0 hr aq ag ax;go_enter func156,ntmps156;go_upto_region 1 with (fail)
 rw[aj.o];go_wp2_with fail;refine ay.mono ?_;rintro e w0 ⟨rfl,rfl⟩;go_wp2_with fail;go_loop [5,6,16] (fun v5 v6 i=>∃k:Nat,k≤ml∧i=.int .i64 k∧v5=.bool (zGV r k)∧v6=.bool (Md.st r k)) (fun _ _ i=>ml-(intOf i).toNat)
 case atStart=>exact⟨0,ZF _,rfl,by rw[ba.o];rfl,rfl⟩
 obtain⟨k,hk,rfl,rfl,rfl⟩:=hrel
 by_cases hlt':k<ml
 · obtain⟨x,hx⟩:∃x,r.2.2[k]?=some x:=⟨_,Zb (by rw[au.o];exact hlt')⟩;have hxb:=bb.o x (Zj hx);obtain⟨ab,ao,hA,bf,a6⟩:=HS.o (by rw[Ze,au.o];omega);have hc:=a6 k (by rw[Ze,au.o];exact hlt');rw[Zo,hx,Zz,aj.o]at hc;rw[aj.o]at bf;have h1:=zPb hx;have h2:=zPc hx;have hO:=Hg.of_any x wa hxb.1 hxb.2;have hI:=zBd x wa;obtain⟨ox,aw⟩:∃k,zA2 x=k:=⟨_,rfl⟩;obtain⟨ix,a1⟩:∃k,C.isC x=k:=⟨_,rfl⟩;obtain⟨t,ht⟩:∃b,zGV r k=b:=⟨_,rfl⟩;obtain⟨s,hs⟩:∃b,Md.st r k=b:=⟨_,rfl⟩;rw[aw]at hO h1;rw[a1]at hI h2;rw[ht]at h1 ⊢;rw[hs]at h2 ⊢;have hd:decide (ox≠0)=!(ox == 0):=by rw[Yf];simp
   rw[hd]at h1;have H1:=hy' h1;have H2:=hy' h2;subst hA;clear hx a6 aw a1 ht hs h1 h2 hd;have bh:(k:Int)<ml:=by omega
   cases t <;> cases s
   all_goals
    go_wp2_with (first|(go_at_call 54;refine hO.mono ?_;rintro e w' ⟨rfl,rfl⟩)|(go_at_call 50;refine hI.mono ?_;rintro e w' ⟨rfl,rfl⟩)|fail);go_round
    case rel=>exact⟨k+1,by omega,by go_num,by rw[H1.o];rfl,by rw[H2.o];rfl⟩
    simp[intOf];omega
 obtain rfl:k=ml:=by omega
 have av:Below w.heap.size w wa:=by rw[←aj.o];exact HB.o
 have af:=hy' av;obtain⟨t,ht⟩:∃b,zGV r k=b:=⟨_,rfl⟩;obtain⟨s,hs⟩:∃b,Md.st r k=b:=⟨_,rfl⟩;obtain⟨ic,ap⟩:∃b,C.isC r.1=b:=⟨_,rfl⟩;rw[ht,hs];rw[ap]at hU;have ae:=aa.o;rw[ht,hs,ap]at ae;clear aa;have aa:=hy' ae;clear av ht hs ap ae;cases ic
 · have he:1=res:=aa.o;subst he;go_wp2_with (first|(go_at_call 50;refine hU.mono ?_;rintro e w' ⟨rfl,rfl⟩)|fail);go_ret;exact⟨rfl,af.o⟩
 rcases hb2:decide (r.1≤last) with _|_
 rotate_left
 · have he:1=res:=by rw[←aa.o,hb2];rfl
   subst he;go_wp2_with (first|(go_at_call 50;refine hU.mono ?_;rintro e w' ⟨rfl,rfl⟩)|fail);go_ret;exact⟨rfl,af.o⟩
 rcases hb3:decide (r.2.1<0) with _|_
 rotate_left
 · have he:1=res:=by rw[←aa.o,hb2,hb3];rfl
   subst he;go_wp2_with (first|(go_at_call 50;refine hU.mono ?_;rintro e w' ⟨rfl,rfl⟩)|fail);go_ret;exact⟨rfl,af.o⟩
 rcases hb4:decide (254<r.2.1) with _|_
 · rcases hb5:decide (2<(k:Int)) with _|_
   · have h5:decide (2<k)=false:=by simp at hb5 ⊢;omega
     cases t
     · cases s
       · have he:0=res:=by rw[←aa.o,hb2,hb3,hb4,h5];rfl
         subst he;clear h5;go_wp2_with (first|(go_at_call 50;refine hU.mono ?_;rintro e w' ⟨rfl,rfl⟩)|fail);go_ret;exact⟨rfl,af.o⟩
       have he:3=res:=by rw[←aa.o,hb2,hb3,hb4,h5];rfl
       subst he;clear h5;go_wp2_with (first|(go_at_call 50;refine hU.mono ?_;rintro e w' ⟨rfl,rfl⟩)|fail);go_ret;exact⟨rfl,af.o⟩
     have he:2=res:=by rw[←aa.o,hb2,hb3,hb4,h5];rfl
     subst he;clear h5;go_wp2_with (first|(go_at_call 50;refine hU.mono ?_;rintro e w' ⟨rfl,rfl⟩)|fail);go_ret;exact⟨rfl,af.o⟩
   have h5:decide (2<k)=true:=by simp at hb5 ⊢;omega
   have he:1=res:=by rw[←aa.o,hb2,hb3,hb4,h5];rfl
   subst he;clear h5;go_wp2_with (first|(go_at_call 50;refine hU.mono ?_;rintro e w' ⟨rfl,rfl⟩)|fail);go_ret;exact⟨rfl,af.o⟩
 have he:1=res:=by rw[←aa.o,hb2,hb3,hb4];rfl
 subst he;go_wp2_with (first|(go_at_call 50;refine hU.mono ?_;rintro e w' ⟨rfl,rfl⟩)|fail);go_ret;exact⟨rfl,af.o⟩
end
section
open Go.RowKit Go.Stop
def F.Ch (w:World) (B:Nat):List (Nat × Int × Int × ByteArray)→Value→Prop
 | [],v=>v=.nilIface
 | (b,c,n,s)::t,v=>v=.iface 197 (.pointer (some ⟨b,0,none⟩))∧b<B∧∃e,w.heap[b]?=some (.cells #[.int .i64 c,.int .i64 n,.string s,e] 199 (0,0))∧F.Ch w B t e
theorem F.Ch.below {w w':World} {B B0 B':Nat} (hb:Below B0 w w') (h0:B≤B0) (h1:B≤B'):∀{q:List (Nat × Int × Int × ByteArray)} {v:Value},F.Ch w B q v→F.Ch w' B' q v
 | [],v,h=>h
 | (b,c,n,s)::t,v,h=>by
  obtain⟨h2,h3,e,h4,h5⟩:=h;exact⟨h2,by omega,e,(hb.block b (by omega)).trans h4,F.Ch.below hb h0 h1 h5⟩
def F.lk (q:List (Nat × Int × Int × ByteArray)):List (Int × Int × ByteArray):=q.map (·.2)
theorem F.Ch.get {w:World} {B:Nat}:∀{q:List (Nat × Int × Int × ByteArray)} {v:Value},F.Ch w B q v→∀{i b:Nat} {c n:Int} {s:ByteArray},q[i]?=some (b,c,n,s) →
 b<B∧∃e,w.heap[b]?=some (.cells #[.int .i64 c,.int .i64 n,.string s,e] 199 (0,0))
 | [],v,h,i,b,c,n,s,hq=>by simp at hq
 | (b',c',n',s')::t,v,h,0,b,c,n,s,hq=>by
  obtain⟨h2,h3,e,h4,h5⟩:=h;simp at hq;obtain⟨rfl,rfl,rfl,rfl⟩:=hq;exact⟨h3,e,h4⟩
 | (b',c',n',s')::t,v,h,i+1,b,c,n,s,hq=>by
  obtain⟨h2,h3,e,h4,h5⟩:=h;exact F.Ch.get h5 (by simpa using hq)
def zFR (l:List (Int × Int × ByteArray)) (w:World) (e:Ending) (w':World):Prop :=
 ∃q v,e=.returned v∧F.lk q=l∧F.Ch w' w'.heap.size q v∧Below w.heap.size w w'
theorem zOy (c n:Int) (s:ByteArray) (w:World) :
 Calls prog 106 #[.int .i64 c,.int .i64 n,.string s] w (zFR (if c=0 then [] else [(c,n,s)]) w):=by
 by_cases hc:c=0
 · rw[Zm hc];subst hc;go_enter func106,ntmps106;go_wp2;go_ret;exact⟨[],.nilIface,rfl,rfl,rfl,Zc _ _⟩
 rw[Zk hc];go_enter func106,ntmps106;go_wp2;go_ret;have hn:=ZT w (.cells #[.int .i64 c,.int .i64 n,.string s,.nilIface] 199);have hs:w.heap.size<(w.alloc (.cells #[.int .i64 c,.int .i64 n,.string s,.nilIface] 199)).heap.size:=by simp
 have aa:Below w.heap.size w (w.alloc (.cells #[.int .i64 c,.int .i64 n,.string s,.nilIface] 199)):=(Zc _ _).alloc (Za _) _;exact⟨[(w.heap.size,c,n,s)],_,rfl,rfl,⟨rfl,hs,.nilIface,hn,rfl⟩,aa⟩
theorem F.of_any (c:Int) (w:World) :
 Calls prog 72 #[.int .i64 c] w (zFR (if c=0 then [] else [(c,0,⟨#[]⟩)]) w):=by
 have HA:=hy' (zOy c 0 ⟨#[]⟩ w);obtain⟨l,aa⟩:∃l,(if c=0 then [] else [(c,(0:Int),(⟨#[]⟩:ByteArray))])=l:=⟨_,rfl⟩;rw[aa]at HA ⊢;clear aa;go_enter func72,ntmps72;go_wp2_with fail;refine HA.o.mono ?_;rintro e w1 ⟨q,v,rfl,hl,hq,hb⟩;go_wp2;go_ret;exact⟨q,v,rfl,hl,hq,hb⟩
end
end Go.Proofs.YtjakbblocbicjaaGreatDoor
