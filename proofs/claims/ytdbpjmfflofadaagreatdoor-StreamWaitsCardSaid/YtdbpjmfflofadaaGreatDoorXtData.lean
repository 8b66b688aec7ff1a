/- The layer extract in plain words: its rows, its lines, and that they are read back and may be. (Printed by wip/genext.py.) -/
import Derived.Test.YtdbpjmfflofadaaGreatDoorRwPLine
set_option maxRecDepth 100000
set_option maxHeartbeats 4000000
set_option linter.unusedVariables false
set_option linter.unusedSimpArgs false
namespace Go.Proofs.YtdbpjmfflofadaaGreatDoor
open Go.Proofs.Tryz
open Go.RowKit
def Xt.A:List Rw.Row:=[(192,0,[65,768]),(193,0,[65,769]),(194,0,[65,770]),(195,0,[65,771]),(196,0,[65,776]),(197,0,[65,778]),(199,0,[67,807]),(200,0,[69,768]),(201,0,[69,769]),(202,0,[69,770]),(203,0,[69,776]),(209,0,[78,771]),(214,0,[79,776]),(220,0,[85,776]),(224,0,[97,768]),(225,0,[97,769]),(226,0,[97,770]),(228,0,[97,776]),(229,0,[97,778]),(231,0,[99,807]),(233,0,[101,769]),(234,0,[101,770]),(241,0,[110,771]),(244,0,[111,770]),(246,0,[111,776]),(252,0,[117,776]),(258,0,[65,774]),(259,0,[97,774]),(346,0,[83,769]),(347,0,[115,769]),(350,0,[83,807]),(469,0,[220,772]),(471,0,[220,769]),(478,0,[196,772]),(506,0,[197,769]),(768,230,[]),(769,230,[]),(770,230,[]),(771,230,[]),(772,230,[]),(774,230,[]),(775,230,[]),(776,230,[]),(778,230,[]),(787,230,[]),(795,216,[]),(803,220,[]),(807,202,[]),(808,202,[]),(817,220,[]),(824,1,[]),(832,230,[768]),(833,230,[769]),(835,230,[787]),(836,230,[776,769]),(837,240,[]),(884,0,[697]),(894,0,[59]),(901,0,[168,769]),(903,0,[183]),(940,0,[945,769]),(942,0,[951,769]),(1460,14,[]),(1463,17,[]),(2345,0,[2344,2364]),(2353,0,[2352,2364]),(2356,0,[2355,2364]),(2364,7,[]),(2381,9,[]),(2392,0,[2325,2364]),(2393,0,[2326,2364]),(2507,0,[2503,2494]),(2508,0,[2503,2519]),(3953,129,[]),(3954,130,[]),(3955,0,[3953,3954]),(3956,132,[]),(3957,0,[3953,3956]),(3958,0,[4018,3968]),(3968,130,[]),(3969,0,[3953,3968]),(7688,0,[199,769]),(7690,0,[68,775]),(7691,0,[100,775]),(7692,0,[68,803]),(7693,0,[100,803]),(7776,0,[83,775]),(7777,0,[115,775]),(7778,0,[83,803]),(7779,0,[115,803]),(7780,0,[346,775]),(7781,0,[347,775]),(7784,0,[7778,775]),(7785,0,[7779,775]),(7835,0,[383,775]),(7840,0,[65,803]),(7841,0,[97,803]),(7852,0,[7840,770]),(7853,0,[7841,770]),(7862,0,[7840,774]),(7863,0,[7841,774]),(8192,0,[8194]),(8193,0,[8195]),(8486,0,[937]),(8490,0,[75]),(8491,0,[197]),(8800,0,[61,824]),(8814,0,[60,824]),(10972,0,[10973,824]),(12364,0,[12363,12441]),(12400,0,[12399,12441]),(12401,0,[12399,12442]),(12441,8,[]),(12442,8,[])]
def Xt.B:List Rw.Row:=[(63744,0,[35912]),(64285,0,[1497,1460]),(64287,0,[1522,1463]),(69786,0,[69785,69818]),(69818,7,[]),(119134,0,[119127,119141]),(119141,216,[])]
def Xt.T:List Rw.Row:=Xt.A++Xt.B
def zIF:List Int:=[2392,2393,10972,64285,64287,119134]
def zTL:List UInt8:=[72,97,110,103,117,108,32,83,121,108,108,97,98,108,101]
def zTe:List UInt8:=[65,67,48,48,59,60,72,97,110,103,117,108,32,83,121,108,108,97,98,108,101,44,32,70,105,114,115,116,62,59,59,48,59,59,59,59,59,59,59,59,59,59,59]
def zTf:List UInt8:=[68,55,65,51,59,60,72,97,110,103,117,108,32,83,121,108,108,97,98,108,101,44,32,76,97,115,116,62,59,59,48,59,59,59,59,59,59,59,59,59,59,59]
def zTM:List UInt8:=[60,72,97,110,103,117,108,32,83,121,108,108,97,98,108,101,44,32,70,105,114,115,116,62]
def Xt.n1:List UInt8:=[78,111,110,32,80,114,105,118,97,116,101,32,85,115,101,32,72,105,103,104,32,83,117,114,114,111,103,97,116,101]
def Xt.f1:List UInt8:=[68,56,48,48,59,60,78,111,110,32,80,114,105,118,97,116,101,32,85,115,101,32,72,105,103,104,32,83,117,114,114,111,103,97,116,101,44,32,70,105,114,115,116,62,59,59,48,59,59,59,59,59,59,59,59,59,59,59]
def zTg:List UInt8:=[68,66,55,70,59,60,78,111,110,32,80,114,105,118,97,116,101,32,85,115,101,32,72,105,103,104,32,83,117,114,114,111,103,97,116,101,44,32,76,97,115,116,62,59,59,48,59,59,59,59,59,59,59,59,59,59,59]
def Xt.w1:List UInt8:=[60,78,111,110,32,80,114,105,118,97,116,101,32,85,115,101,32,72,105,103,104,32,83,117,114,114,111,103,97,116,101,44,32,70,105,114,115,116,62]
def zTN:List UInt8:=[80,114,105,118,97,116,101,32,85,115,101]
def Xt.f2:List UInt8:=[69,48,48,48,59,60,80,114,105,118,97,116,101,32,85,115,101,44,32,70,105,114,115,116,62,59,59,48,59,59,59,59,59,59,59,59,59,59,59]
def zTh:List UInt8:=[70,56,70,70,59,60,80,114,105,118,97,116,101,32,85,115,101,44,32,76,97,115,116,62,59,59,48,59,59,59,59,59,59,59,59,59,59,59]
def Xt.w2:List UInt8:=[60,80,114,105,118,97,116,101,32,85,115,101,44,32,70,105,114,115,116,62]
def zBG:List (List UInt8):=[zTe,zTf,Xt.f1,zTg,Xt.f2,zTh]
def Xt.text:List UInt8:=zB4 Xt.A++((zBG.flatMap fun x=>x++[10])++zB4 Xt.B)
def zIG (r:Rw.Row):Bool:=decide (0≤r.1)&&decide (r.1≤1114111)&&decide (0≤r.2.1)&&decide (r.2.1≤254)&&decide (r.2.2.length≤2)&&(r.2.2.all fun c=>decide (0≤c)&&decide (c≤1114111))&&C.isC r.1
theorem zKY {r:Rw.Row} (h:zIG r=true):zGo r:=by
 unfold zIG at h;simp only[Zr,Zo,Yg]at h;obtain⟨⟨⟨⟨⟨⟨h1,h2⟩,h3⟩,h4⟩,h5⟩,h6⟩,h7⟩:=h;exact⟨⟨h1,h2,h3,h4,h5,h6⟩,.inl h7⟩
def zM3:Int→List Rw.Row→Bool
 | _,[]=>true
 | c,r::l=>decide (c<r.1)&&zM3 r.1 l
theorem Xt.rise_of:∀(l:List Rw.Row) (c:Int),zM3 c l=true→zDj c l
 | [],_,_=>trivial
 | r::l,c,h=>by
   unfold zM3 at h;rw[Zr,Zo]at h;exact⟨h.1,Xt.rise_of l r.1 h.2⟩
theorem zGW:∀r∈Xt.A,zGo r:=fun r hr=>zKY (List.all_eq_true.1 (show Xt.A.all zIG=true by decide +kernel) r hr)
theorem zFj:∀r∈Xt.B,zGo r:=fun r hr=>zKY (List.all_eq_true.1 (show Xt.B.all zIG=true by decide +kernel) r hr)
theorem zSz:zDj (-1) Xt.A:=Xt.rise_of _ _ (by decide +kernel)
theorem zRW:zDj 63743 Xt.B:=Xt.rise_of _ _ (by decide +kernel)
theorem zSA:Xt.A.filter (fun r=>!Rw.quiet r)=Xt.A:=by decide +kernel
theorem zSB:Xt.B.filter (fun r=>!Rw.quiet r)=Xt.B:=by decide +kernel
theorem zEI (out:List Rw.Row) (c d:Int) (l w:List UInt8) (h1:Rw.row (zAm 59 [] l)=some (d,0,[])) (h2:zBP [] ((zAm 59 [] l).getD 1 []) true=some w) (hc:c<d):Rw.step (out,c,[]) l=some (out,d,w):=by
 unfold Rw.step;rw[h1,Zv];dsimp only;rw[Zl hc,show Rw.quiet (d,0,[])=true from rfl,h2,Zv,Zl (.inr rfl),Zl rfl]
theorem Xt.step_last (out:List Rw.Row) (c d:Int) (l w:List UInt8) (h1:Rw.row (zAm 59 [] l)=some (d,0,[])) (h2:zBP w ((zAm 59 [] l).getD 1 []) true=some []) (hc:c<d):Rw.step (out,c,w) l=some (out,d,[]):=by
 unfold Rw.step;rw[h1,Zv];dsimp only;rw[Zl hc,show Rw.quiet (d,0,[])=true from rfl,h2,Zv,Zl (.inr rfl),Zl rfl]
theorem zK8 (out:List Rw.Row) (c:Int) (hc:c<44032):Rw.steps (out,c,[]) zBG=some (out,63743,[]):=by
 unfold zBG Rw.steps;rw[zEI out c 44032 zTe zTM (by decide +kernel) (by decide +kernel) hc,Zv];unfold Rw.steps;rw[Xt.step_last out 44032 55203 zTf zTM (by decide +kernel) (by decide +kernel) (by decide),Zv];unfold Rw.steps;rw[zEI out 55203 55296 Xt.f1 Xt.w1 (by decide +kernel) (by decide +kernel) (by decide),Zv];unfold Rw.steps;rw[Xt.step_last out 55296 56191 zTg Xt.w1 (by decide +kernel) (by decide +kernel) (by decide),Zv];unfold Rw.steps;rw[zEI out 56191 57344 Xt.f2 Xt.w2 (by decide +kernel) (by decide +kernel) (by decide),Zv];unfold Rw.steps;rw[Xt.step_last out 57344 63743 zTh Xt.w2 (by decide +kernel) (by decide +kernel) (by decide),Zv];rfl
theorem zGs:∀(l:List Rw.Row) (out:List Rw.Row) (c:Int),(∀r∈l,zGo r)→zDj c l→Rw.steps (out,c,[]) (l.map Rw.line)=some (out++l.filter (fun r=>!Rw.quiet r),zFH c l,[])
 | [],out,c,_,_=>by simp[Rw.steps,zFH]
 | r::l,out,c,h,hr=>by
   have h1:=h r ZI;rw[ZU,Rw.steps,zIc out c r h1.1 hr.1 h1.2,Zv,zGs l _ r.1 (fun q hq=>h q (ZT _ hq)) hr.2,YW];cases Rw.quiet r <;> simp[zFH]
def zFL:List (List UInt8):=Xt.A.map Rw.line++(zBG++Xt.B.map Rw.line)
theorem zM4:Xt.text=zFL.flatMap fun x=>x++[10]:=by
 unfold Xt.text zFL;rw[Y8,Y8,zJE,zJE]
theorem zJT:∀x∈zFL,zCh x=true:=by
 intro x hx;unfold zFL at hx;rcases List.mem_append.1 hx with h|h
 · obtain⟨r,h1,rfl⟩:=List.mem_map.1 h;exact zE8 r (zGW r h1).1
 rcases List.mem_append.1 h with h|h
 · exact List.all_eq_true.1 (show zBG.all zCh=true by decide +kernel) x h
 obtain⟨r,h1,rfl⟩:=List.mem_map.1 h;exact zE8 r (zFj r h1).1
theorem Xt.lens:Xt.A.length=114∧Xt.B.length=7:=⟨rfl,rfl⟩
theorem Xt.parse:Rw.parse Xt.text=some Xt.T:=by
 unfold Rw.parse;rw[zM4,zEz _ fun x hx=>zPs (zJT x hx)];rw[if_pos ⟨List.all_eq_true.2 zJT,by unfold zFL;rw[List.length_append,List.length_append,List.length_map,List.length_map,Xt.lens.1,Xt.lens.2];decide⟩];unfold zFL;rw[Rw.steps_app,zGs _ _ _ zGW zSz,Zv,Rw.steps_app,zK8 _ _ (by decide +kernel),Zv,zGs _ _ _ zFj zRW,Zv,zSA,zSB];rfl
theorem Xt.text_len:Xt.text.length≤200000:=by
 unfold Xt.text;have h1:=zCt Xt.A fun r hr=>(zGW r hr).1
 have h2:=zCt Xt.B fun r hr=>(zFj r hr).1
 have h3:(zBG.flatMap fun x=>x++[10]).length≤1000:=by decide +kernel
 rw[Xt.lens.1]at h1;rw[Xt.lens.2]at h2;rw[Zc,Zc];omega
theorem zRX:∀c∈zIF,C.isC c=true:=fun c hc=>List.all_eq_true.1 (show zIF.all C.isC=true by decide +kernel) c hc
theorem zTi:Md.chk Xt.T (Md.xs zIF)=0:=by decide +kernel
def zDQ:List Int:=C.chars zIF
theorem Xt.mem:C.mem zDQ=Md.xs zIF:=zIl zRX
theorem Xt.ok:Ud.Ok Xt.T zDQ:=by
 have h:=C.chars_len zIF;refine⟨by rw[Xt.mem];exact zTi,(zBL _).1.1,by decide +kernel,?_⟩;show (C.chars zIF).length≤1000000;have:zIF.length=6:=rfl;omega
theorem zRY:Ex.parse (zAk zIF)=some zIF:=Ex.parse_btxt zIF zRX (by decide +kernel) (by decide)
theorem Xt.bd:Md.bd Xt.T:=Xt.ok.bd
inductive Xt.Is:List Oper→Nat→List Rw.Row→List Nat→List Oper→Prop
 | nil {rest:List Oper} {s:Nat}:Xt.Is rest s [] [] rest
 | two {o1 o2:Oper} {l rest:List Oper} {s k:Nat} {p:Array (Nat × Operand)} {c n:Int} {m:List Int} {T:List Rw.Row} {sl:List Nat}:o1.guard=none→o1.dst=some s→o1.op=.buildSlice 79 k p→m.length=k→0<k→k≤2→p.toList=((m.zipIdx 0).map fun x=>(x.2,Operand.const (Value.int .i32 x.1))) →
    o2.guard=none→o2.dst=some (s+1)→o2.op=.build 103 #[(0,.const (.int .i32 c)),(1,.const (.int .i64 n)),(2,.tmp s)]→Xt.Is l (s+2) T sl rest→Xt.Is (o1::o2::l) s ((c,n,m)::T) ((s+1)::sl) rest
 | one {o:Oper} {l rest:List Oper} {s:Nat} {c n:Int} {T:List Rw.Row} {sl:List Nat}:o.guard=none→o.dst=some s→o.op=.build 103 #[(0,.const (.int .i32 c)),(1,.const (.int .i64 n))]→Xt.Is l (s+1) T sl rest→Xt.Is (o::l) s ((c,n,[])::T) (s::sl) rest
def Xt.val (r:Rw.Row) (a:Option Addr × Nat):Value:=.agg #[.int .i32 r.1,.int .i64 r.2.1,.slice a.1 r.2.2.length a.2]
theorem zP3 (c n:Int) (A:Option Addr) (k q:Nat) (w:World):(Instr.build 103 #[(0,.int .i32 c),(1,.int .i64 n),(2,.slice A k q)]).run prog w=.ok (.agg #[.int .i32 c,.int .i64 n,.slice A k q]) w:=by kernel_rfl
theorem zP4 (c n:Int) (w:World):(Instr.build 103 #[(0,.int .i32 c),(1,.int .i64 n)]).run prog w=.ok (.agg #[.int .i32 c,.int .i64 n,.slice none 0 0]) w:=by kernel_rfl
theorem zSC {P:Program} {o:Oper} {ρ:Operand→Value} {w w':World} (t:TypeId) (x y z:Operand) (ho:o.op=.build t #[(0,x),(1,y),(2,z)]) (v:Value) (hz:ρ z=v) (u:Value) (hr:(Instr.build t #[(0,ρ x),(1,ρ y),(2,v)]).run P w=.ok u w'):(execOp ρ o).run P w=.ok (.value u) w':=by
 subst hz;simp only[execOp,ho,YC,Xb,ZU,Ym,hr,Yt,Ys]
theorem zSD {P:Program} {o:Oper} {ρ:Operand→Value} {w w':World} (t:TypeId) (x y:Operand) (ho:o.op=.build t #[(0,x),(1,y)]) (u:Value) (hr:(Instr.build t #[(0,ρ x),(1,ρ y)]).run P w=.ok u w'):(execOp ρ o).run P w=.ok (.value u) w':=by
 simp only[execOp,ho,YC,Xb,ZU,Ym,hr,Yt,Ys]
theorem zGt {a:Act} {s:Nat} {v:Value} (h:s<a.tmps.size):(a.put (some s) v).eval (.tmp s)=v:=by
 simp[Act.put,Act.eval,Array.getD,h]
theorem zFk {a:Act} {s q:Nat} {v:Value} (h:q≠s):(a.put (some s) v).eval (.tmp q)=a.eval (.tmp q):=by
 have:¬s=q:=fun e=>h e.symm
 simp[Act.put,Act.eval,this]
theorem zC5 {a:Act} {s:Nat} {v:Value}:(a.put (some s) v).tmps.size=a.tmps.size:=by simp[Act.put]
theorem zTj {ops:Array Oper} {Q:Exit→Act→World→Prop} {l rest:List Oper} {s:Nat} {T:List Rw.Row} {sl:List Nat} (h:Xt.Is l s T sl rest):∀(a:Act) (w:World) (B:Nat) (vals:List (Nat × Value)),s+l.length≤a.tmps.size+rest.length→(∀x∈vals,x.1<s∧a.eval (.tmp x.1)=x.2)→B≤w.heap.size →
 (∀(a':Act) (w':World) (ads:List (Option Addr × Nat)),ads.length=T.length→Below B w w'→(∀(i:Nat) (r:Rw.Row) (ad:Option Addr × Nat),T[i]?=some r→ads[i]?=some ad→Slt w' 21 ad.1 (r.2.2.map (Value.int .i32)))→(a'.tmps.size=a.tmps.size∧a'.defers=a.defers) →
   (∀x∈vals,a'.eval (.tmp x.1)=x.2)→(sl.map fun q=>a'.eval (.tmp q))=List.zipWith Xt.val T ads→wpList prog ops Q rest a' w')→wpList prog ops Q l a w:=by
 induction h with
 | nil=>intro a w B vals hs hv hB K;exact K a w [] rfl (Zd _ _) (fun i r ad h=>by simp at h) ⟨rfl,rfl⟩ (fun x hx=>(hv x hx).2) rfl
 | @two o1 o2 l rest s k p c n m T sl g1 d1 h1 hm k0 k2 hp g2 d2 h2 _ ih =>
   intro a w B vals hs hv hB K;simp only[ZB]at hs
   have hle:rest.length≤l.length:=by
    have:∀{l rest:List Oper} {s:Nat} {T:List Rw.Row} {sl:List Nat},Xt.Is l s T sl rest→rest.length≤l.length:=by
     intro l rest s T sl h
     induction h with
     | nil=>exact Za _
     | two _ _ _ _ _ _ _ _ _ _ _ ih=>simp only[ZB];omega
     | one _ _ _ _ ih=>simp only[ZB];omega
    exact this (by assumption)
   refine wpList_buildFlatAt g1 79 21 k p h1 .i32 m w.heap.size rfl (some s) d1 underlying79 (by kernel_rfl) (by kernel_rfl) hm.symm (by omega) (by omega) hp ?_;refine zBi g2 _ (zSC 103 _ _ _ h2 _ (zGt (by omega)) _ (zP3 c n _ k k _)) ?_;rw[d2];have aj:Below B w (w.alloc (.cells (m.map (Value.int .i32)).toArray 21)):=(Zd _ _).alloc hB _;have ak:=Rw.At.new w 21 (m.map (Value.int .i32));refine ih _ _ (w.heap.size+1) ((s+1,.agg #[.int .i32 c,.int .i64 n,.slice (some ⟨w.heap.size,0,none⟩) k k])::vals) (by rw[zC5,zC5];omega) (fun x hx=>?_) (by simp) ?_
   · rcases List.mem_cons.1 hx with rfl|hx
     · exact⟨by omega,zGt (by rw[zC5];omega)⟩
     have:=hv x hx;exact⟨by omega,by rw[zFk (by omega),zFk (by omega)];exact this.2⟩
   intro a' w' ads hl hb ae ag af ah;refine K a' w' ((some ⟨w.heap.size,0,none⟩,k)::ads) (by simp[hl]) (aj.trans (hb.mono (by omega))) ?_ ⟨by rw[ag.1,zC5,zC5],ag.2⟩ (fun x hx=>af x (ZT _ hx)) ?_
   · intro i r ad hr aa;cases i with
     | zero =>
       simp at hr aa;subst hr;subst aa;have ai:=ak.below' hb (ZM _);exact fun _=>⟨_,0,_,rfl,ai,fun i _=>by simp⟩
     | succ i=>exact ae i r ad (by simpa using hr) (by simpa using aa)
   rw[ZU,Qr,ah];congr 1;have:=af _ ZI;rw[this];unfold Xt.val;rw[hm]
 | @one o l rest s c n T sl g1 d1 h1 _ ih =>
   intro a w B vals hs hv hB K;simp only[ZB]at hs
   have hle:rest.length≤l.length:=by
    have:∀{l rest:List Oper} {s:Nat} {T:List Rw.Row} {sl:List Nat},Xt.Is l s T sl rest→rest.length≤l.length:=by
     intro l rest s T sl h
     induction h with
     | nil=>exact Za _
     | two _ _ _ _ _ _ _ _ _ _ _ ih=>simp only[ZB];omega
     | one _ _ _ _ ih=>simp only[ZB];omega
    exact this (by assumption)
   refine zBi g1 _ (zSD 103 _ _ h1 _ (zP4 c n _)) ?_;rw[d1];refine ih _ _ B ((s,.agg #[.int .i32 c,.int .i64 n,.slice none 0 0])::vals) (by rw[zC5];omega) (fun x hx=>?_) hB ?_
   · rcases List.mem_cons.1 hx with rfl|hx
     · exact⟨by omega,zGt (by omega)⟩
     have:=hv x hx;exact⟨by omega,by rw[zFk (by omega)];exact this.2⟩
   intro a' w' ads hl hb ae ag af ah;refine K a' w' ((none,0)::ads) (by simp[hl]) hb ?_ ⟨by rw[ag.1,zC5],ag.2⟩ (fun x hx=>af x (ZT _ hx)) ?_
   · intro i r ad hr aa;cases i with
     | zero =>
       simp at hr aa;subst hr;subst aa;exact Slt.nil _ _ _
     | succ i=>exact ae i r ad (by simpa using hr) (by simpa using aa)
   rw[ZU,Qr,ah];congr 1;exact af _ ZI
theorem zKZ:∀(T:List Rw.Row) (ads:List (Option Addr × Nat)),((List.zipWith Xt.val T ads).flatMap fun v=>v.cells.toList)=Rw.fl T ads
 | [],_=>rfl
 | _::_,[]=>rfl
 | r::T,a::ads=>by
   rw[Qr,Xu,zKZ T ads];rfl
theorem zNy (w:World):Calls prog 49 #[] w fun e w'=>∃A c,e=.returned (.slice A Xt.T.length c)∧Rw.Tab w' A Xt.T∧Below w.heap.size w w':=by
 go_enter func49,ntmps49;go_upto_region 1 with (fail)
 go_step;apply zTj (s:=1) (T:=Xt.T) (B:=w.heap.size) (vals:=[])
 case h=>repeat (first|exact Xt.Is.nil|apply Xt.Is.two rfl rfl rfl rfl (by decide) (by decide) rfl rfl rfl rfl|apply Xt.Is.one rfl rfl rfl)
 · exact Jw (by kernel_rfl)
 · intro x hx;cases hx
 · exact Za _
 intro a' w' ads hl hb aa ai _ ah;have hi:(prog.info? 103).map (fun i=>(i.zero.isSome,i.size))=some (true,3):=by kernel_rfl
 cases hie:prog.info? 103 with
 | none=>simp[hie]at hi
 | some ie =>
   simp only[hie,Zw,Zg,YA]at hi;obtain⟨z,hz⟩:=Option.isSome_iff_exists.1 hi.1;have ag:Xt.T.length=121:=rfl;refine wpList_buildSlice rfl 85 103 121 _ rfl (Rw.fl Xt.T ads).toArray ie z underlying85 hie hz (by rw[hi.2];decide) (by rw[hi.2];decide) ?_ ?_
   · rw[hi.2]
     have h2:∀(p:Array (Nat × Operand)) (sl:List Nat),p.toList=((sl.zipIdx 0).map fun x=>(x.2,Operand.tmp x.1))→(p.map fun (i,x)=>(i,a'.eval x)).toList=(((sl.map fun q=>a'.eval (.tmp q)).zipIdx 0).map fun x=>(x.2,x.1)):=fun p sl hp=>by
      rw[Array.toList_map,hp,List.zipIdx_map,Xd,Xd];rfl
     rw[h2 _ _ (by kernel_rfl),ah];have ae:(List.zipWith Xt.val Xt.T ads).length=121:=by rw[List.length_zipWith,hl,ag];rfl
     rw[Go.Great.fill_whole (s:=3) (by decide) _ _ (fun v hv=>?_) (by rw[ae];simp),zKZ];obtain⟨i,aj,rfl⟩:=Xz hv;rw[List.getElem_zipWith];rfl
   go_wp2_with fail;have h0:0<a'.tmps.size:=by rw[ai.1];exact Jw (by kernel_rfl)
   refine YD (results_tmp rfl _ prog _) rfl ?_;refine⟨some ⟨w'.heap.size,0,none⟩,⟨121,by simp[h0]⟩,⟨ads,hl,?_,?_⟩,?_⟩
   · exact fun _=>⟨_,0,_,rfl,ZW _ _,fun i _=>by simp⟩
   · intro i r ad hr af;exact (aa i r ad hr af).below ((Zd _ _).alloc (Za _) _)
   exact hb.alloc hb.size _
def zCa:List Value:=[.int .i32 44032,.int .i32 55203,.string ⟨zTL.toArray⟩,.int .i32 55296,.int .i32 56191,.string ⟨Xt.n1.toArray⟩,.int .i32 57344,.int .i32 63743,.string ⟨zTN.toArray⟩]
theorem zNz (w:World):Calls prog 48 #[] w fun e w'=>e=.returned (.slice (some ⟨w.heap.size,0,none⟩) 3 3)∧Rw.At w' w.heap.size 105 zCa∧Below w.heap.size w w':=by
 go_enter func48,ntmps48;go_wp2_with fail;go_ret;exact⟨rfl,Rw.At.new w 105 zCa,(Zd _ _).alloc (Za _) _⟩
def zK9 (c:Nat) (nm en:List UInt8):List UInt8:=Fi.text c++([59,60]++(nm++([44,32]++(en++[62,59,59,48,59,59,59,59,59,59,59,59,59,59,59,10]))))
theorem Xt.line_any (f t:Int) (c:Nat) (nm en:List UInt8) (w:World) (hc:c≤1114111) (hn:nm.length≤100) (he:en.length≤100) (hL:Fi.Laid w) :
 Calls prog 51 #[.agg #[.int .i32 f,.int .i32 t,.string ⟨nm.toArray⟩],.int .i32 c,.string ⟨en.toArray⟩] w fun e w'=>e=.returned (.string ⟨(zK9 c nm en).toArray⟩)∧Below w.heap.size w w':=by
 obtain⟨wa,ae⟩:∃wa,w.alloc (.cells #[.int .i32 f,.int .i32 t,.string ⟨nm.toArray⟩] 105)=wa:=⟨_,rfl⟩;have aq:Below w.heap.size w wa:=by rw[←ae];exact (Zd _ _).alloc (Za _) _
 have ao:Rw.At wa w.heap.size 105 [.int .i32 f,.int .i32 t,.string ⟨nm.toArray⟩]:=by rw[←ae];exact Rw.At.new w 105 [.int .i32 f,.int .i32 t,.string ⟨nm.toArray⟩]
 have hT:=fun W (hW:Below w.heap.size w W)=>Fi.text_any c (by omega) W (hL.below hW)
 have aa:∀x:ByteArray,x=⟨(Fi.text c).toArray⟩→((((x++⟨#[59,60]⟩)++⟨nm.toArray⟩)++⟨#[44,32]⟩)++⟨en.toArray⟩)++⟨#[62,59,59,48,59,59,59,59,59,59,59,59,59,59,59,10]⟩=(⟨(zK9 c nm en).toArray⟩:ByteArray):=by
  rintro x rfl;rw[show (⟨#[59,60]⟩:ByteArray)=⟨[59,60].toArray⟩ from rfl,show (⟨#[44,32]⟩:ByteArray)=⟨[44,32].toArray⟩ from rfl,show (⟨#[62,59,59,48,59,59,59,59,59,59,59,59,59,59,59,10]⟩:ByteArray)=⟨[62,59,59,48,59,59,59,59,59,59,59,59,59,59,59,10].toArray⟩ from rfl,zAO,zAO,zAO,zAO,zAO];unfold zK9;simp
 obtain⟨tx,ah⟩:∃y:ByteArray,⟨(Fi.text c).toArray⟩=y:=⟨_,rfl⟩;have hr:=aa tx ah.symm
 have t6:tx.size≤6:=by
  rw[←ah];show (Fi.text c).toArray.size≤6;have:=zAI c hc;simpa using this
 obtain⟨n1,ag⟩:∃y:ByteArray,⟨nm.toArray⟩=y:=⟨_,rfl⟩;obtain⟨e1,aj⟩:∃y:ByteArray,⟨en.toArray⟩=y:=⟨_,rfl⟩;have aw:n1.size≤100:=by rw[←ag,zAA];exact hn
 have ay:e1.size≤100:=by rw[←aj,zAA];exact he
 rw[ag,aj]at hr ⊢;rw[ag]at ao ae;simp only[ah]at hT;obtain⟨ax,af⟩:∃y:ByteArray,⟨(zK9 c nm en).toArray⟩=y:=⟨_,rfl⟩;rw[af]at hr ⊢;have s2:(⟨#[59,60]⟩:ByteArray).size=2:=rfl;have s3:(⟨#[44,32]⟩:ByteArray).size=2:=rfl;have s4:(⟨#[62,59,59,48,59,59,59,59,59,59,59,59,59,59,59,10]⟩:ByteArray).size=16:=rfl;have HR:=hy' hr;have av:=hy' ae;have ai:=hy' aq;have ar:=hy' ao;have HT:=hy' hT;clear hr aa ah ae aq ao hT ag aj af hL hn he;go_enter func51,ntmps51;go_upto_region 1 with (fail)
 rw[av.o];refine Stg.wp_region (by kernel_rfl) Stg.Ex Stg.Ex.rel ?_;refine Stg.readW (by kernel_rfl) ?_;intro K hK;go_big_quiet_op;go_big_quiet_on;refine Stg.call 90 _ _ rfl func90 [.int .i32 c] rfl wa.drew _ (HT.o wa.drew ai.o.drew) (by kernel_rfl) rfl ?_;rintro e w1 ⟨rfl,ak⟩;refine⟨_,rfl,ak,?_⟩;have au:=hy' (ai.o.drew.trans (ak.mono ai.o.size));clear ak;intro A' ap;simp only[Act.put,Zm,ZA,Zx]at ap;subst ap;have e2:=Stg.cells (w:=wa.drew) (ar.o.cell 2 rfl) ar.o.lt;have c1:¬9223372036854775807<tx.size+(⟨#[59,60]⟩:ByteArray).size:=by omega
 have c2:¬9223372036854775807<(tx++⟨#[59,60]⟩).size+n1.size:=by rw[ZS];omega
 have c3:¬9223372036854775807<((tx++⟨#[59,60]⟩)++n1).size+(⟨#[44,32]⟩:ByteArray).size:=by rw[ZS,ZS];omega
 have c4:¬9223372036854775807<(((tx++⟨#[59,60]⟩)++n1)++⟨#[44,32]⟩).size+e1.size:=by rw[ZS,ZS,ZS];omega
 have c5:¬9223372036854775807<((((tx++⟨#[59,60]⟩)++n1)++⟨#[44,32]⟩)++e1).size+(⟨#[62,59,59,48,59,59,59,59,59,59,59,59,59,59,59,10]⟩:ByteArray).size:=by rw[ZS,ZS,ZS,ZS];omega
 (iterate 2 (refine Stg.readW (by kernel_rfl) ?_;intro K hK;go_big_quiet_op;go_big_quiet_on))
 refine Stg.read 1 (by kernel_rfl) wa.drew rfl ?_;intro K hK;go_big_quiet_op;go_big_quiet_on
 (iterate 6 (refine Stg.readW (by kernel_rfl) ?_;intro K hK;go_big_quiet_op;go_big_quiet_on))
 refine Stg.nil w1 rfl ?_;go_wp2_with fail;go_ret;rw[HR.o];exact⟨rfl,au.o⟩
theorem zJU:Stg.Rel Bd.Kept:=⟨fun w t A xs _ _ h=>h,fun h1 h2 t A xs g1 g2 h=>h2 t A xs g1 g2 (h1 t A xs g1 g2 h)⟩
instance (w:World):Nonempty (Stg.Later Bd.Kept w):=⟨⟨w,zJU.refl w⟩⟩
theorem zGX {w w':World} (h:Below w.heap.size w w'):Bd.Kept w w':=fun t A xs _ _ hs=>hs.below h
theorem zFl {W:World} {t:TypeId} {b o:Nat} {xs:List Value} (h:Slt W t (some ⟨b,o,none⟩) xs) (h1:t≠98) (h2:t≠5) {i:Nat} {v:Value} (hv:xs[i]?=some v):∀x:Stg.Later Bd.Kept W,x.val.cell? ⟨b,o+i,none⟩=some v:=fun x=>by
 have hi:=(List.getElem?_eq_some_iff.1 hv).1;obtain⟨b',o',hA,_,hc⟩:=(x.rel t _ xs h1 h2 h).sl (by omega);simp only[Zg,YH,Yl]at hA;obtain⟨rfl,rfl⟩:=hA;rw[hc i hi,hv]
def zSE (j:Nat):List UInt8:=(zBG.take (2*j)).flatMap fun x=>x++[10]
def Xt.mid (k j:Nat):List UInt8:=zB4 ((Xt.T.take k).take Xt.A.length)++(zSE j++zB4 ((Xt.T.take k).drop Xt.A.length))
def zCD (k:Nat):Nat:=if k≤Xt.A.length then 0 else 3
def zSF (j:Nat):Int:=if j=0 then 44032 else if j=1 then 55296 else 57344
theorem Xt.len:Xt.T.length=121:=rfl
theorem Xt.mid_all:Xt.mid 121 3=Xt.text:=by
 unfold Xt.mid Xt.text;rw[show Xt.T.take 121=Xt.T from Zi (by rw[Xt.len];exact Za _)];unfold Xt.T;rw[QN,QM];rfl
theorem zQG {k:Nat} {r:Rw.Row} (hr:Xt.T[k]?=some r):Xt.mid (k+1) (zCD (k+1))=Xt.mid k (zCD (k+1))++(Rw.line r++[10]):=by
 have hk:=(List.getElem?_eq_some_iff.1 hr).1;have ht:Xt.T.take (k+1)=Xt.T.take k++[r]:=by rw[Zy,hr];rfl
 have hl:(Xt.T.take k).length=k:=by rw[Zn];omega
 unfold Xt.mid;rw[ht];obtain⟨P,hP⟩:∃P,Xt.T.take k=P:=⟨_,rfl⟩;rw[hP]at hl ⊢
 by_cases hka:k+1≤Xt.A.length
 · have e:zCD (k+1)=0:=by unfold zCD;rw[if_pos hka]
   rw[e,Zi (by rw[Zc,hl];exact hka),YP (by rw[Zc,hl];exact hka),Zi (by rw[hl];omega),YP (by rw[hl];omega),zFF,zFG];simp[zSE,zB4]
 rw[Yp (by rw[hl];omega),QC (by rw[hl];omega),zFF,zFG];simp
theorem zRZ (k j:Nat) (hk:k=Xt.A.length) (hj:j<3):∃x y,zBG[2*j]?=some x∧zBG[2*j+1]?=some y∧Xt.mid k (j+1)=Xt.mid k j++((x++[10])++(y++[10])):=by
 subst hk;have hx:2*j+1<zBG.length:=by show 2*j+1<6;omega
 refine⟨zBG[2*j],zBG[2*j+1],Zb _,Zb _,?_⟩
 have e:∀(L:List (List UInt8)) (n:Nat) (h:n+1<L.length),(L.take (n+1+1)).flatMap (fun x=>x++[10])=(L.take n).flatMap (fun x=>x++[10])++((L[n]++[10])++(L[n+1]++[10])):=by
  intro L n h
  have e2:L.take (n+1+1)=L.take n++([L[n]]++[L[n+1]]):=by
   rw[YI h,YI (by omega),Zz]
  rw[e2,Y8,Y8];simp
 unfold Xt.mid zSE;rw[YP (by rw[Zn];exact Nat.min_le_left _ _),show 2*(j+1)=2*j+1+1 by omega,e _ _ hx];simp[zB4]
theorem zSG (k j:Nat) {r:Rw.Row} (hr:Xt.T[k]?=some r) (h1:zCD k≤j) (h2:j≤zCD (k+1)):(j<zCD (k+1)↔j<3∧zSF j<r.1)∧(j<zCD (k+1)→k=Xt.A.length):=by
 have hA:∀i:Fin Xt.A.length,(Xt.T.getD i.val (0,0,[])).1≤44032:=by decide +kernel
 have hB:(Xt.T.getD Xt.A.length (0,0,[])).1=63744:=by decide +kernel
 have hg:Xt.T.getD k (0,0,[])=r:=by rw[Yz,hr];rfl
 unfold zCD at *;rcases Qj k Xt.A.length with h|h|h
 · have:=hA ⟨k,h⟩;rw[hg]at this;rw[Zl (by omega)]at h2;rw[Zl (by omega)];obtain rfl:j=0:=by omega
   unfold zSF;rw[Zl rfl];exact⟨by omega,fun h=>by omega⟩
 · have aa:r.1=63744:=by rw[←hg,h];exact hB
   rw[Zk (by omega)];refine⟨⟨fun hj=>⟨hj,?_⟩,fun hj=>hj.1⟩,fun _=>h⟩;rw[aa];unfold zSF;split
   · omega
   split <;> omega
 rw[Zk (by omega)]at h1;rw[Zk (by omega)]at h2 ⊢;exact⟨by omega,fun h=>by omega⟩
theorem zL0 (j:Nat) (hj:j<3):∃(c d:Nat) (nm:List UInt8) (x y:List UInt8),zCa[j*3]?=some (.int .i32 c)∧zCa[j*3+1]?=some (.int .i32 d)∧zCa[j*3+2]?=some (.string ⟨nm.toArray⟩)∧c≤1114111∧d≤1114111∧nm.length≤100∧(c:Int)=zSF j ∧
 zBG[2*j]?=some x∧zBG[2*j+1]?=some y∧zK9 c nm [70,105,114,115,116]=x++[10]∧zK9 d nm [76,97,115,116]=y++[10]:=by
 match j,hj with
 | 0,_=>exact⟨44032,55203,zTL,zTe,zTf,rfl,rfl,rfl,by decide,by decide,by decide,rfl,rfl,rfl,by decide +kernel,by decide +kernel⟩
 | 1,_=>exact⟨55296,56191,Xt.n1,Xt.f1,zTg,rfl,rfl,rfl,by decide,by decide,by decide,rfl,rfl,rfl,by decide +kernel,by decide +kernel⟩
 | 2,_=>exact⟨57344,63743,zTN,Xt.f2,zTh,rfl,rfl,rfl,by decide,by decide,by decide,rfl,rfl,rfl,by decide +kernel,by decide +kernel⟩
theorem Xt.mid_len (k j:Nat) (hj:j≤3):(Xt.mid k j).length≤1000000:=by
 have hf:∀r∈Xt.T,Rw.right r:=fun r hr=>by
  unfold Xt.T at hr;rcases List.mem_append.1 hr with h|h
  · exact (zGW r h).1
  exact (zFj r h).1
 have h1:=zCt ((Xt.T.take k).take Xt.A.length) fun r hr=>hf r (Z0 (Z0 hr))
 have h2:=zCt ((Xt.T.take k).drop Xt.A.length) fun r hr=>hf r (Z0 (Xh hr))
 have h3:(zSE j).length≤1000:=by
  match j,hj with
  | 0,_=>decide +kernel
  | 1,_=>decide +kernel
  | 2,_=>decide +kernel
  | 3,_=>decide +kernel
 have h4:((Xt.T.take k).take Xt.A.length).length≤121:=by rw[Zn,Zn,Xt.len];omega
 have h5:((Xt.T.take k).drop Xt.A.length).length≤121:=by rw[ZH,Zn,Xt.len];omega
 unfold Xt.mid;rw[Zc,Zc];omega
theorem zNA {w w':World} {A:Option Addr} {rs:List Rw.Row} (h:Rw.Tab w A rs) (hb:Below w.heap.size w w'):Rw.Tab w' A rs:=by
 obtain⟨ads,hl,hs,hm⟩:=h;exact⟨ads,hl,hs.below hb,hm.below hb⟩
theorem zGu {w w':World} {A:Option Addr} {rs:List Rw.Row} (h:Rw.Tab w A rs) (hk:Bd.Kept w w'):Rw.Tab w' A rs:=by
 obtain⟨ads,hl,hs,hm⟩:=h;exact⟨ads,hl,hk _ _ _ (by decide) (by decide) hs,fun i r a h1 h2=>hk _ _ _ (by decide) (by decide) (hm i r a h1 h2)⟩
theorem zQH {w:World} {A:Option Addr} {rs:List Rw.Row} (h:Rw.Tab w A rs) {i:Nat} {r:Rw.Row} (hr:rs[i]?=some r) :
 ∃(b o:Nat) (a:Option Addr × Nat),A=some ⟨b,o,none⟩∧b<w.heap.size∧w.cell? ⟨b,o+i*3,none⟩=some (.int .i32 r.1)∧w.cell? ⟨b,o+i*3+1,none⟩=some (.int .i64 r.2.1)∧w.cell? ⟨b,o+i*3+2,none⟩=some (.slice a.1 r.2.2.length a.2)∧Slt w 21 a.1 (r.2.2.map (Value.int .i32)):=by
 obtain⟨ads,hl,hs,hm⟩:=h;have hi:=(List.getElem?_eq_some_iff.1 hr).1;obtain⟨a,ha⟩:∃a,ads[i]?=some a:=⟨_,Zb (by omega)⟩;obtain⟨b,o,rfl,hb,hc⟩:=hs.sl (by rw[Rw.fl_len _ _ hl];omega);obtain⟨g0,g1,g2⟩:=Rw.fl_get rs ads i r a hr ha;have hlen:=Rw.fl_len rs ads hl;refine⟨b,o,a,rfl,hb,?_,?_,?_,hm i r a hr ha⟩
 · rw[hc _ (by omega),g0]
 · rw[Yi,hc _ (by omega),g1]
 rw[Yi,hc _ (by omega),g2]
theorem zDn {w w':World} {b D:Nat} {bs:List Value} (h:Bd.At w b D bs) (hb:Below w.heap.size w w'):Bd.At w' b D bs:=by
 obtain⟨p,v,h1,h2,h3⟩:=h;exact⟨p,v,h1,h2.below hb,zA6 h3 hb (Za _)⟩
theorem zP5 (w:World) (hL:Rw.Laid w):Calls prog 24 #[] w fun e w'=>e=.returned (.string ⟨Xt.text.toArray⟩)∧Below w.heap.size w w':=by
 obtain⟨wa,cp⟩:∃wa,w.alloc (.cells #[.pointer none,.slice none 0 0] 98)=wa:=⟨_,rfl⟩;have eh:Below w.heap.size w wa:=by rw[←cp];exact (Zd _ _).alloc (Za _) _
 have ej:Rw.At wa w.heap.size 98 [.pointer none,.slice none 0 0]:=by rw[←cp];exact Rw.At.new w 98 [.pointer none,.slice none 0 0]
 have e9:=hy' cp;have dn:=hy' eh;have fm:=hy' ej;have HL:=hy' hL;clear cp eh ej hL;go_enter func24,ntmps24;go_upto_region 2 with (fail)
 rw[e9.o];go_wp2_with fail;refine (zNz wa).mono ?_;rintro e w1 ⟨rfl,b9,bj⟩;have cw:Hy (Slt w1 105 (some ⟨wa.heap.size,0,none⟩) zCa):=hy' fun _=>⟨wa.heap.size,0,_,rfl,b9,fun i _=>by simp⟩
 have c8:=hy' bj;clear b9 bj;go_wp2_with fail;refine (zNy w1).mono ?_;rintro e w2 ⟨A2,c2,rfl,aj,ck⟩;rw[Xt.len];have dk:=hy' aj;have dm:=hy' (cw.o.below ck);have b2:=hy' ((fm.o.below c8.o).below ck);have ek:=hy' (dn.o.trans ((c8.o.trans (ck.mono c8.o.size)).mono dn.o.size));have bk:w.heap.size<w2.heap.size:=b2.o.lt;clear aj ck;go_wp2_with fail;go_loopw [2,8] (fun v2 i wr=>∃(k:Nat) (A':Option Addr) (c':Nat),k≤121∧i=.int .i64 k∧v2=.slice A' (3-zCD k) c'∧3-zCD k≤c'∧(zCD k<3→A'=some ⟨wa.heap.size,zCD k*3,none⟩)∧Bd.At wr w.heap.size w2.heap.size (Lib.byteCells (Xt.mid k (zCD k)))∧Rw.Tab wr A2 Xt.T∧Slt wr 105 (some ⟨wa.heap.size,0,none⟩) zCa∧Below w.heap.size w2 wr) (fun _ i _=>121-(intOf i).toNat)
 case atStart =>
  refine⟨0,_,3,Zq _,rfl,rfl,by decide,fun _=>rfl,?_,dk.o,dm.o,Zd _ _⟩;exact⟨_,_,.inl rfl,b2.o,ZG _ _ _ _⟩
 obtain⟨k,A',c',hk,rfl,rfl,bz,af,a1,aj,dc,aq⟩:=hrel;obtain⟨w5,rfl⟩:∃w5:World,w5=wr:=⟨_,rfl⟩;have ee:w2.heap.size≤w5.heap.size:=aq.size
 by_cases hlt:k<121
 rotate_left
 · obtain rfl:k=121:=by omega
   have kI:¬((121:Nat):Int)<121:=by omega
   have hj:zCD 121=3:=rfl;rw[hj,Xt.mid_all]at a1
   have du:Lib.IsBuilder 98 5 w.heap.size w.heap.size (Lib.byteCells Xt.text) w5:=by
    obtain⟨p,v,h1,h2,h3⟩:=a1;have h4:Lib.BuilderAt 98 5 w.heap.size w.heap.size p (Lib.byteCells Xt.text) w5:=⟨Za _,v,h2,zFI h3 (by omega),zBq h3 _ (by omega)⟩;rcases h1 with rfl|rfl
    · exact .inl h4
    exact .inr h4
   have c7:=Tryz.Builder_String_any w.heap.size w.heap.size Xt.text w5 du (by omega);have HB:=hy' (ek.o.trans aq);clear a1 dc aq du aj af;obtain⟨TX,cx⟩:∃y,Xt.text=y:=⟨_,rfl⟩;rw[cx]at c7;have ep:=hy' cx;clear cx;go_wp2_with fail;refine c7.mono ?_;rintro e w4 ⟨rfl,dr⟩;have eu:=hy' (HB.o.trans dr);clear dr c7;go_wp2_with fail;go_ret;rw[ep.o];exact⟨rfl,eu.o⟩
 obtain⟨r,hr⟩:∃r,Xt.T[k]?=some r:=⟨_,Zb (by rw[Xt.len];exact hlt)⟩;have ei:=fun j=>zSG k j hr
 have b1:=zQG hr
 have ew:Rw.right r:=by
  have hm:=Zj hr;unfold Xt.T at hm;rcases List.mem_append.1 hm with h|h
  · exact (zGW r h).1
  exact (zFj r h).1
 obtain⟨f1,f2,f3,f4,f5,f6⟩:=ew;obtain⟨b,o,a,e8,hb,c0,c1,c2,dp⟩:=zQH aj hr;obtain⟨ml,bn⟩:∃q,r.2.2.length=q:=⟨_,rfl⟩;rw[bn]at c2 f5;have kI:(k:Int)<121:=by omega
 have k0:(0:Int)≤k:=by omega
 obtain⟨wb,cf⟩:∃wb,w5.alloc (.cells #[.int .i32 r.1,.int .i64 r.2.1,.slice a.1 ml a.2] 103)=wb:=⟨_,rfl⟩;have br:Below w5.heap.size w5 wb:=by rw[←cf];exact (Zd _ _).alloc (Za _) _
 have dt:Slt wb 103 (some ⟨w5.heap.size,0,none⟩) [.int .i32 r.1,.int .i64 r.2.1,.slice a.1 ml a.2]:=fun _=>⟨w5.heap.size,0,_,rfl,by rw[←cf];exact ZW w5 _,fun i _=>by simp⟩
 have dv:=dp.below br;have e4:=hy' cf;have fp:=hy' dt;have fg:=hy' dv;have et:=hy' (zNA aj br);have fk:=hy' (dc.below br);have ct:=hy' (zDn a1 br);have fe:=hy' (aq.trans (br.mono (Zh (Z5 bk) ee)));have fy:w2.heap.size≤wb.heap.size:=Zh ee br.size;have ed:zCD k≤zCD (k+1):=by unfold zCD;split <;> split <;> omega
 have dx:=hy' ei;have dw:=hy' b1;have b5:=hy' bn;have HJ:=hy' ed;have ft:=hy' af;have fq:=hy' bz;subst e8;clear ei b1 cf dt dv aj dc a1 br aq dp bn ed hr af bz;go_upto_region 6 with (fail)
 rw[e4.o];clear c0 c1 c2
 go_loopw [2] (fun v2 wi=>∃(j:Nat) (A':Option Addr) (c':Nat),zCD k≤j∧j≤zCD (k+1)∧v2=.slice A' (3-j) c'∧3-j≤c'∧(j<3→A'=some ⟨wa.heap.size,j*3,none⟩)∧Bd.At wi w.heap.size w2.heap.size (Lib.byteCells (Xt.mid k j))∧Rw.Tab wi (some ⟨b,o,none⟩) Xt.T∧Slt wi 105 (some ⟨wa.heap.size,0,none⟩) zCa ∧
  Slt wi 103 (some ⟨w5.heap.size,0,none⟩) [.int .i32 r.1,.int .i64 r.2.1,.slice a.1 ml a.2]∧Slt wi 21 a.1 (r.2.2.map (Value.int .i32))∧Below w.heap.size w2 wi∧wb.heap.size≤wi.heap.size) (fun v2 _=>match v2 with | .slice _ n _=>n|_=>0)
 case atStart=>exact⟨_,_,_,Za _,HJ.o,rfl,fq.o,ft.o,ct.o,et.o,fk.o,fp.o,fg.o,fe.o,Za _⟩
 obtain⟨j,A',c',er,en,rfl,bz,af,bl,av,ap,ay,bp,ah,e6⟩:=hrel;obtain⟨wi,rfl⟩:∃wi:World,wi=wr:=⟨_,rfl⟩;obtain⟨g1,g2⟩:=dx.o j er en;obtain⟨bb,ob,bh,a7,bu⟩:=ay.sl (by simp);simp only[Zg,YH,Yl]at bh;obtain⟨rfl,rfl⟩:=bh;have r0:=bu 0 (by simp);have r1:=bu 1 (by simp);have r2:=bu 2 (by simp);simp only[YX,YY,Z4,YQ]at r0 r1 r2;obtain⟨m3,cy⟩:∃m,3-j=m:=⟨_,rfl⟩;rw[cy]at bz ⊢;have bo:=hy' bl;have az:=hy' av;have bg:=hy' ap;have dl:=hy' ay;have b4:=hy' bp;have aw:=hy' ah;have bx:=hy' (ek.o.trans ah);have ao:w2.heap.size≤wi.heap.size:=ah.size
 by_cases hon:j<zCD (k+1)
 · obtain⟨cq,cb⟩:=g1.1 hon;have di:=g2 hon;obtain⟨x',y',dy,ef,bs⟩:=zRZ k j di cq;obtain⟨c,d,nm,x,y,s0,s1,s2,hc,hd,cj,b3,hx,hy,ea,dz⟩:=zL0 j cq;rw[dy]at hx;rw[ef]at hy;simp only[Zg]at hx hy;subst hx;subst hy;obtain rfl:=af cq;rw[←ea,←dz]at bs;rw[←b3]at cb;obtain⟨sb,so,bh,e7,bt⟩:=ap.sl (by decide);simp only[Zg,YH,Yl]at bh;obtain⟨rfl,rfl⟩:=bh;have q0:=bt (j*3) (by show j*3<9;omega);have q1:=bt (j*3+1) (by show j*3+1<9;omega);have q2:=bt (j*3+2) (by show j*3+2<9;omega);rw[s0,Z4]at q0;rw[s1,Z4]at q1;rw[s2,Z4]at q2;have mN:0<m3:=by omega
   have fz:=hy' di;have e5:=hy' s0;have ey:=hy' s1;have eo:=hy' s2;have cr:=hy' bs;have fc:nm.toArray.size≤100:=by simpa using cj
   clear bl av ap ay bp ah g1 g2 dy ef ea dz b3 bt bu s0 s1 s2 bs di dx dw;go_upto_region 6 with (fail)
   go_quiet (fail);go_upto_region 7 with (fail)
   obtain⟨wj,ax⟩:∃wj,wi.drewN nq=wj:=⟨_,rfl⟩;have aa:Below wi.heap.size wi wj.drew:=by rw[←ax];exact (below_drewN (Zd _ wi) nq).drew
   rw[ax];clear ax;have cv:=hy' (bg.o.below aa);have cu:=hy' (zDn bo.o aa);have bq:=hy' (bx.o.trans (aa.mono bx.o.size));have e0:=zFl cv.o (by decide) (by decide) e5.o;have e1:=zFl cv.o (by decide) (by decide) ey.o;have e2:=zFl cv.o (by decide) (by decide) eo.o;rw[Z4]at e0 e1 e2;obtain⟨n1,cg⟩:∃y:ByteArray,⟨nm.toArray⟩=y:=⟨_,rfl⟩;obtain⟨t1,ch⟩:∃y:ByteArray,⟨(zK9 c nm [70,105,114,115,116]).toArray⟩=y:=⟨_,rfl⟩;obtain⟨t2,cn⟩:∃y:ByteArray,⟨(zK9 d nm [76,97,115,116]).toArray⟩=y:=⟨_,rfl⟩
   have e3:Hy (∀W,Below w.heap.size w W→Calls prog 51 #[.agg #[.int .i32 c,.int .i32 d,.string n1],.int .i32 c,.string ⟨#[70,105,114,115,116]⟩] W fun e w'=>e=.returned (.string t1)∧Below W.heap.size W w'):=hy' fun W hW=>by
    have:=Xt.line_any c d c nm [70,105,114,115,116] W hc cj (by decide) ((HL.o.next hW).1);rw[cg,ch]at this;exact this
   have fh:Hy (∀W,Below w.heap.size w W→Calls prog 51 #[.agg #[.int .i32 c,.int .i32 d,.string n1],.int .i32 d,.string ⟨#[76,97,115,116]⟩] W fun e w'=>e=.returned (.string t2)∧Below W.heap.size W w'):=hy' fun W hW=>by
    have:=Xt.line_any c d d nm [76,97,115,116] W hd cj (by decide) ((HL.o.next hW).1);rw[cg,cn]at this;exact this
   have fu:t1.size≤300:=by
    rw[←ch,zAA];have:=zAI c hc;unfold zK9;simp;omega
   have ez:t2.size≤300:=by
    rw[←cn,zAA];have:=zAI d hd;unfold zK9;simp;omega
   have ae:Lib.byteCells (Xt.mid k (j+1))=Lib.byteCells (Xt.mid k j)++Lib.strCells (t1++t2):=by
    rw[cr.o,←ch,←cn,zAO];unfold Lib.byteCells Lib.strCells;simp
   have ag:(Lib.byteCells (Xt.mid k j)).length+600≤140737488355328:=by
    have:(Lib.byteCells (Xt.mid k j)).length=(Xt.mid k j).length:=by unfold Lib.byteCells;simp
    have h2:=Xt.mid_len k j (by omega);omega
   have cd:=hy' ae;have ba:=hy' ag;have c1:¬9223372036854775807<t1.size+t2.size:=by omega
   rw[cg]at e2;have fw:w2.heap.size≤wj.drew.heap.size:=Zh ao aa.size;have au:=hy' aa;clear ch cn cg ae ag aa;refine Stg.wp_region (by kernel_rfl) Bd.Kept zJU ?_
   (iterate 2 (refine Stg.readW (by kernel_rfl) ?_;intro K hK;go_big_quiet_op;go_big_quiet_on))
   refine Stg.read 0 (by kernel_rfl) wj.drew rfl ?_;intro K hK;go_big_quiet_op;go_big_quiet_on
   (iterate 3 (refine Stg.readW (by kernel_rfl) ?_;intro K hK;go_big_quiet_op;go_big_quiet_on))
   refine Stg.read 0 (by kernel_rfl) wj.drew rfl ?_;intro K hK;go_big_quiet_op;go_big_quiet_on;refine Stg.call 51 _ _ rfl func51 [.agg #[.int .i32 c,.int .i32 d,.string n1],.int .i32 c,.string ⟨#[70,105,114,115,116]⟩] rfl wj.drew _ (e3.out _ bq.o) (by kernel_rfl) rfl ?_;rintro e q1 ⟨rfl,hb⟩;refine⟨_,rfl,zGX hb,?_⟩;have ak:=hy' hb;clear hb;intro A' af;simp only[Act.put,Zm,ZA,Zx]at af;subst af
   (iterate 2 (refine Stg.readW (by kernel_rfl) ?_;intro K hK;go_big_quiet_op;go_big_quiet_on))
   refine Stg.read 1 (by kernel_rfl) wj.drew rfl ?_;intro K hK;go_big_quiet_op;go_big_quiet_on
   (iterate 3 (refine Stg.readW (by kernel_rfl) ?_;intro K hK;go_big_quiet_op;go_big_quiet_on))
   refine Stg.read 1 (by kernel_rfl) wj.drew rfl ?_;intro K hK;go_big_quiet_op;go_big_quiet_on;refine Stg.call 51 _ _ rfl func51 [.agg #[.int .i32 c,.int .i32 d,.string n1],.int .i32 d,.string ⟨#[76,97,115,116]⟩] rfl q1 _ (fh.out _ (bq.o.trans (ak.o.mono bq.o.size))) (by kernel_rfl) rfl ?_;rintro e q2 ⟨rfl,hb⟩;refine⟨_,rfl,zGX hb,?_⟩;have cc:=hy' (ak.o.trans (hb.mono ak.o.size));clear hb;intro A' af;simp only[Act.put,Zm,ZA,Zx]at af;subst af
   refine Stg.readW (by kernel_rfl) ?_;intro K hK;go_big_quiet_op;go_big_quiet_on;have b6:=zDn cu.o cc.o;have ar:=zGS w.heap.size w2.heap.size _ (t1++t2) q2 bk (Zh fw cc.o.size) b6 (by rw[ZS];have:=ba.o;omega);rw[←cd.o]at ar;refine Stg.call 50 _ _ rfl func50 [.pointer (some ⟨w.heap.size,0,none⟩),.string (t1++t2)] rfl q2 _ (ar) (by kernel_rfl) rfl ?_;rintro e q3 ⟨rfl,ai,bc,bf⟩;refine⟨_,rfl,bc,?_⟩;intro A' af;simp only[Act.put,Zm,ZA,Zx]at af;subst af;refine Stg.nil q3 rfl ?_;have bi:Bd.Kept wi q3:=fun t A xs g1 g2 hs=>bc t A xs g1 g2 ((hs.below au.o).below cc.o)
   have a6:=hy' ai;have a8:=hy' bi;have b8:=hy' (aw.o.trans (((au.o.trans (cc.o.mono au.o.size)).mono (Zh (Z5 bk) ao)).trans bf));have fo:wb.heap.size≤q3.heap.size:=Zh e6 (Zh (au.o.trans (cc.o.mono au.o.size)).size bf.size);clear ai bc bf bi b6 ar e0 e1 e2;go_wp2_with fail;refine⟨⟨j+1,_,_,by omega,by omega,by rw[show 3-(j+1)=m3-1 by omega],by omega,fun hh=>?_,a6.o,zGu az.o a8.o,a8.o _ _ _ (by decide) (by decide) bg.o,a8.o _ _ _ (by decide) (by decide) dl.o,a8.o _ _ _ (by decide) (by decide) b4.o,b8.o,fo⟩,?_⟩
   · rw[Zk (by omega),show (j+1)*3=j*3+3 by omega]
   show m3-1<m3;omega
 have bm:zCD (k+1)=j:=by omega
 have b1:=dw.o;rw[bm]at b1;obtain⟨tx,cm⟩:∃y:ByteArray,⟨(Rw.line r).toArray⟩=y:=⟨_,rfl⟩
 have eg:Hy (∀W,Below w.heap.size w W→Below wi.heap.size wi W→Calls prog 52 #[.agg #[.int .i32 r.1,.int .i64 r.2.1,.slice a.1 ml a.2]] W fun e w'=>e=.returned (.string tx)∧Below W.heap.size W w'):=hy' fun W hW hV=>by
  have:=zNx r.1 r.2.1 a.1 r.2.2 ml a.2 W.heap.size W f1 f2 f3 f4 b5.o f5 f6 (Za _) ((b4.o.below hV).sl) (HL.o.next hW);rw[show (r.1,r.2.1,r.2.2)=r from rfl,cm]at this;exact this
 have fu:tx.size≤1000:=by
  rw[←cm,zAA];exact zGn r ⟨f1,f2,f3,f4,by rw[b5.o];exact f5,f6⟩
 have ae:Lib.byteCells (Xt.mid (k+1) j)=Lib.byteCells (Xt.mid k j)++Lib.strCells (tx++⟨#[10]⟩):=by
  rw[b1,←cm,show (⟨#[10]⟩:ByteArray)=⟨[10].toArray⟩ from rfl,zAO];unfold Lib.byteCells Lib.strCells;simp
 have ag:(Lib.byteCells (Xt.mid k j)).length+2000≤140737488355328:=by
  have:(Lib.byteCells (Xt.mid k j)).length=(Xt.mid k j).length:=by unfold Lib.byteCells;simp
  have h2:=Xt.mid_len k j (by have:zCD (k+1)≤3:=by { unfold zCD;split <;> omega };omega);omega
 have cd:=hy' ae;have ba:=hy' ag;have eb:=hy' bm;have fj:=hy' af;have ec:=hy' bz;have bw:=hy' cy;have s1:(⟨#[10]⟩:ByteArray).size=1:=rfl;have c1:¬9223372036854775807<tx.size+(⟨#[10]⟩:ByteArray).size:=by omega
 have cq:j≤3:=by
  have:zCD (k+1)≤3:=by { unfold zCD;split <;> omega }
  omega
 have cb:=fun h=>fun h2=>hon (g1.2 ⟨h,h2⟩)
 clear ae ag cm b1 bl av bp ah g1 g2 bz cy bm
 by_cases hj:j<3
 · obtain⟨c,d,nm,x,y,s0,_,_,hc,hd,cj,b3,_,_,_,_⟩:=zL0 j hj;have fx:=cb hj;rw[←b3]at fx;obtain⟨sb,so,bh,e7,bt⟩:=ap.sl (by decide);simp only[Zg,YH,Yl]at bh;obtain⟨rfl,rfl⟩:=bh;have q0:=bt (j*3) (by show j*3<9;omega);rw[s0,Z4]at q0;obtain rfl:=af hj;have mN:0<m3:=by have:=bw.o;omega
   clear af cb ap ay b3 bt s0 bu;go_upto_region 6 with (fail)
   go_quiet (fail);obtain⟨wj,ax⟩:∃wj,wi.drewN nq=wj:=⟨_,rfl⟩;have aa:Below wi.heap.size wi wj:=by rw[←ax];exact below_drewN (Zd _ wi) nq
   have cz:=((zAU aa).1 _ 0 a7).trans r0;have c6:=((zAU aa).1 _ 1 a7).trans r1;have df:=((zAU aa).1 _ 2 a7).trans r2;have dh:=Zf a7 aa.size;have b7:=eg.out wj (bx.o.trans (aa.mono bx.o.size)) aa;have au:=hy' aa;rw[ax];clear ax aa r0 r1 r2 a7;go_wp2_with fail;refine b7.mono ?_;rintro e q1 ⟨rfl,bj⟩;have ak:=hy' (au.o.trans (bj.mono au.o.size));have ar:=zGS w.heap.size w2.heap.size _ (tx++⟨#[10]⟩) q1 bk (Zh ao ak.o.size) (zDn bo.o ak.o) (by rw[ZS];have:=ba.o;omega);rw[←cd.o]at ar;clear bj b7 cz c6 df;go_wp2_with fail;refine ar.mono ?_;rintro e q3 ⟨rfl,ai,bc,bf⟩;have bi:Bd.Kept wi q3:=fun t A xs g1 g2 hs=>bc t A xs g1 g2 (hs.below ak.o)
   have a6:=hy' ai;have a8:=hy' bi;have b8:=hy' (aw.o.trans ((ak.o.mono (Zh (Z5 bk) ao)).trans bf));clear ai bc bf bi ar;go_wp2_with fail;have bm:=eb.o;subst bm;refine⟨⟨k+1,_,_,by omega,by go_num,by rw[bw.o],by rw[bw.o];exact ec.o,fun _=>rfl,a6.o,zGu az.o a8.o,a8.o _ _ _ (by decide) (by decide) bg.o,b8.o⟩,by simp[intOf];omega⟩
 have mN:¬0<m3:=by have:=bw.o;omega
 obtain rfl:m3=0:=by omega
 clear af cb ap ay bu;go_upto_region 6 with (fail)
 go_quiet (fail);obtain⟨wj,ax⟩:∃wj,wi.drewN nq=wj:=⟨_,rfl⟩;have aa:Below wi.heap.size wi wj:=by rw[←ax];exact below_drewN (Zd _ wi) nq
 have cz:=((zAU aa).1 _ 0 a7).trans r0;have c6:=((zAU aa).1 _ 1 a7).trans r1;have df:=((zAU aa).1 _ 2 a7).trans r2;have dh:=Zf a7 aa.size;have b7:=eg.out wj (bx.o.trans (aa.mono bx.o.size)) aa;have au:=hy' aa;rw[ax];clear ax aa r0 r1 r2 a7;go_wp2_with fail;refine b7.mono ?_;rintro e q1 ⟨rfl,bj⟩;have ak:=hy' (au.o.trans (bj.mono au.o.size));have ar:=zGS w.heap.size w2.heap.size _ (tx++⟨#[10]⟩) q1 bk (Zh ao ak.o.size) (zDn bo.o ak.o) (by rw[ZS];have:=ba.o;omega);rw[←cd.o]at ar;clear bj b7 cz c6 df;go_wp2_with fail;refine ar.mono ?_;rintro e q3 ⟨rfl,ai,bc,bf⟩;have bi:Bd.Kept wi q3:=fun t A xs g1 g2 hs=>bc t A xs g1 g2 (hs.below ak.o)
 have a6:=hy' ai;have a8:=hy' bi;have b8:=hy' (aw.o.trans ((ak.o.mono (Zh (Z5 bk) ao)).trans bf));clear ai bc bf bi ar;go_wp2_with fail;have bm:=eb.o;subst bm;refine⟨⟨k+1,_,_,by omega,by go_num,by rw[bw.o],by rw[bw.o];exact ec.o,fj.o,a6.o,zGu az.o a8.o,a8.o _ _ _ (by decide) (by decide) bg.o,b8.o⟩,by simp[intOf];omega⟩
def zGY:List Int:=[2392,2394,10972,10973,64285,64286,64287,64288,119134,119135]
theorem zM5:C.ok zGY:=⟨by unfold C.srt zGY;decide,by unfold zGY;decide,by decide⟩
theorem zJV:zCI (zAN zGY)=zIF:=by decide +kernel
theorem zTk:zDQ=zGY:=by
 have h:=zLo zM5 fun d hd=>by
  have h1:zR6 (zAN zGY) d=true:=by rw[zHb zGY zM5 d];exact hd
  have h2:=(zKC _ d).2 h1;rw[zJV]at h2;exact zRX d h2
 rw[zJV]at h;exact h
theorem zP6 (w:World) (hL:Rw.Laid w):Calls prog 25 #[] w fun e w'=>e=.returned (.string ⟨(zAk zIF).toArray⟩)∧Below w.heap.size w w':=by
 obtain⟨wa,ae⟩:∃wa,w.alloc (.cells #[.int .i32 2392,.int .i32 2393,.int .i32 10972,.int .i32 64285,.int .i32 64287,.int .i32 119134] 21)=wa:=⟨_,rfl⟩;have ah:Below w.heap.size w wa:=by rw[←ae];exact (Zd _ _).alloc (Za _) _
 have ai:Sl wa wa.heap.size (some ⟨w.heap.size,0,none⟩) (zIF.map (Value.int .i32)):=Sl.lit rfl 21 (0,0) (by rw[←ae];exact ZW w _);have hC:=zDb (some ⟨w.heap.size,0,none⟩) 6 6 wa.heap.size zIF wa rfl (by decide) (Za _) ai;have ao:C.chars zIF=zGY:=zTk;rw[ao]at hC;have aq:=hy' ae;have ag:=hy' ah;have HL:=hy' hL;clear ae ah ai ao hL;go_enter func25,ntmps25;go_upto_region 1 with (fail)
 go_wp2_with (first|(go_at_call 55;rw[aq.o];refine hC.mono ?_;rintro e w1 ⟨A1,c1,rfl,aa,aj⟩;have HO:=hy' (Slt.of_own aa);have af:=hy' (ag.o.trans (aj.mono ag.o.size));clear aa aj)|(go_at_call 54;refine (Ex.text_any _ _ 10 zGY zIF _ rfl (by decide) zM5 zJV zRX (by decide) HO.o (HL.o.next af.o).1).mono ?_;rintro e w2 ⟨rfl,ak⟩;have ap:=hy' (af.o.trans (ak.mono af.o.size));clear ak)|fail);go_ret;exact⟨rfl,ap.o⟩
theorem zSH (v:Value) (w:World):(binOp .eql 58 .nilIface (.iface 156 v)).run prog w=.ok (.bool false) w:=run_eql_iface_nil_left (P:=prog) w 156 v underlying58
theorem zS0 (b:Nat) (w:World):Calls prog 26 #[.nilIface,.iface 156 (.pointer (some ⟨b,0,none⟩))] w fun e w'=>e=.returned (.bool false)∧w=w':=by
 have hn:=zSH (.pointer (some ⟨b,0,none⟩));go_enter func26,ntmps26;go_wp2_with fail;go_ret;exact⟨rfl,rfl⟩
theorem zJW (w:World) (hL:Rw.Laid w):Calls prog 9 #[] w fun e w'=>∃p,e=.returned p∧Ud.Is w' p Xt.T zDQ∧Below w.heap.size w w':=by
 have au:=hy' (zP5 w hL);have aj:=hy' (fun W (hW:Below w.heap.size w W)=>zP6 W (hL.next hW))
 have ap:Hy (∀W,Below w.heap.size w W→Calls prog 23 #[.string ⟨Xt.text.toArray⟩,.string ⟨(zAk zIF).toArray⟩] W (zIC Xt.T zDQ W)):=hy' fun W hW =>
  zJM _ _ (by rw[zAA];have:=Xt.text_len;omega) (by rw[zAA];have:=zDl zIF (fun c hc=>Ud.isC_bd (zRX c hc));have h2:zIF.length=6:=rfl;omega) Xt.T zIF Xt.parse zRY Xt.ok Xt.bd W (hL.next hW)
 obtain⟨s1,ai⟩:∃y:ByteArray,⟨Xt.text.toArray⟩=y:=⟨_,rfl⟩;obtain⟨s2,ag⟩:∃y:ByteArray,⟨(zAk zIF).toArray⟩=y:=⟨_,rfl⟩;rw[ai]at au;simp only[ag]at aj;simp only[ai,ag]at ap;clear ai ag hL;go_enter func9,ntmps9;go_wp2_with fail;refine au.o.mono ?_;rintro e w1 ⟨rfl,ak⟩;have aa:=hy' ak;clear ak;go_wp2_with fail;refine (aj.o w1 aa.o).mono ?_;rintro e w2 ⟨rfl,av⟩;have ah:=hy' (aa.o.trans (av.mono aa.o.size));clear av;go_wp2_with fail;refine (ap.o w2 ah.o).mono ?_;rintro e w3 ⟨p,rfl,ar,aq⟩;have ax:=hy' ar;have ao:=hy' (ah.o.trans (aq.mono ah.o.size));clear ar aq;go_wp2_with fail;refine (F.of_any 8 w3).mono ?_;rintro e w4 ⟨q,v,rfl,hq,ay,ae⟩;rw[Zk (by decide)]at hq
 obtain⟨⟨b,c,n,s⟩,q',rfl⟩:∃x q',q=x::q':=by
  cases q with
  | nil=>simp[F.lk]at hq
  | cons x q'=>exact⟨x,q',rfl⟩
 obtain⟨rfl,_⟩:=ay;have af:=hy' (ax.o.below ae);have aw:=hy' (ao.o.trans (ae.mono ao.o.size));clear ae hq;go_wp2_with fail;refine (zS0 _ w4).mono ?_;rintro e w5 ⟨rfl,rfl⟩;go_wp2_with fail;go_ret;exact⟨_,rfl,af.o,aw.o⟩
end Go.Proofs.YtdbpjmfflofadaaGreatDoor
