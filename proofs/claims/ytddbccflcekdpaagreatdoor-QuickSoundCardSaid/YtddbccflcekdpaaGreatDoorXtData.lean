/- The layer extract in plain words: its rows, its lines, and that they are read back and may be. (Printed by wip/genext.py.) -/
import Derived.Test.YtddbccflcekdpaaGreatDoorSlCut
import Derived.Test.YtddbccflcekdpaaGreatDoorRwPLine
set_option maxRecDepth 100000
set_option maxHeartbeats 4000000
set_option linter.unusedVariables false
set_option linter.unusedSimpArgs false
namespace Go.Proofs.YtddbccflcekdpaaGreatDoor
open Go.Proofs.Tryz
open Go.RowKit
def Xt.A:List Rw.Row:=[(192,0,[65,768]),(193,0,[65,769]),(194,0,[65,770]),(195,0,[65,771]),(196,0,[65,776]),(197,0,[65,778]),(199,0,[67,807]),(200,0,[69,768]),(201,0,[69,769]),(202,0,[69,770]),(203,0,[69,776]),(209,0,[78,771]),(214,0,[79,776]),(220,0,[85,776]),(224,0,[97,768]),(225,0,[97,769]),(226,0,[97,770]),(228,0,[97,776]),(229,0,[97,778]),(231,0,[99,807]),(233,0,[101,769]),(234,0,[101,770]),(241,0,[110,771]),(244,0,[111,770]),(246,0,[111,776]),(252,0,[117,776]),(258,0,[65,774]),(259,0,[97,774]),(346,0,[83,769]),(347,0,[115,769]),(350,0,[83,807]),(469,0,[220,772]),(471,0,[220,769]),(478,0,[196,772]),(506,0,[197,769]),(768,230,[]),(769,230,[]),(770,230,[]),(771,230,[]),(772,230,[]),(774,230,[]),(775,230,[]),(776,230,[]),(778,230,[]),(787,230,[]),(795,216,[]),(803,220,[]),(807,202,[]),(808,202,[]),(817,220,[]),(824,1,[]),(832,230,[768]),(833,230,[769]),(835,230,[787]),(836,230,[776,769]),(837,240,[]),(884,0,[697]),(894,0,[59]),(901,0,[168,769]),(903,0,[183]),(940,0,[945,769]),(942,0,[951,769]),(1460,14,[]),(1463,17,[]),(2345,0,[2344,2364]),(2353,0,[2352,2364]),(2356,0,[2355,2364]),(2364,7,[]),(2381,9,[]),(2392,0,[2325,2364]),(2393,0,[2326,2364]),(2507,0,[2503,2494]),(2508,0,[2503,2519]),(3953,129,[]),(3954,130,[]),(3955,0,[3953,3954]),(3956,132,[]),(3957,0,[3953,3956]),(3958,0,[4018,3968]),(3968,130,[]),(3969,0,[3953,3968]),(7688,0,[199,769]),(7690,0,[68,775]),(7691,0,[100,775]),(7692,0,[68,803]),(7693,0,[100,803]),(7776,0,[83,775]),(7777,0,[115,775]),(7778,0,[83,803]),(7779,0,[115,803]),(7780,0,[346,775]),(7781,0,[347,775]),(7784,0,[7778,775]),(7785,0,[7779,775]),(7835,0,[383,775]),(7840,0,[65,803]),(7841,0,[97,803]),(7852,0,[7840,770]),(7853,0,[7841,770]),(7862,0,[7840,774]),(7863,0,[7841,774]),(8192,0,[8194]),(8193,0,[8195]),(8486,0,[937]),(8490,0,[75]),(8491,0,[197]),(8800,0,[61,824]),(8814,0,[60,824]),(10972,0,[10973,824]),(12364,0,[12363,12441]),(12400,0,[12399,12441]),(12401,0,[12399,12442]),(12441,8,[]),(12442,8,[])]
def Xt.B:List Rw.Row:=[(63744,0,[35912]),(64285,0,[1497,1460]),(64287,0,[1522,1463]),(69786,0,[69785,69818]),(69818,7,[]),(119134,0,[119127,119141]),(119141,216,[])]
def Xt.T:List Rw.Row:=Xt.A++Xt.B
def zIl:List Int:=[2392,2393,10972,64285,64287,119134]
def zSK:List UInt8:=[72,97,110,103,117,108,32,83,121,108,108,97,98,108,101]
def zSh:List UInt8:=[65,67,48,48,59,60,72,97,110,103,117,108,32,83,121,108,108,97,98,108,101,44,32,70,105,114,115,116,62,59,59,48,59,59,59,59,59,59,59,59,59,59,59]
def zSi:List UInt8:=[68,55,65,51,59,60,72,97,110,103,117,108,32,83,121,108,108,97,98,108,101,44,32,76,97,115,116,62,59,59,48,59,59,59,59,59,59,59,59,59,59,59]
def zSL:List UInt8:=[60,72,97,110,103,117,108,32,83,121,108,108,97,98,108,101,44,32,70,105,114,115,116,62]
def Xt.n1:List UInt8:=[78,111,110,32,80,114,105,118,97,116,101,32,85,115,101,32,72,105,103,104,32,83,117,114,114,111,103,97,116,101]
def Xt.f1:List UInt8:=[68,56,48,48,59,60,78,111,110,32,80,114,105,118,97,116,101,32,85,115,101,32,72,105,103,104,32,83,117,114,114,111,103,97,116,101,44,32,70,105,114,115,116,62,59,59,48,59,59,59,59,59,59,59,59,59,59,59]
def zSj:List UInt8:=[68,66,55,70,59,60,78,111,110,32,80,114,105,118,97,116,101,32,85,115,101,32,72,105,103,104,32,83,117,114,114,111,103,97,116,101,44,32,76,97,115,116,62,59,59,48,59,59,59,59,59,59,59,59,59,59,59]
def Xt.w1:List UInt8:=[60,78,111,110,32,80,114,105,118,97,116,101,32,85,115,101,32,72,105,103,104,32,83,117,114,114,111,103,97,116,101,44,32,70,105,114,115,116,62]
def zSM:List UInt8:=[80,114,105,118,97,116,101,32,85,115,101]
def Xt.f2:List UInt8:=[69,48,48,48,59,60,80,114,105,118,97,116,101,32,85,115,101,44,32,70,105,114,115,116,62,59,59,48,59,59,59,59,59,59,59,59,59,59,59]
def zSk:List UInt8:=[70,56,70,70,59,60,80,114,105,118,97,116,101,32,85,115,101,44,32,76,97,115,116,62,59,59,48,59,59,59,59,59,59,59,59,59,59,59]
def Xt.w2:List UInt8:=[60,80,114,105,118,97,116,101,32,85,115,101,44,32,70,105,114,115,116,62]
def zBF:List (List UInt8):=[zSh,zSi,Xt.f1,zSj,Xt.f2,zSk]
def Xt.text:List UInt8:=zB2 Xt.A++((zBF.flatMap fun x=>x++[10])++zB2 Xt.B)
def zIm (r:Rw.Row):Bool:=decide (0≤r.1)&&decide (r.1≤1114111)&&decide (0≤r.2.1)&&decide (r.2.1≤254)&&decide (r.2.2.length≤2)&&(r.2.2.all fun c=>decide (0≤c)&&decide (c≤1114111))&&C.isC r.1
theorem zKE {r:Rw.Row} (h:zIm r=true):zG9 r:=by
 unfold zIm at h;simp only[Zy,Zp,Yi]at h;obtain⟨⟨⟨⟨⟨⟨h1,h2⟩,h3⟩,h4⟩,h5⟩,h6⟩,h7⟩:=h;exact⟨⟨h1,h2,h3,h4,h5,h6⟩,.inl h7⟩
def zLz:Int→List Rw.Row→Bool
 | _,[]=>true
 | c,r::l=>decide (c<r.1)&&zLz r.1 l
theorem Xt.rise_of:∀(l:List Rw.Row) (c:Int),zLz c l=true→zDj c l
 | [],_,_=>trivial
 | r::l,c,h=>by
   unfold zLz at h;rw[Zy,Zp]at h;exact⟨h.1,Xt.rise_of l r.1 h.2⟩
theorem zGI:∀r∈Xt.A,zG9 r:=fun r hr=>zKE (List.all_eq_true.1 (show Xt.A.all zIm=true by decide +kernel) r hr)
theorem zFa:∀r∈Xt.B,zG9 r:=fun r hr=>zKE (List.all_eq_true.1 (show Xt.B.all zIm=true by decide +kernel) r hr)
theorem zRF:zDj (-1) Xt.A:=Xt.rise_of _ _ (by decide +kernel)
theorem zR3:zDj 63743 Xt.B:=Xt.rise_of _ _ (by decide +kernel)
theorem zRG:Xt.A.filter (fun r=>!Rw.quiet r)=Xt.A:=by decide +kernel
theorem zRH:Xt.B.filter (fun r=>!Rw.quiet r)=Xt.B:=by decide +kernel
theorem zED (out:List Rw.Row) (c d:Int) (l w:List UInt8) (h1:Rw.row (zAi 59 [] l)=some (d,0,[])) (h2:zBK [] ((zAi 59 [] l).getD 1 []) true=some w) (hc:c<d):Rw.step (out,c,[]) l=some (out,d,w):=by
 unfold Rw.step;rw[h1,ZD];dsimp only;rw[Zo hc,show Rw.quiet (d,0,[])=true from rfl,h2,ZD,Zo (.inr rfl),Zo rfl]
theorem Xt.step_last (out:List Rw.Row) (c d:Int) (l w:List UInt8) (h1:Rw.row (zAi 59 [] l)=some (d,0,[])) (h2:zBK w ((zAi 59 [] l).getD 1 []) true=some []) (hc:c<d):Rw.step (out,c,w) l=some (out,d,[]):=by
 unfold Rw.step;rw[h1,ZD];dsimp only;rw[Zo hc,show Rw.quiet (d,0,[])=true from rfl,h2,ZD,Zo (.inr rfl),Zo rfl]
theorem zJP (out:List Rw.Row) (c:Int) (hc:c<44032):Rw.steps (out,c,[]) zBF=some (out,63743,[]):=by
 unfold zBF Rw.steps;rw[zED out c 44032 zSh zSL (by decide +kernel) (by decide +kernel) hc,ZD];unfold Rw.steps;rw[Xt.step_last out 44032 55203 zSi zSL (by decide +kernel) (by decide +kernel) (by decide),ZD];unfold Rw.steps;rw[zED out 55203 55296 Xt.f1 Xt.w1 (by decide +kernel) (by decide +kernel) (by decide),ZD];unfold Rw.steps;rw[Xt.step_last out 55296 56191 zSj Xt.w1 (by decide +kernel) (by decide +kernel) (by decide),ZD];unfold Rw.steps;rw[zED out 56191 57344 Xt.f2 Xt.w2 (by decide +kernel) (by decide +kernel) (by decide),ZD];unfold Rw.steps;rw[Xt.step_last out 57344 63743 zSk Xt.w2 (by decide +kernel) (by decide +kernel) (by decide),ZD];rfl
theorem zGb:∀(l:List Rw.Row) (out:List Rw.Row) (c:Int),(∀r∈l,zG9 r)→zDj c l→Rw.steps (out,c,[]) (l.map Rw.line)=some (out++l.filter (fun r=>!Rw.quiet r),zFy c l,[])
 | [],out,c,_,_=>by simp[Rw.steps,zFy]
 | r::l,out,c,h,hr=>by
   have h1:=h r Zt;rw[Z1,Rw.steps,zHV out c r h1.1 hr.1 h1.2,ZD,zGb l _ r.1 (fun q hq=>h q (Zv _ hq)) hr.2,Yu];cases Rw.quiet r <;> simp[zFy]
def zFC:List (List UInt8):=Xt.A.map Rw.line++(zBF++Xt.B.map Rw.line)
theorem zLA:Xt.text=zFC.flatMap fun x=>x++[10]:=by
 unfold Xt.text zFC;rw[Yr,Yr,zJs,zJs]
theorem zJA:∀x∈zFC,zCh x=true:=by
 intro x hx;unfold zFC at hx;rcases List.mem_append.1 hx with h|h
 · obtain⟨r,h1,rfl⟩:=List.mem_map.1 h;exact zE2 r (zGI r h1).1
 rcases List.mem_append.1 h with h|h
 · exact List.all_eq_true.1 (show zBF.all zCh=true by decide +kernel) x h
 obtain⟨r,h1,rfl⟩:=List.mem_map.1 h;exact zE2 r (zFa r h1).1
theorem Xt.lens:Xt.A.length=114∧Xt.B.length=7:=⟨rfl,rfl⟩
theorem Xt.parse:Rw.parse Xt.text=some Xt.T:=by
 unfold Rw.parse;rw[zLA,zEv _ fun x hx=>zOL (zJA x hx)];rw[if_pos ⟨List.all_eq_true.2 zJA,by unfold zFC;rw[List.length_append,List.length_append,List.length_map,List.length_map,Xt.lens.1,Xt.lens.2];decide⟩];unfold zFC;rw[Rw.steps_app,zGb _ _ _ zGI zRF,ZD,Rw.steps_app,zJP _ _ (by decide +kernel),ZD,zGb _ _ _ zFa zR3,ZD,zRG,zRH];rfl
theorem Xt.text_len:Xt.text.length≤200000:=by
 unfold Xt.text;have h1:=zCu Xt.A fun r hr=>(zGI r hr).1
 have h2:=zCu Xt.B fun r hr=>(zFa r hr).1
 have h3:(zBF.flatMap fun x=>x++[10]).length≤1000:=by decide +kernel
 rw[Xt.lens.1]at h1;rw[Xt.lens.2]at h2;rw[Zd,Zd];omega
theorem zR4:∀c∈zIl,C.isC c=true:=fun c hc=>List.all_eq_true.1 (show zIl.all C.isC=true by decide +kernel) c hc
theorem zSl:Md.chk Xt.T (Md.xs zIl)=0:=by decide +kernel
def zR9:List Int:=C.chars zIl
theorem Xt.mem:C.mem zR9=Md.xs zIl:=zI2 zR4
theorem Xt.ok:Ud.Ok Xt.T zR9:=by
 have h:=C.chars_len zIl;refine⟨by rw[Xt.mem];exact zSl,(zC5 _).1.1,by decide +kernel,?_⟩;show (C.chars zIl).length≤1000000;have:zIl.length=6:=rfl;omega
theorem zR5:Ex.parse (zAg zIl)=some zIl:=Ex.parse_btxt zIl zR4 (by decide +kernel) (by decide)
theorem Xt.bd:Md.bd Xt.T:=Xt.ok.bd
inductive Xt.Is:List Oper→Nat→List Rw.Row→List Nat→List Oper→Prop
 | nil {rest:List Oper} {s:Nat}:Xt.Is rest s [] [] rest
 | two {o1 o2:Oper} {l rest:List Oper} {s k:Nat} {p:Array (Nat × Operand)} {c n:Int} {m:List Int} {T:List Rw.Row} {sl:List Nat}:o1.guard=none→o1.dst=some s→o1.op=.buildSlice 70 k p→m.length=k→0<k→k≤2→p.toList=((m.zipIdx 0).map fun x=>(x.2,Operand.const (Value.int .i32 x.1))) →
    o2.guard=none→o2.dst=some (s+1)→o2.op=.build 163 #[(0,.const (.int .i32 c)),(1,.const (.int .i64 n)),(2,.tmp s)]→Xt.Is l (s+2) T sl rest→Xt.Is (o1::o2::l) s ((c,n,m)::T) ((s+1)::sl) rest
 | one {o:Oper} {l rest:List Oper} {s:Nat} {c n:Int} {T:List Rw.Row} {sl:List Nat}:o.guard=none→o.dst=some s→o.op=.build 163 #[(0,.const (.int .i32 c)),(1,.const (.int .i64 n))]→Xt.Is l (s+1) T sl rest→Xt.Is (o::l) s ((c,n,[])::T) (s::sl) rest
def Xt.val (r:Rw.Row) (a:Option Addr × Nat):Value:=.agg #[.int .i32 r.1,.int .i64 r.2.1,.slice a.1 r.2.2.length a.2]
theorem zOp (c n:Int) (A:Option Addr) (k q:Nat) (w:World):(Instr.build 163 #[(0,.int .i32 c),(1,.int .i64 n),(2,.slice A k q)]).run prog w=.ok (.agg #[.int .i32 c,.int .i64 n,.slice A k q]) w:=by kernel_rfl
theorem zOq (c n:Int) (w:World):(Instr.build 163 #[(0,.int .i32 c),(1,.int .i64 n)]).run prog w=.ok (.agg #[.int .i32 c,.int .i64 n,.slice none 0 0]) w:=by kernel_rfl
theorem zRI {P:Program} {o:Oper} {ρ:Operand→Value} {w w':World} (t:TypeId) (x y z:Operand) (ho:o.op=.build t #[(0,x),(1,y),(2,z)]) (v:Value) (hz:ρ z=v) (u:Value) (hr:(Instr.build t #[(0,ρ x),(1,ρ y),(2,v)]).run P w=.ok u w'):(execOp ρ o).run P w=.ok (.value u) w':=by
 subst hz;simp only[execOp,ho,YG,Xf,Z1,YB,hr,Yx,Yw]
theorem zRJ {P:Program} {o:Oper} {ρ:Operand→Value} {w w':World} (t:TypeId) (x y:Operand) (ho:o.op=.build t #[(0,x),(1,y)]) (u:Value) (hr:(Instr.build t #[(0,ρ x),(1,ρ y)]).run P w=.ok u w'):(execOp ρ o).run P w=.ok (.value u) w':=by
 simp only[execOp,ho,YG,Xf,Z1,YB,hr,Yx,Yw]
theorem zGc {a:Act} {s:Nat} {v:Value} (h:s<a.tmps.size):(a.put (some s) v).eval (.tmp s)=v:=by
 simp[Act.put,Act.eval,Array.getD,h]
theorem zFb {a:Act} {s q:Nat} {v:Value} (h:q≠s):(a.put (some s) v).eval (.tmp q)=a.eval (.tmp q):=by
 have:¬s=q:=fun e=>h e.symm
 simp[Act.put,Act.eval,this]
theorem zC2 {a:Act} {s:Nat} {v:Value}:(a.put (some s) v).tmps.size=a.tmps.size:=by simp[Act.put]
theorem zSm {ops:Array Oper} {Q:Exit→Act→World→Prop} {l rest:List Oper} {s:Nat} {T:List Rw.Row} {sl:List Nat} (h:Xt.Is l s T sl rest):∀(a:Act) (w:World) (B:Nat) (vals:List (Nat × Value)),s+l.length≤a.tmps.size+rest.length→(∀x∈vals,x.1<s∧a.eval (.tmp x.1)=x.2)→B≤w.heap.size →
 (∀(a':Act) (w':World) (ads:List (Option Addr × Nat)),ads.length=T.length→Below B w w'→(∀(i:Nat) (r:Rw.Row) (ad:Option Addr × Nat),T[i]?=some r→ads[i]?=some ad→Slt w' 21 ad.1 (r.2.2.map (Value.int .i32)))→(a'.tmps.size=a.tmps.size∧a'.defers=a.defers) →
   (∀x∈vals,a'.eval (.tmp x.1)=x.2)→(sl.map fun q=>a'.eval (.tmp q))=List.zipWith Xt.val T ads→wpList prog ops Q rest a' w')→wpList prog ops Q l a w:=by
 induction h with
 | nil=>intro a w B vals hs hv hB K;exact K a w [] rfl (Zc _ _) (fun i r ad h=>by simp at h) ⟨rfl,rfl⟩ (fun x hx=>(hv x hx).2) rfl
 | @two o1 o2 l rest s k p c n m T sl g1 d1 h1 hm k0 k2 hp g2 d2 h2 _ ih =>
   intro a w B vals hs hv hB K;simp only[ZE]at hs
   have hle:rest.length≤l.length:=by
    have:∀{l rest:List Oper} {s:Nat} {T:List Rw.Row} {sl:List Nat},Xt.Is l s T sl rest→rest.length≤l.length:=by
     intro l rest s T sl h
     induction h with
     | nil=>exact Za _
     | two _ _ _ _ _ _ _ _ _ _ _ ih=>simp only[ZE];omega
     | one _ _ _ _ ih=>simp only[ZE];omega
    exact this (by assumption)
   refine wpList_buildFlatAt g1 70 21 k p h1 .i32 m w.heap.size rfl (some s) d1 underlying70 (by kernel_rfl) (by kernel_rfl) hm.symm (by omega) (by omega) hp ?_;refine zBg g2 _ (zRI 163 _ _ _ h2 _ (zGc (by omega)) _ (zOp c n _ k k _)) ?_;rw[d2];have aj:Below B w (w.alloc (.cells (m.map (Value.int .i32)).toArray 21)):=(Zc _ _).alloc hB _;have ak:=Rw.At.new w 21 (m.map (Value.int .i32));refine ih _ _ (w.heap.size+1) ((s+1,.agg #[.int .i32 c,.int .i64 n,.slice (some ⟨w.heap.size,0,none⟩) k k])::vals) (by rw[zC2,zC2];omega) (fun x hx=>?_) (by simp) ?_
   · rcases List.mem_cons.1 hx with rfl|hx
     · exact⟨by omega,zGc (by rw[zC2];omega)⟩
     have:=hv x hx;exact⟨by omega,by rw[zFb (by omega),zFb (by omega)];exact this.2⟩
   intro a' w' ads hl hb aa ag af ah;refine K a' w' ((some ⟨w.heap.size,0,none⟩,k)::ads) (by simp[hl]) (aj.trans (hb.mono (by omega))) ?_ ⟨by rw[ag.1,zC2,zC2],ag.2⟩ (fun x hx=>af x (Zv _ hx)) ?_
   · intro i r ad hr ae;cases i with
     | zero =>
       simp at hr ae;subst hr;subst ae;have ai:=ak.below' hb (ZP _);exact fun _=>⟨_,0,_,rfl,ai,fun i _=>by simp⟩
     | succ i=>exact aa i r ad (by simpa using hr) (by simpa using ae)
   rw[Z1,Qn,ah];congr 1;have:=af _ Zt;rw[this];unfold Xt.val;rw[hm]
 | @one o l rest s c n T sl g1 d1 h1 _ ih =>
   intro a w B vals hs hv hB K;simp only[ZE]at hs
   have hle:rest.length≤l.length:=by
    have:∀{l rest:List Oper} {s:Nat} {T:List Rw.Row} {sl:List Nat},Xt.Is l s T sl rest→rest.length≤l.length:=by
     intro l rest s T sl h
     induction h with
     | nil=>exact Za _
     | two _ _ _ _ _ _ _ _ _ _ _ ih=>simp only[ZE];omega
     | one _ _ _ _ ih=>simp only[ZE];omega
    exact this (by assumption)
   refine zBg g1 _ (zRJ 163 _ _ h1 _ (zOq c n _)) ?_;rw[d1];refine ih _ _ B ((s,.agg #[.int .i32 c,.int .i64 n,.slice none 0 0])::vals) (by rw[zC2];omega) (fun x hx=>?_) hB ?_
   · rcases List.mem_cons.1 hx with rfl|hx
     · exact⟨by omega,zGc (by omega)⟩
     have:=hv x hx;exact⟨by omega,by rw[zFb (by omega)];exact this.2⟩
   intro a' w' ads hl hb aa ag af ah;refine K a' w' ((none,0)::ads) (by simp[hl]) hb ?_ ⟨by rw[ag.1,zC2],ag.2⟩ (fun x hx=>af x (Zv _ hx)) ?_
   · intro i r ad hr ae;cases i with
     | zero =>
       simp at hr ae;subst hr;subst ae;exact Slt.nil _ _ _
     | succ i=>exact aa i r ad (by simpa using hr) (by simpa using ae)
   rw[Z1,Qn,ah];congr 1;exact af _ Zt
theorem zKF:∀(T:List Rw.Row) (ads:List (Option Addr × Nat)),((List.zipWith Xt.val T ads).flatMap fun v=>v.cells.toList)=Rw.fl T ads
 | [],_=>rfl
 | _::_,[]=>rfl
 | r::T,a::ads=>by
   rw[Qn,Y8,zKF T ads];rfl
theorem zMX (w:World):Calls prog 103 #[] w fun e w'=>∃A c,e=.returned (.slice A Xt.T.length c)∧Rw.Tab w' A Xt.T∧Below w.heap.size w w':=by
 go_enter func103,ntmps103;go_upto_region 1 with (fail)
 go_step;apply zSm (s:=1) (T:=Xt.T) (B:=w.heap.size) (vals:=[])
 case h=>repeat (first|exact Xt.Is.nil|apply Xt.Is.two rfl rfl rfl rfl (by decide) (by decide) rfl rfl rfl rfl|apply Xt.Is.one rfl rfl rfl)
 · exact Ju (by kernel_rfl)
 · intro x hx;cases hx
 · exact Za _
 intro a' w' ads hl hb aa ae _ af;have hi:(prog.info? 163).map (fun i=>(i.zero.isSome,i.size))=some (true,3):=by kernel_rfl
 cases hie:prog.info? 163 with
 | none=>simp[hie]at hi
 | some ie =>
   simp only[hie,ZA,Zh,YE]at hi;obtain⟨z,hz⟩:=Option.isSome_iff_exists.1 hi.1;have ag:Xt.T.length=121:=rfl;refine wpList_buildSlice rfl 87 163 121 _ rfl (Rw.fl Xt.T ads).toArray ie z underlying87 hie hz (by rw[hi.2];decide) (by rw[hi.2];decide) ?_ ?_
   · rw[hi.2]
     have h2:∀(p:Array (Nat × Operand)) (sl:List Nat),p.toList=((sl.zipIdx 0).map fun x=>(x.2,Operand.tmp x.1))→(p.map fun (i,x)=>(i,a'.eval x)).toList=(((sl.map fun q=>a'.eval (.tmp q)).zipIdx 0).map fun x=>(x.2,x.1)):=fun p sl hp=>by
      rw[Array.toList_map,hp,List.zipIdx_map,Xg,Xg];rfl
     rw[h2 _ _ (by kernel_rfl),af];have ah:(List.zipWith Xt.val Xt.T ads).length=121:=by rw[List.length_zipWith,hl,ag];rfl
     rw[Go.Great.fill_whole (s:=3) (by decide) _ _ (fun v hv=>?_) (by rw[ah];simp),zKF];obtain⟨i,aj,rfl⟩:=Xs hv;rw[List.getElem_zipWith];rfl
   go_wp2_with fail;have h0:0<a'.tmps.size:=by rw[ae.1];exact Ju (by kernel_rfl)
   refine YH (results_tmp rfl _ prog _) rfl ?_;refine⟨some ⟨w'.heap.size,0,none⟩,⟨121,by simp[h0]⟩,⟨ads,hl,?_,?_⟩,?_⟩
   · exact fun _=>⟨_,0,_,rfl,ZS _ _,fun i _=>by simp⟩
   · intro i r ad hr ai;exact (aa i r ad hr ai).below ((Zc _ _).alloc (Za _) _)
   exact hb.alloc hb.size _
def zC9:List Value:=[.int .i32 44032,.int .i32 55203,.string ⟨zSK.toArray⟩,.int .i32 55296,.int .i32 56191,.string ⟨Xt.n1.toArray⟩,.int .i32 57344,.int .i32 63743,.string ⟨zSM.toArray⟩]
theorem zMY (w:World):Calls prog 102 #[] w fun e w'=>e=.returned (.slice (some ⟨w.heap.size,0,none⟩) 3 3)∧Rw.At w' w.heap.size 165 zC9∧Below w.heap.size w w':=by
 go_enter func102,ntmps102;go_wp2_with fail;go_ret;exact⟨rfl,Rw.At.new w 165 zC9,(Zc _ _).alloc (Za _) _⟩
def Xt.ln (c:Nat) (nm en:List UInt8):List UInt8:=Fi.text c++([59,60]++(nm++([44,32]++(en++[62,59,59,48,59,59,59,59,59,59,59,59,59,59,59,10]))))
theorem Xt.line_any (f t:Int) (c:Nat) (nm en:List UInt8) (w:World) (hc:c≤1114111) (hn:nm.length≤100) (he:en.length≤100) (hL:Fi.Laid w) :
 Calls prog 104 #[.agg #[.int .i32 f,.int .i32 t,.string ⟨nm.toArray⟩],.int .i32 c,.string ⟨en.toArray⟩] w fun e w'=>e=.returned (.string ⟨(Xt.ln c nm en).toArray⟩)∧Below w.heap.size w w':=by
 obtain⟨wa,aa⟩:∃wa,w.alloc (.cells #[.int .i32 f,.int .i32 t,.string ⟨nm.toArray⟩] 165)=wa:=⟨_,rfl⟩;have ap:Below w.heap.size w wa:=by rw[←aa];exact (Zc _ _).alloc (Za _) _
 have ai:Rw.At wa w.heap.size 165 [.int .i32 f,.int .i32 t,.string ⟨nm.toArray⟩]:=by rw[←aa];exact Rw.At.new w 165 [.int .i32 f,.int .i32 t,.string ⟨nm.toArray⟩]
 have hT:=fun W (hW:Below w.heap.size w W)=>Fi.text_any c (by omega) W (hL.below hW)
 have ae:∀x:ByteArray,x=⟨(Fi.text c).toArray⟩→((((x++⟨#[59,60]⟩)++⟨nm.toArray⟩)++⟨#[44,32]⟩)++⟨en.toArray⟩)++⟨#[62,59,59,48,59,59,59,59,59,59,59,59,59,59,59,10]⟩=(⟨(Xt.ln c nm en).toArray⟩:ByteArray):=by
  rintro x rfl;rw[show (⟨#[59,60]⟩:ByteArray)=⟨[59,60].toArray⟩ from rfl,show (⟨#[44,32]⟩:ByteArray)=⟨[44,32].toArray⟩ from rfl,show (⟨#[62,59,59,48,59,59,59,59,59,59,59,59,59,59,59,10]⟩:ByteArray)=⟨[62,59,59,48,59,59,59,59,59,59,59,59,59,59,59,10].toArray⟩ from rfl,zAN,zAN,zAN,zAN,zAN];unfold Xt.ln;simp
 obtain⟨tx,ah⟩:∃y:ByteArray,⟨(Fi.text c).toArray⟩=y:=⟨_,rfl⟩;have hr:=ae tx ah.symm
 have t6:tx.size≤6:=by
  rw[←ah];show (Fi.text c).toArray.size≤6;have:=zAG c hc;simpa using this
 obtain⟨n1,ag⟩:∃y:ByteArray,⟨nm.toArray⟩=y:=⟨_,rfl⟩;obtain⟨e1,ao⟩:∃y:ByteArray,⟨en.toArray⟩=y:=⟨_,rfl⟩;have ay:n1.size≤100:=by rw[←ag,zAy];exact hn
 have aw:e1.size≤100:=by rw[←ao,zAy];exact he
 rw[ag,ao]at hr ⊢;rw[ag]at ai aa;simp only[ah]at hT;obtain⟨ax,af⟩:∃y:ByteArray,⟨(Xt.ln c nm en).toArray⟩=y:=⟨_,rfl⟩;rw[af]at hr ⊢;have s2:(⟨#[59,60]⟩:ByteArray).size=2:=rfl;have s3:(⟨#[44,32]⟩:ByteArray).size=2:=rfl;have s4:(⟨#[62,59,59,48,59,59,59,59,59,59,59,59,59,59,59,10]⟩:ByteArray).size=16:=rfl;have HR:=hy' hr;have au:=hy' aa;have ak:=hy' ap;have ar:=hy' ai;have HT:=hy' hT;clear hr ae ah aa ap ai hT ag ao af hL hn he;go_enter func104,ntmps104;go_upto_region 1 with (fail)
 rw[au.o];refine Stg.wp_region (by kernel_rfl) Stg.Ex Stg.Ex.rel ?_;refine Stg.readW (by kernel_rfl) ?_;intro K hK;go_big_quiet_op;go_big_quiet_on;refine Stg.call 132 _ _ rfl func132 [.int .i32 c] rfl wa.drew _ (HT.o wa.drew ak.o.drew) (by kernel_rfl) rfl ?_;rintro e w1 ⟨rfl,aj⟩;refine⟨_,rfl,aj,?_⟩;have av:=hy' (ak.o.drew.trans (aj.mono ak.o.size));clear aj;intro A' aq;simp only[Act.put,Zf,Zk,Zj]at aq;subst aq;have e2:=Stg.cells (w:=wa.drew) (ar.o.cell 2 rfl) ar.o.lt;have c1:¬9223372036854775807<tx.size+(⟨#[59,60]⟩:ByteArray).size:=by omega
 have c2:¬9223372036854775807<(tx++⟨#[59,60]⟩).size+n1.size:=by rw[ZV];omega
 have c3:¬9223372036854775807<((tx++⟨#[59,60]⟩)++n1).size+(⟨#[44,32]⟩:ByteArray).size:=by rw[ZV,ZV];omega
 have c4:¬9223372036854775807<(((tx++⟨#[59,60]⟩)++n1)++⟨#[44,32]⟩).size+e1.size:=by rw[ZV,ZV,ZV];omega
 have c5:¬9223372036854775807<((((tx++⟨#[59,60]⟩)++n1)++⟨#[44,32]⟩)++e1).size+(⟨#[62,59,59,48,59,59,59,59,59,59,59,59,59,59,59,10]⟩:ByteArray).size:=by rw[ZV,ZV,ZV,ZV];omega
 (iterate 2 (refine Stg.readW (by kernel_rfl) ?_;intro K hK;go_big_quiet_op;go_big_quiet_on))
 refine Stg.read 1 (by kernel_rfl) wa.drew rfl ?_;intro K hK;go_big_quiet_op;go_big_quiet_on;(iterate 6 (refine Stg.readW (by kernel_rfl) ?_;intro K hK;go_big_quiet_op;go_big_quiet_on));refine Stg.nil w1 rfl ?_;go_wp2_with fail;go_ret;rw[HR.o];exact⟨rfl,av.o⟩
theorem zJB:Stg.Rel Bd.Kept:=⟨fun w t A xs _ _ h=>h,fun h1 h2 t A xs g1 g2 h=>h2 t A xs g1 g2 (h1 t A xs g1 g2 h)⟩
instance (w:World):Nonempty (Stg.Later Bd.Kept w):=⟨⟨w,zJB.refl w⟩⟩
theorem zGJ {w w':World} (h:Below w.heap.size w w'):Bd.Kept w w':=fun t A xs _ _ hs=>hs.below h
theorem zFc {W:World} {t:TypeId} {b o:Nat} {xs:List Value} (h:Slt W t (some ⟨b,o,none⟩) xs) (h1:t≠147) (h2:t≠5) {i:Nat} {v:Value} (hv:xs[i]?=some v):∀x:Stg.Later Bd.Kept W,x.val.cell? ⟨b,o+i,none⟩=some v:=fun x=>by
 have hi:=(List.getElem?_eq_some_iff.1 hv).1;obtain⟨b',o',hA,_,hc⟩:=(x.rel t _ xs h1 h2 h).sl (by omega);simp only[Zh,YT,Xd]at hA;obtain⟨rfl,rfl⟩:=hA;rw[hc i hi,hv]
def zRK (j:Nat):List UInt8:=(zBF.take (2*j)).flatMap fun x=>x++[10]
def Xt.mid (k j:Nat):List UInt8:=zB2 ((Xt.T.take k).take Xt.A.length)++(zRK j++zB2 ((Xt.T.take k).drop Xt.A.length))
def zCH (k:Nat):Nat:=if k≤Xt.A.length then 0 else 3
def Xt.fr (j:Nat):Int:=if j=0 then 44032 else if j=1 then 55296 else 57344
theorem Xt.len:Xt.T.length=121:=rfl
theorem Xt.mid_all:Xt.mid 121 3=Xt.text:=by
 unfold Xt.mid Xt.text;rw[show Xt.T.take 121=Xt.T from Zm (by rw[Xt.len];exact Za _)];unfold Xt.T;rw[QS,Xv];rfl
theorem zPW {k:Nat} {r:Rw.Row} (hr:Xt.T[k]?=some r):Xt.mid (k+1) (zCH (k+1))=Xt.mid k (zCH (k+1))++(Rw.line r++[10]):=by
 have hk:=(List.getElem?_eq_some_iff.1 hr).1;have ht:Xt.T.take (k+1)=Xt.T.take k++[r]:=by rw[ZB,hr];rfl
 have hl:(Xt.T.take k).length=k:=by rw[Zq];omega
 unfold Xt.mid;rw[ht];obtain⟨P,hP⟩:∃P,Xt.T.take k=P:=⟨_,rfl⟩;rw[hP]at hl ⊢
 by_cases hka:k+1≤Xt.A.length
 · have e:zCH (k+1)=0:=by unfold zCH;rw[if_pos hka]
   rw[e,Zm (by rw[Zd,hl];exact hka),Ye (by rw[Zd,hl];exact hka),Zm (by rw[hl];omega),Ye (by rw[hl];omega),zFw,zFx];simp[zRK,zB2]
 rw[XB (by rw[hl];omega),Xz (by rw[hl];omega),zFw,zFx];simp
theorem zR6 (k j:Nat) (hk:k=Xt.A.length) (hj:j<3):∃x y,zBF[2*j]?=some x∧zBF[2*j+1]?=some y∧Xt.mid k (j+1)=Xt.mid k j++((x++[10])++(y++[10])):=by
 subst hk;have hx:2*j+1<zBF.length:=by show 2*j+1<6;omega
 refine⟨zBF[2*j],zBF[2*j+1],Zb _,Zb _,?_⟩
 have e:∀(L:List (List UInt8)) (n:Nat) (h:n+1<L.length),(L.take (n+1+1)).flatMap (fun x=>x++[10])=(L.take n).flatMap (fun x=>x++[10])++((L[n]++[10])++(L[n+1]++[10])):=by
  intro L n h
  have e2:L.take (n+1+1)=L.take n++([L[n]]++[L[n+1]]):=by
   rw[YM h,YM (by omega),ZC]
  rw[e2,Yr,Yr];simp
 unfold Xt.mid zRK;rw[Ye (by rw[Zq];exact Nat.min_le_left _ _),show 2*(j+1)=2*j+1+1 by omega,e _ _ hx];simp[zB2]
theorem zRL (k j:Nat) {r:Rw.Row} (hr:Xt.T[k]?=some r) (h1:zCH k≤j) (h2:j≤zCH (k+1)):(j<zCH (k+1)↔j<3∧Xt.fr j<r.1)∧(j<zCH (k+1)→k=Xt.A.length):=by
 have hA:∀i:Fin Xt.A.length,(Xt.T.getD i.val (0,0,[])).1≤44032:=by decide +kernel
 have hB:(Xt.T.getD Xt.A.length (0,0,[])).1=63744:=by decide +kernel
 have hg:Xt.T.getD k (0,0,[])=r:=by rw[YR,hr];rfl
 unfold zCH at *;rcases XM k Xt.A.length with h|h|h
 · have:=hA ⟨k,h⟩;rw[hg]at this;rw[Zo (by omega)]at h2;rw[Zo (by omega)];obtain rfl:j=0:=by omega
   unfold Xt.fr;rw[Zo rfl];exact⟨by omega,fun h=>by omega⟩
 · have aa:r.1=63744:=by rw[←hg,h];exact hB
   rw[Zl (by omega)];refine⟨⟨fun hj=>⟨hj,?_⟩,fun hj=>hj.1⟩,fun _=>h⟩;rw[aa];unfold Xt.fr;split
   · omega
   split <;> omega
 rw[Zl (by omega)]at h1;rw[Zl (by omega)]at h2 ⊢;exact⟨by omega,fun h=>by omega⟩
theorem zKG (j:Nat) (hj:j<3):∃(c d:Nat) (nm:List UInt8) (x y:List UInt8),zC9[j*3]?=some (.int .i32 c)∧zC9[j*3+1]?=some (.int .i32 d)∧zC9[j*3+2]?=some (.string ⟨nm.toArray⟩)∧c≤1114111∧d≤1114111∧nm.length≤100∧(c:Int)=Xt.fr j ∧
 zBF[2*j]?=some x∧zBF[2*j+1]?=some y∧Xt.ln c nm [70,105,114,115,116]=x++[10]∧Xt.ln d nm [76,97,115,116]=y++[10]:=by
 match j,hj with
 | 0,_=>exact⟨44032,55203,zSK,zSh,zSi,rfl,rfl,rfl,by decide,by decide,by decide,rfl,rfl,rfl,by decide +kernel,by decide +kernel⟩
 | 1,_=>exact⟨55296,56191,Xt.n1,Xt.f1,zSj,rfl,rfl,rfl,by decide,by decide,by decide,rfl,rfl,rfl,by decide +kernel,by decide +kernel⟩
 | 2,_=>exact⟨57344,63743,zSM,Xt.f2,zSk,rfl,rfl,rfl,by decide,by decide,by decide,rfl,rfl,rfl,by decide +kernel,by decide +kernel⟩
theorem Xt.mid_len (k j:Nat) (hj:j≤3):(Xt.mid k j).length≤1000000:=by
 have hf:∀r∈Xt.T,Rw.right r:=fun r hr=>by
  unfold Xt.T at hr;rcases List.mem_append.1 hr with h|h
  · exact (zGI r h).1
  exact (zFa r h).1
 have h1:=zCu ((Xt.T.take k).take Xt.A.length) fun r hr=>hf r (Z5 (Z5 hr))
 have h2:=zCu ((Xt.T.take k).drop Xt.A.length) fun r hr=>hf r (Z5 (Xj hr))
 have h3:(zRK j).length≤1000:=by
  match j,hj with
  | 0,_=>decide +kernel
  | 1,_=>decide +kernel
  | 2,_=>decide +kernel
  | 3,_=>decide +kernel
 have h4:((Xt.T.take k).take Xt.A.length).length≤121:=by rw[Zq,Zq,Xt.len];omega
 have h5:((Xt.T.take k).drop Xt.A.length).length≤121:=by rw[ZO,Zq,Xt.len];omega
 unfold Xt.mid;rw[Zd,Zd];omega
theorem zMZ {w w':World} {A:Option Addr} {rs:List Rw.Row} (h:Rw.Tab w A rs) (hb:Below w.heap.size w w'):Rw.Tab w' A rs:=by
 obtain⟨ads,hl,hs,hm⟩:=h;exact⟨ads,hl,hs.below hb,hm.below hb⟩
theorem zGd {w w':World} {A:Option Addr} {rs:List Rw.Row} (h:Rw.Tab w A rs) (hk:Bd.Kept w w'):Rw.Tab w' A rs:=by
 obtain⟨ads,hl,hs,hm⟩:=h;exact⟨ads,hl,hk _ _ _ (by decide) (by decide) hs,fun i r a h1 h2=>hk _ _ _ (by decide) (by decide) (hm i r a h1 h2)⟩
theorem zPX {w:World} {A:Option Addr} {rs:List Rw.Row} (h:Rw.Tab w A rs) {i:Nat} {r:Rw.Row} (hr:rs[i]?=some r) :
 ∃(b o:Nat) (a:Option Addr × Nat),A=some ⟨b,o,none⟩∧b<w.heap.size∧w.cell? ⟨b,o+i*3,none⟩=some (.int .i32 r.1)∧w.cell? ⟨b,o+i*3+1,none⟩=some (.int .i64 r.2.1)∧w.cell? ⟨b,o+i*3+2,none⟩=some (.slice a.1 r.2.2.length a.2)∧Slt w 21 a.1 (r.2.2.map (Value.int .i32)):=by
 obtain⟨ads,hl,hs,hm⟩:=h;have hi:=(List.getElem?_eq_some_iff.1 hr).1;obtain⟨a,ha⟩:∃a,ads[i]?=some a:=⟨_,Zb (by omega)⟩;obtain⟨b,o,rfl,hb,hc⟩:=hs.sl (by rw[Rw.fl_len _ _ hl];omega);obtain⟨g0,g1,g2⟩:=Rw.fl_get rs ads i r a hr ha;have hlen:=Rw.fl_len rs ads hl;refine⟨b,o,a,rfl,hb,?_,?_,?_,hm i r a hr ha⟩
 · rw[hc _ (by omega),g0]
 · rw[Yk,hc _ (by omega),g1]
 rw[Yk,hc _ (by omega),g2]
theorem zDn {w w':World} {b D:Nat} {bs:List Value} (h:Bd.At w b D bs) (hb:Below w.heap.size w w'):Bd.At w' b D bs:=by
 obtain⟨p,v,h1,h2,h3⟩:=h;exact⟨p,v,h1,h2.below hb,zA4 h3 hb (Za _)⟩
theorem zOr (w:World) (hL:Rw.Laid w):Calls prog 73 #[] w fun e w'=>e=.returned (.string ⟨Xt.text.toArray⟩)∧Below w.heap.size w w':=by
 obtain⟨wa,cf⟩:∃wa,w.alloc (.cells #[.pointer none,.slice none 0 0] 147)=wa:=⟨_,rfl⟩;have eh:Below w.heap.size w wa:=by rw[←cf];exact (Zc _ _).alloc (Za _) _
 have dz:Rw.At wa w.heap.size 147 [.pointer none,.slice none 0 0]:=by rw[←cf];exact Rw.At.new w 147 [.pointer none,.slice none 0 0]
 have e7:=hy' cf;have ec:=hy' eh;have fm:=hy' dz;have HL:=hy' hL;clear cf eh dz hL;go_enter func73,ntmps73;go_upto_region 2 with (fail)
 rw[e7.o];go_wp2_with fail;refine (zMY wa).mono ?_;rintro e w1 ⟨rfl,cb,bj⟩;have cu:Hy (Slt w1 165 (some ⟨wa.heap.size,0,none⟩) zC9):=hy' fun _=>⟨wa.heap.size,0,_,rfl,cb,fun i _=>by simp⟩
 have dm:=hy' bj;clear cb bj;go_wp2_with fail;refine (zMX w1).mono ?_;rintro e w2 ⟨A2,c2,rfl,aj,cm⟩;rw[Xt.len];have dh:=hy' aj;have dc:=hy' (cu.o.below cm);have b4:=hy' ((fm.o.below dm.o).below cm);have ee:=hy' (ec.o.trans ((dm.o.trans (cm.mono dm.o.size)).mono ec.o.size));have bm:w.heap.size<w2.heap.size:=b4.o.lt;clear aj cm;go_wp2_with fail;go_loopw [2,8] (fun v2 i wr=>∃(k:Nat) (A':Option Addr) (c':Nat),k≤121∧i=.int .i64 k∧v2=.slice A' (3-zCH k) c'∧3-zCH k≤c'∧(zCH k<3→A'=some ⟨wa.heap.size,zCH k*3,none⟩)∧Bd.At wr w.heap.size w2.heap.size (Lib.byteCells (Xt.mid k (zCH k)))∧Rw.Tab wr A2 Xt.T∧Slt wr 165 (some ⟨wa.heap.size,0,none⟩) zC9∧Below w.heap.size w2 wr) (fun _ i _=>121-(intOf i).toNat)
 case atStart =>
  refine⟨0,_,3,ZG _,rfl,rfl,by decide,fun _=>rfl,?_,dh.o,dc.o,Zc _ _⟩;exact⟨_,_,.inl rfl,b4.o,ZI _ _ _ _⟩
 obtain⟨k,A',c',hk,rfl,rfl,bz,af,ar,aj,cy,aq⟩:=hrel;obtain⟨w5,rfl⟩:∃w5:World,w5=wr:=⟨_,rfl⟩;have ej:w2.heap.size≤w5.heap.size:=aq.size
 by_cases hlt:k<121
 rotate_left
 · obtain rfl:k=121:=by omega
   have kI:¬((121:Nat):Int)<121:=by omega
   have hj:zCH 121=3:=rfl;rw[hj,Xt.mid_all]at ar
   have dy:Lib.IsBuilder 147 5 w.heap.size w.heap.size (Lib.byteCells Xt.text) w5:=by
    obtain⟨p,v,h1,h2,h3⟩:=ar;have h4:Lib.BuilderAt 147 5 w.heap.size w.heap.size p (Lib.byteCells Xt.text) w5:=⟨Za _,v,h2,zFt h3 (by omega),zBm h3 _ (by omega)⟩;rcases h1 with rfl|rfl
    · exact .inl h4
    exact .inr h4
   have dk:=Tryz.Builder_String_any w.heap.size w.heap.size Xt.text w5 dy (by omega);have HB:=hy' (ee.o.trans aq);clear ar cy aq dy aj af;obtain⟨TX,c7⟩:∃y,Xt.text=y:=⟨_,rfl⟩;rw[c7]at dk;have fh:=hy' c7;clear c7;go_wp2_with fail;refine dk.mono ?_;rintro e w4 ⟨rfl,dr⟩;have ew:=hy' (HB.o.trans dr);clear dr dk;go_wp2_with fail;go_ret;rw[fh.o];exact⟨rfl,ew.o⟩
 obtain⟨r,hr⟩:∃r,Xt.T[k]?=some r:=⟨_,Zb (by rw[Xt.len];exact hlt)⟩;have ed:=fun j=>zRL k j hr
 have b1:=zPW hr
 have fj:Rw.right r:=by
  have hm:=Zn hr;unfold Xt.T at hm;rcases List.mem_append.1 hm with h|h
  · exact (zGI r h).1
  exact (zFa r h).1
 obtain⟨f1,f2,f3,f4,f5,f6⟩:=fj;obtain⟨b,o,a,en,hb,c0,c1,c2,dn⟩:=zPX aj hr;obtain⟨ml,bs⟩:∃q,r.2.2.length=q:=⟨_,rfl⟩;rw[bs]at c2 f5;have kI:(k:Int)<121:=by omega
 have k0:(0:Int)≤k:=by omega
 obtain⟨wb,cn⟩:∃wb,w5.alloc (.cells #[.int .i32 r.1,.int .i64 r.2.1,.slice a.1 ml a.2] 163)=wb:=⟨_,rfl⟩;have bq:Below w5.heap.size w5 wb:=by rw[←cn];exact (Zc _ _).alloc (Za _) _
 have du:Slt wb 163 (some ⟨w5.heap.size,0,none⟩) [.int .i32 r.1,.int .i64 r.2.1,.slice a.1 ml a.2]:=fun _=>⟨w5.heap.size,0,_,rfl,by rw[←cn];exact ZS w5 _,fun i _=>by simp⟩
 have dt:=dn.below bq;have fu:=hy' cn;have eo:=hy' du;have fw:=hy' dt;have fe:=hy' (zMZ aj bq);have ft:=hy' (cy.below bq);have cr:=hy' (zDn ar bq);have fg:=hy' (aq.trans (bq.mono (Zi (Z8 bm) ej)));have gb:w2.heap.size≤wb.heap.size:=Zi ej bq.size;have ea:zCH k≤zCH (k+1):=by unfold zCH;split <;> split <;> omega
 have eb:=hy' ed;have ek:=hy' b1;have b6:=hy' bs;have HJ:=hy' ea;have e9:=hy' af;have e6:=hy' bz;subst en;clear ed b1 cn du dt aj cy ar bq aq dn bs ea hr af bz;go_upto_region 6 with (fail)
 rw[fu.o];clear c0 c1 c2
 go_loopw [2] (fun v2 wi=>∃(j:Nat) (A':Option Addr) (c':Nat),zCH k≤j∧j≤zCH (k+1)∧v2=.slice A' (3-j) c'∧3-j≤c'∧(j<3→A'=some ⟨wa.heap.size,j*3,none⟩)∧Bd.At wi w.heap.size w2.heap.size (Lib.byteCells (Xt.mid k j))∧Rw.Tab wi (some ⟨b,o,none⟩) Xt.T∧Slt wi 165 (some ⟨wa.heap.size,0,none⟩) zC9 ∧
  Slt wi 163 (some ⟨w5.heap.size,0,none⟩) [.int .i32 r.1,.int .i64 r.2.1,.slice a.1 ml a.2]∧Slt wi 21 a.1 (r.2.2.map (Value.int .i32))∧Below w.heap.size w2 wi∧wb.heap.size≤wi.heap.size) (fun v2 _=>match v2 with | .slice _ n _=>n|_=>0)
 case atStart=>exact⟨_,_,_,Za _,HJ.o,rfl,e6.o,e9.o,cr.o,fe.o,ft.o,eo.o,fw.o,fg.o,Za _⟩
 obtain⟨j,A',c',ep,ez,rfl,bz,af,bo,av,ak,a6,bp,ah,fk⟩:=hrel;obtain⟨wi,rfl⟩:∃wi:World,wi=wr:=⟨_,rfl⟩;obtain⟨g1,g2⟩:=eb.o j ep ez;obtain⟨bb,ob,bh,a8,bx⟩:=a6.sl (by simp);simp only[Zh,YT,Xd]at bh;obtain⟨rfl,rfl⟩:=bh;have r0:=bx 0 (by simp);have r1:=bx 1 (by simp);have r2:=bx 2 (by simp);simp only[Xk,Y3,ZU,YV]at r0 r1 r2;obtain⟨m3,c6⟩:∃m,3-j=m:=⟨_,rfl⟩;rw[c6]at bz ⊢;have bt:=hy' bo;have ax:=hy' av;have bf:=hy' ak;have ct:=hy' a6;have b8:=hy' bp;have aw:=hy' ah;have bw:=hy' (ee.o.trans ah);have ao:w2.heap.size≤wi.heap.size:=ah.size
 by_cases hon:j<zCH (k+1)
 · obtain⟨ch,b3⟩:=g1.1 hon;have cz:=g2 hon;obtain⟨x',y',eg,dp,br⟩:=zR6 k j cz ch;obtain⟨c,d,nm,x,y,s0,s1,s2,hc,hd,cg,cc,hx,hy,dw,dx⟩:=zKG j ch;rw[eg]at hx;rw[dp]at hy;simp only[Zh]at hx hy;subst hx;subst hy;obtain rfl:=af ch;rw[←dw,←dx]at br;rw[←cc]at b3;obtain⟨sb,so,bh,fp,bk⟩:=ak.sl (by decide);simp only[Zh,YT,Xd]at bh;obtain⟨rfl,rfl⟩:=bh;have q0:=bk (j*3) (by show j*3<9;omega);have q1:=bk (j*3+1) (by show j*3+1<9;omega);have q2:=bk (j*3+2) (by show j*3+2<9;omega);rw[s0,ZU]at q0;rw[s1,ZU]at q1;rw[s2,ZU]at q2;have mN:0<m3:=by omega
   have fz:=hy' cz;have e8:=hy' s0;have fy:=hy' s1;have et:=hy' s2;have cw:=hy' br;have ey:nm.toArray.size≤100:=by simpa using cg
   clear bo av ak a6 bp ah g1 g2 eg dp dw dx cc bk bx s0 s1 s2 br cz eb ek;go_upto_region 6 with (fail)
   go_quiet (fail);go_upto_region 7 with (fail)
   obtain⟨wj,az⟩:∃wj,wi.drewN nq=wj:=⟨_,rfl⟩;have aa:Below wi.heap.size wi wj.drew:=by rw[←az];exact (below_drewN (Zc _ wi) nq).drew
   rw[az];clear az;have c8:=hy' (bf.o.below aa);have cx:=hy' (zDn bt.o aa);have bn:=hy' (bw.o.trans (aa.mono bw.o.size));have e0:=zFc c8.o (by decide) (by decide) e8.o;have e1:=zFc c8.o (by decide) (by decide) fy.o;have e2:=zFc c8.o (by decide) (by decide) et.o;rw[ZU]at e0 e1 e2;obtain⟨n1,cq⟩:∃y:ByteArray,⟨nm.toArray⟩=y:=⟨_,rfl⟩;obtain⟨t1,cp⟩:∃y:ByteArray,⟨(Xt.ln c nm [70,105,114,115,116]).toArray⟩=y:=⟨_,rfl⟩;obtain⟨t2,cj⟩:∃y:ByteArray,⟨(Xt.ln d nm [76,97,115,116]).toArray⟩=y:=⟨_,rfl⟩
   have e5:Hy (∀W,Below w.heap.size w W→Calls prog 104 #[.agg #[.int .i32 c,.int .i32 d,.string n1],.int .i32 c,.string ⟨#[70,105,114,115,116]⟩] W fun e w'=>e=.returned (.string t1)∧Below W.heap.size W w'):=hy' fun W hW=>by
    have:=Xt.line_any c d c nm [70,105,114,115,116] W hc cg (by decide) ((HL.o.next hW).1);rw[cq,cp]at this;exact this
   have fc:Hy (∀W,Below w.heap.size w W→Calls prog 104 #[.agg #[.int .i32 c,.int .i32 d,.string n1],.int .i32 d,.string ⟨#[76,97,115,116]⟩] W fun e w'=>e=.returned (.string t2)∧Below W.heap.size W w'):=hy' fun W hW=>by
    have:=Xt.line_any c d d nm [76,97,115,116] W hd cg (by decide) ((HL.o.next hW).1);rw[cq,cj]at this;exact this
   have e4:t1.size≤300:=by
    rw[←cp,zAy];have:=zAG c hc;unfold Xt.ln;simp;omega
   have e3:t2.size≤300:=by
    rw[←cj,zAy];have:=zAG d hd;unfold Xt.ln;simp;omega
   have ae:Lib.byteCells (Xt.mid k (j+1))=Lib.byteCells (Xt.mid k j)++Lib.strCells (t1++t2):=by
    rw[cw.o,←cp,←cj,zAN];unfold Lib.byteCells Lib.strCells;simp
   have ai:(Lib.byteCells (Xt.mid k j)).length+600≤140737488355328:=by
    have:(Lib.byteCells (Xt.mid k j)).length=(Xt.mid k j).length:=by unfold Lib.byteCells;simp
    have h2:=Xt.mid_len k j (by omega);omega
   have ck:=hy' ae;have bc:=hy' ai;have c1:¬9223372036854775807<t1.size+t2.size:=by omega
   rw[cq]at e2;have eu:w2.heap.size≤wj.drew.heap.size:=Zi ao aa.size;have au:=hy' aa;clear cp cj cq ae ai aa;refine Stg.wp_region (by kernel_rfl) Bd.Kept zJB ?_;(iterate 2 (refine Stg.readW (by kernel_rfl) ?_;intro K hK;go_big_quiet_op;go_big_quiet_on))
   refine Stg.read 0 (by kernel_rfl) wj.drew rfl ?_;intro K hK;go_big_quiet_op;go_big_quiet_on;(iterate 3 (refine Stg.readW (by kernel_rfl) ?_;intro K hK;go_big_quiet_op;go_big_quiet_on));refine Stg.read 0 (by kernel_rfl) wj.drew rfl ?_;intro K hK;go_big_quiet_op;go_big_quiet_on;refine Stg.call 104 _ _ rfl func104 [.agg #[.int .i32 c,.int .i32 d,.string n1],.int .i32 c,.string ⟨#[70,105,114,115,116]⟩] rfl wj.drew _ (e5.out _ bn.o) (by kernel_rfl) rfl ?_;rintro e q1 ⟨rfl,hb⟩;refine⟨_,rfl,zGJ hb,?_⟩;have ap:=hy' hb;clear hb;intro A' af;simp only[Act.put,Zf,Zk,Zj]at af;subst af
   (iterate 2 (refine Stg.readW (by kernel_rfl) ?_;intro K hK;go_big_quiet_op;go_big_quiet_on))
   refine Stg.read 1 (by kernel_rfl) wj.drew rfl ?_;intro K hK;go_big_quiet_op;go_big_quiet_on;(iterate 3 (refine Stg.readW (by kernel_rfl) ?_;intro K hK;go_big_quiet_op;go_big_quiet_on));refine Stg.read 1 (by kernel_rfl) wj.drew rfl ?_;intro K hK;go_big_quiet_op;go_big_quiet_on;refine Stg.call 104 _ _ rfl func104 [.agg #[.int .i32 c,.int .i32 d,.string n1],.int .i32 d,.string ⟨#[76,97,115,116]⟩] rfl q1 _ (fc.out _ (bn.o.trans (ap.o.mono bn.o.size))) (by kernel_rfl) rfl ?_;rintro e q2 ⟨rfl,hb⟩;refine⟨_,rfl,zGJ hb,?_⟩;have b5:=hy' (ap.o.trans (hb.mono ap.o.size));clear hb;intro A' af;simp only[Act.put,Zf,Zk,Zj]at af;subst af
   refine Stg.readW (by kernel_rfl) ?_;intro K hK;go_big_quiet_op;go_big_quiet_on;have b2:=zDn cx.o b5.o;have ay:=zGF w.heap.size w2.heap.size _ (t1++t2) q2 bm (Zi eu b5.o.size) b2 (by rw[ZV];have:=bc.o;omega);rw[←ck.o]at ay;refine Stg.call 90 _ _ rfl func90 [.pointer (some ⟨w.heap.size,0,none⟩),.string (t1++t2)] rfl q2 _ (ay) (by kernel_rfl) rfl ?_;rintro e q3 ⟨rfl,ag,bg,ba⟩;refine⟨_,rfl,bg,?_⟩;intro A' af;simp only[Act.put,Zf,Zk,Zj]at af;subst af;refine Stg.nil q3 rfl ?_;have bi:Bd.Kept wi q3:=fun t A xs g1 g2 hs=>bg t A xs g1 g2 ((hs.below au.o).below b5.o)
   have a1:=hy' ag;have a7:=hy' bi;have b7:=hy' (aw.o.trans (((au.o.trans (b5.o.mono au.o.size)).mono (Zi (Z8 bm) ao)).trans ba));have fq:wb.heap.size≤q3.heap.size:=Zi fk (Zi (au.o.trans (b5.o.mono au.o.size)).size ba.size);clear ag bg ba bi b2 ay e0 e1 e2;go_wp2_with fail;refine⟨⟨j+1,_,_,by omega,by omega,by rw[show 3-(j+1)=m3-1 by omega],by omega,fun hh=>?_,a1.o,zGd ax.o a7.o,a7.o _ _ _ (by decide) (by decide) bf.o,a7.o _ _ _ (by decide) (by decide) ct.o,a7.o _ _ _ (by decide) (by decide) b8.o,b7.o,fq⟩,?_⟩
   · rw[Zl (by omega),show (j+1)*3=j*3+3 by omega]
   show m3-1<m3;omega
 have bl:zCH (k+1)=j:=by omega
 have b1:=ek.o;rw[bl]at b1;obtain⟨tx,cd⟩:∃y:ByteArray,⟨(Rw.line r).toArray⟩=y:=⟨_,rfl⟩
 have ef:Hy (∀W,Below w.heap.size w W→Below wi.heap.size wi W→Calls prog 105 #[.agg #[.int .i32 r.1,.int .i64 r.2.1,.slice a.1 ml a.2]] W fun e w'=>e=.returned (.string tx)∧Below W.heap.size W w'):=hy' fun W hW hV=>by
  have:=zMW r.1 r.2.1 a.1 r.2.2 ml a.2 W.heap.size W f1 f2 f3 f4 b6.o f5 f6 (Za _) ((b8.o.below hV).sl) (HL.o.next hW);rw[show (r.1,r.2.1,r.2.2)=r from rfl,cd]at this;exact this
 have e4:tx.size≤1000:=by
  rw[←cd,zAy];exact zG8 r ⟨f1,f2,f3,f4,by rw[b6.o];exact f5,f6⟩
 have ae:Lib.byteCells (Xt.mid (k+1) j)=Lib.byteCells (Xt.mid k j)++Lib.strCells (tx++⟨#[10]⟩):=by
  rw[b1,←cd,show (⟨#[10]⟩:ByteArray)=⟨[10].toArray⟩ from rfl,zAN];unfold Lib.byteCells Lib.strCells;simp
 have ai:(Lib.byteCells (Xt.mid k j)).length+2000≤140737488355328:=by
  have:(Lib.byteCells (Xt.mid k j)).length=(Xt.mid k j).length:=by unfold Lib.byteCells;simp
  have h2:=Xt.mid_len k j (by have:zCH (k+1)≤3:=by { unfold zCH;split <;> omega };omega);omega
 have ck:=hy' ae;have bc:=hy' ai;have dv:=hy' bl;have fx:=hy' af;have ei:=hy' bz;have bu:=hy' c6;have s1:(⟨#[10]⟩:ByteArray).size=1:=rfl;have c1:¬9223372036854775807<tx.size+(⟨#[10]⟩:ByteArray).size:=by omega
 have ch:j≤3:=by
  have:zCH (k+1)≤3:=by { unfold zCH;split <;> omega }
  omega
 have b3:=fun h=>fun h2=>hon (g1.2 ⟨h,h2⟩)
 clear ae ai cd b1 bo av bp ah g1 g2 bz c6 bl
 by_cases hj:j<3
 · obtain⟨c,d,nm,x,y,s0,_,_,hc,hd,cg,cc,_,_,_,_⟩:=zKG j hj;have fo:=b3 hj;rw[←cc]at fo;obtain⟨sb,so,bh,fp,bk⟩:=ak.sl (by decide);simp only[Zh,YT,Xd]at bh;obtain⟨rfl,rfl⟩:=bh;have q0:=bk (j*3) (by show j*3<9;omega);rw[s0,ZU]at q0;obtain rfl:=af hj;have mN:0<m3:=by have:=bu.o;omega
   clear af b3 ak a6 cc bk s0 bx;go_upto_region 6 with (fail)
   go_quiet (fail);obtain⟨wj,az⟩:∃wj,wi.drewN nq=wj:=⟨_,rfl⟩;have aa:Below wi.heap.size wi wj:=by rw[←az];exact below_drewN (Zc _ wi) nq
   have dl:=((zAI aa).1 _ 0 a8).trans r0;have cv:=((zAI aa).1 _ 1 a8).trans r1;have di:=((zAI aa).1 _ 2 a8).trans r2;have df:=Zg a8 aa.size;have b9:=ef.out wj (bw.o.trans (aa.mono bw.o.size)) aa;have au:=hy' aa;rw[az];clear az aa r0 r1 r2 a8;go_wp2_with fail;refine b9.mono ?_;rintro e q1 ⟨rfl,bj⟩;have ap:=hy' (au.o.trans (bj.mono au.o.size));have ay:=zGF w.heap.size w2.heap.size _ (tx++⟨#[10]⟩) q1 bm (Zi ao ap.o.size) (zDn bt.o ap.o) (by rw[ZV];have:=bc.o;omega);rw[←ck.o]at ay;clear bj b9 dl cv di;go_wp2_with fail;refine ay.mono ?_;rintro e q3 ⟨rfl,ag,bg,ba⟩;have bi:Bd.Kept wi q3:=fun t A xs g1 g2 hs=>bg t A xs g1 g2 (hs.below ap.o)
   have a1:=hy' ag;have a7:=hy' bi;have b7:=hy' (aw.o.trans ((ap.o.mono (Zi (Z8 bm) ao)).trans ba));clear ag bg ba bi ay;go_wp2_with fail;have bl:=dv.o;subst bl;refine⟨⟨k+1,_,_,by omega,by go_num,by rw[bu.o],by rw[bu.o];exact ei.o,fun _=>rfl,a1.o,zGd ax.o a7.o,a7.o _ _ _ (by decide) (by decide) bf.o,b7.o⟩,by simp[intOf];omega⟩
 have mN:¬0<m3:=by have:=bu.o;omega
 obtain rfl:m3=0:=by omega
 clear af b3 ak a6 bx;go_upto_region 6 with (fail)
 go_quiet (fail);obtain⟨wj,az⟩:∃wj,wi.drewN nq=wj:=⟨_,rfl⟩;have aa:Below wi.heap.size wi wj:=by rw[←az];exact below_drewN (Zc _ wi) nq
 have dl:=((zAI aa).1 _ 0 a8).trans r0;have cv:=((zAI aa).1 _ 1 a8).trans r1;have di:=((zAI aa).1 _ 2 a8).trans r2;have df:=Zg a8 aa.size;have b9:=ef.out wj (bw.o.trans (aa.mono bw.o.size)) aa;have au:=hy' aa;rw[az];clear az aa r0 r1 r2 a8;go_wp2_with fail;refine b9.mono ?_;rintro e q1 ⟨rfl,bj⟩;have ap:=hy' (au.o.trans (bj.mono au.o.size));have ay:=zGF w.heap.size w2.heap.size _ (tx++⟨#[10]⟩) q1 bm (Zi ao ap.o.size) (zDn bt.o ap.o) (by rw[ZV];have:=bc.o;omega);rw[←ck.o]at ay;clear bj b9 dl cv di;go_wp2_with fail;refine ay.mono ?_;rintro e q3 ⟨rfl,ag,bg,ba⟩;have bi:Bd.Kept wi q3:=fun t A xs g1 g2 hs=>bg t A xs g1 g2 (hs.below ap.o)
 have a1:=hy' ag;have a7:=hy' bi;have b7:=hy' (aw.o.trans ((ap.o.mono (Zi (Z8 bm) ao)).trans ba));clear ag bg ba bi ay;go_wp2_with fail;have bl:=dv.o;subst bl;refine⟨⟨k+1,_,_,by omega,by go_num,by rw[bu.o],by rw[bu.o];exact ei.o,fx.o,a1.o,zGd ax.o a7.o,a7.o _ _ _ (by decide) (by decide) bf.o,b7.o⟩,by simp[intOf];omega⟩
def zGK:List Int:=[2392,2394,10972,10973,64285,64286,64287,64288,119134,119135]
theorem zLB:C.ok zGK:=⟨by unfold C.srt zGK;decide,by unfold zGK;decide,by decide⟩
theorem zJC:zCL (zAL zGK)=zIl:=by decide +kernel
theorem zSn:zR9=zGK:=by
 have h:=zKY zLB fun d hd=>by
  have h1:zQe (zAL zGK) d=true:=by rw[zGX zGK zLB d];exact hd
  have h2:=(zKh _ d).2 h1;rw[zJC]at h2;exact zR4 d h2
 rw[zJC]at h;exact h
theorem zOs (w:World) (hL:Rw.Laid w):Calls prog 74 #[] w fun e w'=>e=.returned (.string ⟨(zAg zIl).toArray⟩)∧Below w.heap.size w w':=by
 obtain⟨wa,ae⟩:∃wa,w.alloc (.cells #[.int .i32 2392,.int .i32 2393,.int .i32 10972,.int .i32 64285,.int .i32 64287,.int .i32 119134] 21)=wa:=⟨_,rfl⟩;have ah:Below w.heap.size w wa:=by rw[←ae];exact (Zc _ _).alloc (Za _) _
 have ai:Sl wa wa.heap.size (some ⟨w.heap.size,0,none⟩) (zIl.map (Value.int .i32)):=zCj rfl 21 (0,0) (by rw[←ae];exact ZS w _);have hC:=zDe (some ⟨w.heap.size,0,none⟩) 6 6 wa.heap.size zIl wa rfl (by decide) (Za _) ai;have ak:C.chars zIl=zGK:=zSn;rw[ak]at hC;have ap:=hy' ae;have aj:=hy' ah;have HL:=hy' hL;clear ae ah ai ak hL;go_enter func74,ntmps74;go_upto_region 1 with (fail)
 go_wp2_with (first|(go_at_call 107;rw[ap.o];refine hC.mono ?_;rintro e w1 ⟨A1,c1,rfl,aa,ag⟩;have HO:=hy' (Slt.of_own aa);have af:=hy' (aj.o.trans (ag.mono aj.o.size));clear aa ag)|(go_at_call 106;refine (Ex.text_any _ _ 10 zGK zIl _ rfl (by decide) zLB zJC zR4 (by decide) HO.o (HL.o.next af.o).1).mono ?_;rintro e w2 ⟨rfl,ao⟩;have aq:=hy' (af.o.trans (ao.mono af.o.size));clear ao)|fail);go_ret;exact⟨rfl,aq.o⟩
theorem zRM (v:Value) (w:World):(binOp .eql 117 .nilIface (.iface 191 v)).run prog w=.ok (.bool false) w:=run_eql_iface_nil_left (P:=prog) w 191 v underlying117
theorem zR7 (b:Nat) (w:World):Calls prog 75 #[.nilIface,.iface 191 (.pointer (some ⟨b,0,none⟩))] w fun e w'=>e=.returned (.bool false)∧w=w':=by
 have hn:=zRM (.pointer (some ⟨b,0,none⟩));go_enter func75,ntmps75;go_wp2_with fail;go_ret;exact⟨rfl,rfl⟩
theorem zSo (w:World) (hL:Rw.Laid w):Calls prog 45 #[] w fun e w'=>∃p,e=.returned p∧Ud.Is w' p Xt.T zR9∧Below w.heap.size w w':=by
 have ap:=hy' (zOr w hL);have av:=hy' (fun W (hW:Below w.heap.size w W)=>zOs W (hL.next hW))
 have aj:Hy (∀W,Below w.heap.size w W→Calls prog 68 #[.string ⟨Xt.text.toArray⟩,.string ⟨(zAg zIl).toArray⟩] W (zIi Xt.T zR9 W)):=hy' fun W hW =>
  zJq _ _ (by rw[zAy];have:=Xt.text_len;omega) (by rw[zAy];have:=zDl zIl (fun c hc=>Ud.isC_bd (zR4 c hc));have h2:zIl.length=6:=rfl;omega) Xt.T zIl Xt.parse zR5 Xt.ok Xt.bd W (hL.next hW)
 obtain⟨s1,ae⟩:∃y:ByteArray,⟨Xt.text.toArray⟩=y:=⟨_,rfl⟩;obtain⟨s2,aa⟩:∃y:ByteArray,⟨(zAg zIl).toArray⟩=y:=⟨_,rfl⟩;rw[ae]at ap;simp only[aa]at av;simp only[ae,aa]at aj;clear ae aa hL;go_enter func45,ntmps45;go_wp2_with fail;refine ap.o.mono ?_;rintro e w1 ⟨rfl,aq⟩;have ai:=hy' aq;clear aq;go_wp2_with fail;refine (av.o w1 ai.o).mono ?_;rintro e w2 ⟨rfl,ao⟩;have ag:=hy' (ai.o.trans (ao.mono ai.o.size));clear ao;go_wp2_with fail;refine (aj.o w2 ag.o).mono ?_;rintro e w3 ⟨p,rfl,au,ar⟩;have ax:=hy' au;have ak:=hy' (ag.o.trans (ar.mono ag.o.size));clear au ar;go_wp2_with fail;refine (F.of_any 8 w3).mono ?_;rintro e w4 ⟨q,v,rfl,hq,aw,af⟩;rw[Zl (by decide)]at hq
 obtain⟨⟨b,c,n,s⟩,q',rfl⟩:∃x q',q=x::q':=by
  cases q with
  | nil=>simp[F.lk]at hq
  | cons x q'=>exact⟨x,q',rfl⟩
 obtain⟨rfl,_⟩:=aw;have ah:=hy' (ax.o.below af);have ay:=hy' (ak.o.trans (af.mono ak.o.size));clear af hq;go_wp2_with fail;refine (zR7 _ w4).mono ?_;rintro e w5 ⟨rfl,rfl⟩;go_wp2_with fail;go_ret;exact⟨_,rfl,ah.o,ay.o⟩
end Go.Proofs.YtddbccflcekdpaaGreatDoor
