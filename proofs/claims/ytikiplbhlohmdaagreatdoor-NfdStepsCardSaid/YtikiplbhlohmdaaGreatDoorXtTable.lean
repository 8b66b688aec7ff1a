/- The layer extract in plain words: its rows, its lines, and that they are read back and may be. (Printed by wip/genext.py.) -/
import Derived.Test.YtikiplbhlohmdaaGreatDoorUdLoaded
set_option linter.unusedVariables false
set_option linter.unusedSimpArgs false
namespace Go.Proofs.YtikiplbhlohmdaaGreatDoor
open Go.RowKit
def Xt.A:List Rw.Row:=[(192,0,[65,768]),(193,0,[65,769]),(194,0,[65,770]),(195,0,[65,771]),(196,0,[65,776]),(197,0,[65,778]),(199,0,[67,807]),(200,0,[69,768]),(201,0,[69,769]),(202,0,[69,770]),(203,0,[69,776]),(209,0,[78,771]),(214,0,[79,776]),(220,0,[85,776]),(224,0,[97,768]),(225,0,[97,769]),(226,0,[97,770]),(228,0,[97,776]),(229,0,[97,778]),(231,0,[99,807]),(233,0,[101,769]),(234,0,[101,770]),(241,0,[110,771]),(244,0,[111,770]),(246,0,[111,776]),(252,0,[117,776]),(258,0,[65,774]),(259,0,[97,774]),(346,0,[83,769]),(347,0,[115,769]),(350,0,[83,807]),(469,0,[220,772]),(471,0,[220,769]),(478,0,[196,772]),(506,0,[197,769]),(768,230,[]),(769,230,[]),(770,230,[]),(771,230,[]),(772,230,[]),(774,230,[]),(775,230,[]),(776,230,[]),(778,230,[]),(787,230,[]),(795,216,[]),(803,220,[]),(807,202,[]),(808,202,[]),(817,220,[]),(824,1,[]),(832,230,[768]),(833,230,[769]),(835,230,[787]),(836,230,[776,769]),(837,240,[]),(884,0,[697]),(894,0,[59]),(901,0,[168,769]),(903,0,[183]),(940,0,[945,769]),(942,0,[951,769]),(1460,14,[]),(1463,17,[]),(2345,0,[2344,2364]),(2353,0,[2352,2364]),(2356,0,[2355,2364]),(2364,7,[]),(2381,9,[]),(2392,0,[2325,2364]),(2393,0,[2326,2364]),(2507,0,[2503,2494]),(2508,0,[2503,2519]),(3953,129,[]),(3954,130,[]),(3955,0,[3953,3954]),(3956,132,[]),(3957,0,[3953,3956]),(3958,0,[4018,3968]),(3968,130,[]),(3969,0,[3953,3968]),(7688,0,[199,769]),(7690,0,[68,775]),(7691,0,[100,775]),(7692,0,[68,803]),(7693,0,[100,803]),(7776,0,[83,775]),(7777,0,[115,775]),(7778,0,[83,803]),(7779,0,[115,803]),(7780,0,[346,775]),(7781,0,[347,775]),(7784,0,[7778,775]),(7785,0,[7779,775]),(7835,0,[383,775]),(7840,0,[65,803]),(7841,0,[97,803]),(7852,0,[7840,770]),(7853,0,[7841,770]),(7862,0,[7840,774]),(7863,0,[7841,774]),(8192,0,[8194]),(8193,0,[8195]),(8486,0,[937]),(8490,0,[75]),(8491,0,[197]),(8800,0,[61,824]),(8814,0,[60,824]),(10972,0,[10973,824]),(12364,0,[12363,12441]),(12400,0,[12399,12441]),(12401,0,[12399,12442]),(12441,8,[]),(12442,8,[])]
def Xt.B:List Rw.Row:=[(63744,0,[35912]),(64285,0,[1497,1460]),(64287,0,[1522,1463]),(69786,0,[69785,69818]),(69818,7,[]),(119134,0,[119127,119141]),(119141,216,[])]
def Xt.T:List Rw.Row:=Xt.A++Xt.B
def Xt.X:List Int:=[2392,2393,10972,64285,64287,119134]
def Xt.n0:List UInt8:=[72,97,110,103,117,108,32,83,121,108,108,97,98,108,101]
def Xt.f0:List UInt8:=[65,67,48,48,59,60,72,97,110,103,117,108,32,83,121,108,108,97,98,108,101,44,32,70,105,114,115,116,62,59,59,48,59,59,59,59,59,59,59,59,59,59,59]
def Xt.l0:List UInt8:=[68,55,65,51,59,60,72,97,110,103,117,108,32,83,121,108,108,97,98,108,101,44,32,76,97,115,116,62,59,59,48,59,59,59,59,59,59,59,59,59,59,59]
def Xt.w0:List UInt8:=[60,72,97,110,103,117,108,32,83,121,108,108,97,98,108,101,44,32,70,105,114,115,116,62]
def Xt.n1:List UInt8:=[78,111,110,32,80,114,105,118,97,116,101,32,85,115,101,32,72,105,103,104,32,83,117,114,114,111,103,97,116,101]
def Xt.f1:List UInt8:=[68,56,48,48,59,60,78,111,110,32,80,114,105,118,97,116,101,32,85,115,101,32,72,105,103,104,32,83,117,114,114,111,103,97,116,101,44,32,70,105,114,115,116,62,59,59,48,59,59,59,59,59,59,59,59,59,59,59]
def Xt.l1:List UInt8:=[68,66,55,70,59,60,78,111,110,32,80,114,105,118,97,116,101,32,85,115,101,32,72,105,103,104,32,83,117,114,114,111,103,97,116,101,44,32,76,97,115,116,62,59,59,48,59,59,59,59,59,59,59,59,59,59,59]
def Xt.w1:List UInt8:=[60,78,111,110,32,80,114,105,118,97,116,101,32,85,115,101,32,72,105,103,104,32,83,117,114,114,111,103,97,116,101,44,32,70,105,114,115,116,62]
def Xt.n2:List UInt8:=[80,114,105,118,97,116,101,32,85,115,101]
def Xt.f2:List UInt8:=[69,48,48,48,59,60,80,114,105,118,97,116,101,32,85,115,101,44,32,70,105,114,115,116,62,59,59,48,59,59,59,59,59,59,59,59,59,59,59]
def Xt.l2:List UInt8:=[70,56,70,70,59,60,80,114,105,118,97,116,101,32,85,115,101,44,32,76,97,115,116,62,59,59,48,59,59,59,59,59,59,59,59,59,59,59]
def Xt.w2:List UInt8:=[60,80,114,105,118,97,116,101,32,85,115,101,44,32,70,105,114,115,116,62]
def Xt.spans:List (List UInt8):=[Xt.f0,Xt.l0,Xt.f1,Xt.l1,Xt.f2,Xt.l2]
def Xt.text:List UInt8:=Rw.txt Xt.A++((Xt.spans.flatMap fun x=>x++[10])++Rw.txt Xt.B)
def Xt.fineB (r:Rw.Row):Bool:=decide (0≤r.1)&&decide (r.1≤1114111)&&decide (0≤r.2.1)&&decide (r.2.1≤254)&&decide (r.2.2.length≤2)&&(r.2.2.all fun c=>decide (0≤c)&&decide (c≤1114111))&&C.isC r.1
theorem Xt.fine_of {r:Rw.Row} (h:Xt.fineB r=true):Rw.fine r:=by
 unfold Xt.fineB at h
 simp only[ZB,Zm,Yh]at h
 obtain⟨⟨⟨⟨⟨⟨h1,h2⟩,h3⟩,h4⟩,h5⟩,h6⟩,h7⟩:=h
 exact⟨⟨h1,h2,h3,h4,h5,h6⟩,.inl h7⟩
def Xt.riseB:Int→List Rw.Row→Bool
 | _,[]=>true
 | c,r::l=>decide (c<r.1)&&Xt.riseB r.1 l
theorem Xt.rise_of:∀(l:List Rw.Row) (c:Int),Xt.riseB c l=true→Rw.rise c l
 | [],_,_=>trivial
 | r::l,c,h=>by
   unfold Xt.riseB at h
   rw[ZB,Zm]at h
   exact⟨h.1,Xt.rise_of l r.1 h.2⟩
theorem Xt.fineA:∀r∈Xt.A,Rw.fine r:=fun r hr=>Xt.fine_of (List.all_eq_true.1 (show Xt.A.all Xt.fineB=true by decide +kernel) r hr)
theorem Xt.fineB':∀r∈Xt.B,Rw.fine r:=fun r hr=>Xt.fine_of (List.all_eq_true.1 (show Xt.B.all Xt.fineB=true by decide +kernel) r hr)
theorem Xt.riseA:Rw.rise (-1) Xt.A:=Xt.rise_of _ _ (by decide +kernel)
theorem Xt.riseBB:Rw.rise 63743 Xt.B:=Xt.rise_of _ _ (by decide +kernel)
theorem Xt.loudA:Xt.A.filter (fun r=>!Rw.quiet r)=Xt.A:=by decide +kernel
theorem Xt.loudB:Xt.B.filter (fun r=>!Rw.quiet r)=Xt.B:=by decide +kernel
theorem Xt.step_first (out:List Rw.Row) (c d:Int) (l w:List UInt8) (h1:Rw.row (Fi.spl 59 [] l)=some (d,0,[])) (h2:Rw.ranged [] ((Fi.spl 59 [] l).getD 1 []) true=some w) (hc:c<d):Rw.step (out,c,[]) l=some (out,d,w):=by
 unfold Rw.step
 rw[h1,Zr]
 dsimp only
 rw[Zp hc,show Rw.quiet (d,0,[])=true from rfl,h2,Zr,Zp (.inr rfl),Zp rfl]
theorem Xt.step_last (out:List Rw.Row) (c d:Int) (l w:List UInt8) (h1:Rw.row (Fi.spl 59 [] l)=some (d,0,[])) (h2:Rw.ranged w ((Fi.spl 59 [] l).getD 1 []) true=some []) (hc:c<d):Rw.step (out,c,w) l=some (out,d,[]):=by
 unfold Rw.step
 rw[h1,Zr]
 dsimp only
 rw[Zp hc,show Rw.quiet (d,0,[])=true from rfl,h2,Zr,Zp (.inr rfl),Zp rfl]
theorem Xt.steps_spans (out:List Rw.Row) (c:Int) (hc:c<44032):Rw.steps (out,c,[]) Xt.spans=some (out,63743,[]):=by
 unfold Xt.spans Rw.steps
 rw[Xt.step_first out c 44032 Xt.f0 Xt.w0 (by decide +kernel) (by decide +kernel) hc,Zr]
 unfold Rw.steps
 rw[Xt.step_last out 44032 55203 Xt.l0 Xt.w0 (by decide +kernel) (by decide +kernel) (by decide),Zr]
 unfold Rw.steps
 rw[Xt.step_first out 55203 55296 Xt.f1 Xt.w1 (by decide +kernel) (by decide +kernel) (by decide),Zr]
 unfold Rw.steps
 rw[Xt.step_last out 55296 56191 Xt.l1 Xt.w1 (by decide +kernel) (by decide +kernel) (by decide),Zr]
 unfold Rw.steps
 rw[Xt.step_first out 56191 57344 Xt.f2 Xt.w2 (by decide +kernel) (by decide +kernel) (by decide),Zr]
 unfold Rw.steps
 rw[Xt.step_last out 57344 63743 Xt.l2 Xt.w2 (by decide +kernel) (by decide +kernel) (by decide),Zr]
 rfl
theorem Xt.steps_to:∀(l:List Rw.Row) (out:List Rw.Row) (c:Int),(∀r∈l,Rw.fine r)→Rw.rise c l→Rw.steps (out,c,[]) (l.map Rw.line)=some (out++l.filter (fun r=>!Rw.quiet r),Rw.lastC c l,[])
 | [],out,c,_,_=>by simp[Rw.steps,Rw.lastC]
 | r::l,out,c,h,hr=>by
   have h1:=h r Zv
   rw[ZT,Rw.steps,Rw.step_line out c r h1.1 hr.1 h1.2,Zr,Xt.steps_to l _ r.1 (fun q hq=>h q (Zx _ hq)) hr.2,Yo]
   cases Rw.quiet r <;> simp[Rw.lastC]
def Xt.lines:List (List UInt8):=Xt.A.map Rw.line++(Xt.spans++Xt.B.map Rw.line)
theorem Xt.text_lines:Xt.text=Xt.lines.flatMap fun x=>x++[10]:=by
 unfold Xt.text Xt.lines
 rw[Y3,Y3,Rw.txt_eq,Rw.txt_eq]
theorem Xt.lines_ok:∀x∈Xt.lines,Rw.okl x=true:=by
 intro x hx
 unfold Xt.lines at hx
 rcases List.mem_append.1 hx with h|h
 · obtain⟨r,h1,rfl⟩:=List.mem_map.1 h
   exact Rw.line_ok r (Xt.fineA r h1).1
 · rcases List.mem_append.1 h with h|h
   · exact List.all_eq_true.1 (show Xt.spans.all Rw.okl=true by decide +kernel) x h
   · obtain⟨r,h1,rfl⟩:=List.mem_map.1 h
     exact Rw.line_ok r (Xt.fineB' r h1).1
theorem Xt.lens:Xt.A.length=114∧Xt.B.length=7:=⟨rfl,rfl⟩
theorem Xt.parse:Rw.parse Xt.text=some Xt.T:=by
 unfold Rw.parse
 rw[Xt.text_lines,Rw.lns_text _ fun x hx=>Ex.ok_no (Xt.lines_ok x hx)]
 rw[if_pos ⟨List.all_eq_true.2 Xt.lines_ok,by unfold Xt.lines;rw[List.length_append,List.length_append,List.length_map,List.length_map,Xt.lens.1,Xt.lens.2];decide⟩]
 unfold Xt.lines
 rw[Rw.steps_app,Xt.steps_to _ _ _ Xt.fineA Xt.riseA,Zr,Rw.steps_app,Xt.steps_spans _ _ (by decide +kernel),Zr,Xt.steps_to _ _ _ Xt.fineB' Xt.riseBB,Zr,Xt.loudA,Xt.loudB]
 rfl
theorem Xt.text_len:Xt.text.length≤200000:=by
 unfold Xt.text
 have h1:=Rw.txt_len Xt.A fun r hr=>(Xt.fineA r hr).1
 have h2:=Rw.txt_len Xt.B fun r hr=>(Xt.fineB' r hr).1
 have h3:(Xt.spans.flatMap fun x=>x++[10]).length≤1000:=by decide +kernel
 rw[Xt.lens.1]at h1
 rw[Xt.lens.2]at h2
 rw[Ze,Ze]
 omega
theorem Xt.xC:∀c∈Xt.X,C.isC c=true:=fun c hc=>List.all_eq_true.1 (show Xt.X.all C.isC=true by decide +kernel) c hc
theorem Xt.chk0:Md.chk Xt.T (Md.xs Xt.X)=0:=by decide +kernel
def Xt.S:List Int:=C.chars Xt.X
theorem Xt.mem:C.mem Xt.S=Md.xs Xt.X:=Md.mem_chars Xt.xC
theorem Xt.ok:Ud.Ok Xt.T Xt.S:=by
 have h:=C.chars_len Xt.X
 refine⟨by rw[Xt.mem];exact Xt.chk0,(C.chars_spec _).1.1,by decide +kernel,?_⟩
 show (C.chars Xt.X).length≤1000000
 have:Xt.X.length=6:=rfl
 omega
theorem Xt.parseX:Ex.parse (Ex.btxt Xt.X)=some Xt.X:=Ex.parse_btxt Xt.X Xt.xC (by decide +kernel) (by decide)
theorem Xt.bd:Md.bd Xt.T:=Xt.ok.bd
end Go.Proofs.YtikiplbhlohmdaaGreatDoor
namespace Go.Proofs.YtikiplbhlohmdaaGreatDoor
open Go.RowKit Go.Stop
theorem Jn.len (sep:List UInt8) (M:Nat):∀xs:List (List UInt8),(∀x∈xs,x.length≤M)→(Lib.join xs sep).length≤xs.length*(M+sep.length)
 | [],_=>by rw[Lib.join_nil];simp
 | x::r,h=>by
   rw[Lib.join_cons,Ze]
   have h1:=h x (by simp)
   have h2:∀r:List (List UInt8),(∀x∈r,x.length≤M)→(Lib.joinTail sep r).length≤r.length*(M+sep.length):=by
    intro r
    induction r with
    | nil=>intro _;simp[Lib.joinTail]
    | cons y t ih =>
      intro hy
      have h3:=ih (fun z hz=>hy z (by simp[hz]))
      have h4:=hy y (by simp)
      simp only[Lib.joinTail,ZT,List.flatten_cons,Ze,ZI]at h3 ⊢
      rw[Nat.succ_mul]
      omega
   have h5:=h2 r (fun z hz=>h z (by simp[hz]))
   rw[ZI,Nat.succ_mul]
   omega
theorem Jn.any (A:Option Addr) (c B n:Nat) (xs:List ByteArray) (sep:ByteArray) (w:World) (hn:xs.length=n) (h0:0<n) (hB:B≤w.heap.size) (hA:Sl w B A (xs.map Value.string)) (hc:n≤c) (hN:n≤1000000) (hl:∀x∈xs,x.size≤10000) (ae:sep.size≤10) :
 Calls Tryz.prog 96 #[.slice A n c,.string sep] w fun e w'=>e=.returned (.string ⟨(Lib.join (xs.map (·.data.toList)) sep.data.toList).toArray⟩)∧Below w.heap.size w w':=by
 subst hn
 obtain⟨b,o,rfl,hb,hcell⟩:=hA (by rw[Zg];exact h0)
 have hlen:=Jn.len sep.data.toList 10000 (xs.map (·.data.toList)) (fun x hx=>by
  obtain⟨y,hy,rfl⟩:=List.mem_map.1 hx
  have:=hl y hy
  simpa using this)
 have aa:sep.data.toList.length=sep.size:=by simp
 rw[Zg,aa]at hlen
 have:xs.length*(10000+sep.size)≤1000000*10010:=Nat.mul_le_mul hN (by omega)
 refine (Tryz.strings_Join b o c xs sep w ?_ (by omega) (by omega) hc (by omega))
 intro j x hx
 have hj:=(List.getElem?_eq_some_iff.1 hx).1
 rw[hcell j (by rw[Zg];exact hj),Zu,hx]
 rfl
end Go.Proofs.YtikiplbhlohmdaaGreatDoor
namespace Go.Proofs.YtikiplbhlohmdaaGreatDoor
open Go.RowKit
theorem Rw.ba_size' (l:List UInt8):(⟨l.toArray⟩:ByteArray).size=l.length:=by show l.toArray.size=_;simp
theorem Rw.itoa_pos (k:Int) (h:0≤k):Lib.itoa k=Lib.decDigits k.toNat:=by
 unfold Lib.itoa
 rw[Zl (by omega)]
theorem Rw.hex_call (c:Int) (h0:0≤c) (h1:c<16777216) (w:World) (hL:Rw.Laid w) :
 Calls Tryz.prog 94 #[.int .i32 c] w fun e w'=>e=.returned (.string ⟨(Fi.text c.toNat).toArray⟩)∧Below w.heap.size w w':=by
 obtain⟨n,rfl⟩:∃n:Nat,c=n:=⟨c.toNat,by omega⟩
 rw[YX]
 exact Fi.text_any n (by omega) w hL.1
theorem Rw.itoa_call (k:Int) (h0:0≤k) (h1:k≤1000000000) (w:World) (hL:Rw.Laid w) :
 Calls Tryz.prog 95 #[.int .i64 k] w fun e w'=>e=.returned (.string ⟨(Lib.decDigits k.toNat).toArray⟩)∧Below w.heap.size w w':=by
 rw[←Rw.itoa_pos k h0]
 exact Fi.itoa_any k (by omega) (by omega) w hL.2
def Rw.cellsF (x0 x3 x5:ByteArray):List Value:=[.string x0,.string ⟨#[88]⟩,.string ⟨#[]⟩,.string x3,.string ⟨#[]⟩,.string x5,.string ⟨#[]⟩,.string ⟨#[]⟩,.string ⟨#[]⟩,.string ⟨#[]⟩,.string ⟨#[]⟩,.string ⟨#[]⟩,.string ⟨#[]⟩,.string ⟨#[]⟩,.string ⟨#[]⟩]
def Rw.strF (x0 x3 x5:ByteArray):List ByteArray:=[x0,⟨#[88]⟩,⟨#[]⟩,x3,⟨#[]⟩,x5,⟨#[]⟩,⟨#[]⟩,⟨#[]⟩,⟨#[]⟩,⟨#[]⟩,⟨#[]⟩,⟨#[]⟩,⟨#[]⟩,⟨#[]⟩]
theorem Rw.strF_size (x0 x3 x5:ByteArray) (h0:x0.size≤10000) (h3:x3.size≤10000) (h5:x5.size≤10000):∀x∈Rw.strF x0 x3 x5,x.size≤10000:=by
 intro x hx
 have he:(⟨#[]⟩:ByteArray).size=0:=rfl
 have aa:(⟨#[88]⟩:ByteArray).size=1:=rfl
 unfold Rw.strF at hx
 simp only[Xd,YS,or_false]at hx
 rcases hx with rfl|rfl|rfl|rfl|rfl|rfl|rfl|rfl|rfl|rfl|rfl|rfl|rfl|rfl|rfl <;> omega
theorem Rw.join_glue (c:UInt8):∀l:List (List UInt8),Lib.join l [c]=Fi.glue c l
 | []=>by rw[Lib.join_nil];rfl
 | x::r=>by
   rw[Lib.join_cons]
   rfl
theorem Rw.join_line (c k:Int) (m:List Int):Lib.join ((Rw.strF ⟨(Fi.text c.toNat).toArray⟩ ⟨(Lib.decDigits k.toNat).toArray⟩ ⟨(Rw.mtext m).toArray⟩).map (·.data.toList)) [59]=Rw.line (c,k,m):=by
 rw[Rw.join_glue]
 unfold Rw.strF Rw.line Rw.mtext
 simp[Fi.glue]
theorem Rw.mtext_le (m:List Int) (hm:m.length≤2) (hc:∀x∈m,0≤x∧x≤1114111):(Rw.mtext m).length≤10000:=by
 unfold Rw.mtext
 rcases m with _|⟨a,_|⟨b,_|⟨d,t⟩⟩⟩
 · simp[Fi.glue]
 · have:=Fi.text_le a.toNat (by have:=(hc a (by simp)).2;omega)
   simp[Fi.glue];omega
 · have h1:=Fi.text_le a.toNat (by have:=(hc a (by simp)).2;omega)
   have h2:=Fi.text_le b.toNat (by have:=(hc b (by simp)).2;omega)
   simp[Fi.glue];omega
 · simp at hm
def Rw.cells0:List Value:=[.string ByteArray.empty,.string ByteArray.empty,.string ByteArray.empty,.string ByteArray.empty,.string ByteArray.empty,.string ByteArray.empty,.string ByteArray.empty,.string ByteArray.empty,.string ByteArray.empty,.string ByteArray.empty,.string ByteArray.empty,.string ByteArray.empty,.string ByteArray.empty,.string ByteArray.empty,.string ByteArray.empty]
theorem Rw.make15 (w:World):(Instr.makeSlice 148 (.int .i64 15) (.int .i64 15)).run Tryz.prog w=.ok (.slice (some ⟨w.heap.size,0,none⟩) 15 15) (w.alloc (.cells Rw.cells0.toArray 9)):=by kernel_rfl
set_option maxRecDepth 100000 in
set_option maxHeartbeats 4000000 in
theorem Rw.pline_any (c k:Int) (A:Option Addr) (m:List Int) (n cp B:Nat) (w:World) (c0:0≤c) (c1:c≤1114111) (k0:0≤k) (k1:k≤254) (hn:m.length=n) (hm:n≤2) (hmb:∀x∈m,0≤x∧x≤1114111)
 (hB:B≤w.heap.size) (hA:Sl w B A (m.map (Value.int .i32))) (hL:Rw.Laid w) :
 Calls Tryz.prog 63 #[.agg #[.int .i32 c,.int .i64 k,.slice A n cp]] w fun e w'=>e=.returned (.string ⟨(Rw.line (c,k,m)).toArray⟩)∧Below w.heap.size w w':=by
 have hX:=Rw.hex_call c c0 (by omega)
 have hK:=Rw.itoa_call k k0 (by omega)
 obtain⟨x0,bb⟩:∃x:ByteArray,⟨(Fi.text c.toNat).toArray⟩=x:=⟨_,rfl⟩
 obtain⟨x3,ba⟩:∃x:ByteArray,⟨(Lib.decDigits k.toNat).toArray⟩=x:=⟨_,rfl⟩
 simp only[bb]at hX
 simp only[ba]at hK
 have bs:=Za bb
 have bq:=Za ba
 have HN:=Za hn
 have bc:=Za hmb
 clear bb ba hn hmb
 have ct:=Rw.make15
 go_enter Tryz.func63,Tryz.ntmps63
 go_upto_region 2 with (fail)
 obtain⟨wa,aq⟩:∃wa,(w.alloc (.cells #[.int .i32 c,.int .i64 k,.slice A n cp] 113)).alloc (.cells Rw.cells0.toArray 9)=wa:=⟨_,rfl⟩
 have hz:w.heap.size+1<wa.heap.size:=by rw[←aq];simp
 have ae:Below w.heap.size w wa:=by rw[←aq];exact ((Zd _ _).alloc (Zb _) _).alloc (by simp) _
 have ar:Rw.At wa w.heap.size 113 [.int .i32 c,.int .i64 k,.slice A n cp]:=by rw[←aq];exact (Rw.At.new w 113 [.int .i32 c,.int .i64 k,.slice A n cp]).alloc _
 have ay:Rw.At wa (w.heap.size+1) 9 Rw.cells0:=by
  have h:=Rw.At.new (w.alloc (.cells #[.int .i32 c,.int .i64 k,.slice A n cp] 113)) 9 Rw.cells0
  rw[ZH]at h
  rw[←aq]
  exact h
 have bf:=hL.next ae
 first
  | rw[aq]
  | (show Code.wp _ _ _ _ ((w.alloc (.cells #[.int .i32 c,.int .i64 k,.slice A n cp] 113)).alloc (.cells Rw.cells0.toArray 9));rw[aq])
 clear aq
 obtain⟨d1,d2,d3,_,_,_⟩:=ar.three
 go_cut [] (fun wx=>Rw.At wx (w.heap.size+1) 9 (Rw.cellsF x0 x3 ⟨#[]⟩)∧Below (w.heap.size+1) wa wx)
 case first =>
  have b6:Rw.Laid wa.drew:=bf.next (Zd _ _).drew
  have cb:w.heap.size<wa.heap.size:=by omega
  go_region_with (first
   | (go_at_call 94;refine (hX _ b6).mono ?_;rintro e wq ⟨rfl,bz⟩;have ai:Below wa.heap.size wa wq:=((Zd _ _).drew).trans bz;have cw:wq.cell? ⟨w.heap.size,1,none⟩=some (.int .i64 k):=((bcell ai).1 _ _ cb).trans d2;have b1:=bf.next ai)
   | (go_at_call 95;refine (hK _ b1).mono ?_;rintro e wz ⟨rfl,ch⟩;have bl:Below wa.heap.size wa wz:=ai.trans (ch.mono ai.size);have ag:=ay.below' bl hz;have y0:=ag.cell 0 rfl;have y1:=ag.cell 1 rfl;have y3:=ag.cell 3 rfl;have g0:=ag.frozen 0;have g1:=ag.frozen 1;have g3:=ag.frozen 3)
   | fail)
  all_goals
   go_wp2_with fail
   go_meet
   exact⟨((ag.set 0 (.string x0)).set 1 (.string ⟨#[88]⟩)).set 3 (.string x3),(((bl.mono (Ya hz)).setCell (p:=⟨w.heap.size+1,0,none⟩) (Zb _) _).setCell (p:=⟨w.heap.size+1,1,none⟩) (Zb _) _).setCell (p:=⟨w.heap.size+1,3,none⟩) (Zb _) _⟩
 case rest =>
  obtain⟨ap,ai⟩:=hcut
  obtain⟨wx,rfl⟩:∃wx:World,wx=wc:=⟨_,rfl⟩
  have ak:=ar.below' ai (ZS _)
  obtain⟨f1,f2,f3,_,_,_⟩:=ak.three
  have bw:Sl wx B A (m.map (Value.int .i32)):=(hA.below (ae.mono hB) (Zb _)).below (ai.mono (show B≤w.heap.size+1 by omega)) (Zb _)
  have bk:Rw.Laid wx:=hL.next (ae.trans (ai.mono (ZZ _)))
  have cc:w.heap.size+1<wx.heap.size:=ap.lt
  have bx:=Za (ae.trans (ai.mono (ZZ _)))
  clear d1 d2 d3 ar ay ae bf hX hK ak ai f1 f2
  obtain⟨i0,hi,b8,cq,cj⟩:=Z7 Rw.infoStr
  have b9:=Za bw
  have b7:=Za hL
  have cv:=Za bk
  have b4:=Za ap
  clear bw bk hA hL ap
  go_wp2_with fail
  go_loopw [4,6,23] (fun v _ i wr=>∃j:Nat,j≤n∧i=.int .i64 j∧wr.ownsRow (w.heap.size+2) 9 1 v j ((m.take j).map fun x=>Value.string ⟨(Fi.text x.toNat).toArray⟩)∧Below (w.heap.size+2) wx wr) (fun _ _ i _=>n-(intOf i).toNat)
  case atStart=>exact⟨0,ZE _,rfl,ZC _ _ _ _,Zd _ _⟩
  case round =>
   obtain⟨j,hj,rfl,af,aa⟩:=hrel
   have bo:w.heap.size+2≤wr.heap.size:=Zh cc aa.size
   have cf:Rw.Laid wr:=b7.out.next (bx.out.trans (aa.mono (by omega)))
   by_cases hlt:j<n
   · obtain⟨x,hx⟩:∃x,m[j]?=some x:=⟨_,Zc (by rw[HN.out];exact hlt)⟩
     have hxb:=bc.out x (Zk hx)
     obtain⟨ab,ao,rfl,cr,bp⟩:=b9.out (by rw[Zg,HN.out];omega)
     have hc:=bp j (by rw[Zg,HN.out];exact hlt)
     rw[Zu,hx,Zt,←(bcell aa).1 _ _ (by omega)]at hc
     have hT:=Rw.hex_call x hxb.1 (by omega) wr cf
     have ah:(m.take (j+1)).map (fun x=>Value.string ⟨(Fi.text x.toNat).toArray⟩)=(m.take j).map (fun x=>Value.string ⟨(Fi.text x.toNat).toArray⟩)++[Value.string ⟨(Fi.text x.toNat).toArray⟩]:=by
      rw[Zw,hx];simp
     obtain⟨tx,bh⟩:∃y:ByteArray,⟨(Fi.text x.toNat).toArray⟩=y:=⟨_,rfl⟩
     rw[bh]at ah
     simp only[bh]at hT
     have jI:(j:Int)<n:=by omega
     have cg:=Za ah
     have bj:=Za aa
     have bi:=Za af
     clear ah aa af hx bp bh
     go_wp2_with fail
     refine hT.mono ?_
     rintro e w3 ⟨rfl,a6⟩
     have az:=own_below bi.out a6 (Zb _)
     have ck:=Za (bj.out.trans (a6.mono bo))
     have b3:w.heap.size+2≤w3.heap.size:=Zh bo a6.size
     clear a6 hT
     go_wp2_with (first|(at_builtin;refine wpList_push1 _ rfl _ _ _ rfl (w.heap.size+2) 9 i0 _ 16 Tryz.underlying148 hi b8 cq cj rfl _ j _ rfl az _ rfl rfl (by simp only[maxLen];omega) (by omega) b3 ?_;intro v1 w4 a1 b5)|fail)
     exact⟨⟨j+1,by omega,by go_num,by rw[cg.out];exact a1,ck.out.trans b5⟩,by simp[intOf];omega⟩
   · obtain rfl:j=n:=by omega
     have jI:¬(j:Int)<j:=by omega
     rw[Zj (by rw[HN.out];exact Zb _)]at af
     obtain⟨A4,c4,rfl⟩:=own_form af
     have bn:=Sl.of_own af
     have av:j≤c4:=by
      rcases af.2 with ⟨hv,h0⟩|⟨g,cap,cu,hv,_,_,cy,_⟩
      · omega
      · simp only[Z3]at hv
        omega
     have hJ:∀W:World,W=wr→Calls Tryz.prog 96 #[.slice A4 j c4,.string ⟨#[32]⟩] W fun e w'=>e=.returned (.string ⟨(Rw.mtext m).toArray⟩)∧Below W.heap.size W w':=by
      rintro W rfl
      rcases Yz j with hj0|hj0
      · have cn:m=[]:=List.length_eq_zero_iff.1 (by rw[HN.out];exact hj0)
        subst hj0
        refine (Tryz.strings_Join_none A4 c4 ⟨#[32]⟩ W).mono ?_
        rintro e w' ⟨rfl,rfl⟩
        exact⟨by rw[cn];rfl,Zd _ _⟩
      · have h:=Jn.any A4 c4 W.heap.size j (m.map fun x=>⟨(Fi.text x.toNat).toArray⟩) ⟨#[32]⟩ W (by rw[Zg,HN.out]) hj0 (Zb _) (by rw[Xc];exact bn) av (by omega) (fun y hy=>by
         obtain⟨x,hx,rfl⟩:=List.mem_map.1 hy
         rw[Rw.ba_size']
         have:=Fi.text_le x.toNat (by have:=bc.out x hx;omega)
         omega) (by decide)
        refine h.mono ?_
        rintro e w' ⟨rfl,hb⟩
        refine⟨?_,hb⟩
        rw[Xc,show (⟨#[32]⟩:ByteArray).data.toList=[32] from rfl,Rw.join_glue]
        rfl
     have ax:=b4.out.below' aa (ZS _)
     have b2:=Za (bx.out.trans (aa.mono (show w.heap.size≤w.heap.size+2 by omega)))
     obtain⟨mt,a8⟩:∃y:ByteArray,⟨(Rw.mtext m).toArray⟩=y:=⟨_,rfl⟩
     simp only[a8]at hJ
     have br:=Za a8
     clear af bn av aa a8
     go_wp2_with fail
     refine (hJ _ rfl).mono ?_
     rintro e w5 ⟨rfl,a7⟩
     have aj:=ax.below a7
     have y5:=aj.cell 5 rfl
     have g5:=aj.frozen 5
     have au:=aj.set 5 (.string mt)
     have cx:wr.heap.size≤w5.heap.size:=a7.size
     have cd:w.heap.size+1<w5.heap.size:=by omega
     have bt:=Za (((b2.out.trans (a7.mono (by omega))).setCell (p:=⟨w.heap.size+1,5,none⟩) (show w.heap.size≤w.heap.size+1 by omega) (.string mt)))
     have bm:Sl (w5.setCell ⟨w.heap.size+1,5,none⟩ (.string mt)) (w5.setCell ⟨w.heap.size+1,5,none⟩ (.string mt)).heap.size (some ⟨w.heap.size+1,0,none⟩) ((Rw.strF x0 x3 mt).map Value.string) :=
      Sl.lit rfl _ _ au
     have bg:=Jn.any (some ⟨w.heap.size+1,0,none⟩) 15 _ 15 (Rw.strF x0 x3 mt) ⟨#[59]⟩ (w5.setCell ⟨w.heap.size+1,5,none⟩ (.string mt)) rfl (by decide) (Zb _) bm (Zb _) (by decide) (Rw.strF_size x0 x3 mt (by rw[←bs.out,Rw.ba_size'];have:=Fi.text_le c.toNat (by omega);omega) (by
      rw[←bq.out,Rw.ba_size']
      have:=Fi.dec_len 9 k.toNat (by rw[show (10:Nat) ^ (9+1)=10000000000 from by decide];omega)
      omega) (by
      rw[←br.out,Rw.ba_size']
      exact Rw.mtext_le m (by rw[HN.out];exact hm) bc.out)) (by decide)
     have aw:(⟨(Lib.join ((Rw.strF x0 x3 mt).map (·.data.toList)) (⟨#[59]⟩:ByteArray).data.toList).toArray⟩:ByteArray)=⟨(Rw.line (c,k,m)).toArray⟩:=by
      rw[←bs.out,←bq.out,←br.out]
      exact Z4 (fun l:List UInt8=>(⟨l.toArray⟩:ByteArray)) (Rw.join_line c k m)
     rw[aw]at bg
     clear aj au bm a7 hJ ax aw
     go_wp2_with fail
     refine bg.mono ?_
     rintro e w7 ⟨rfl,bu⟩
     have cm:=Za (bt.out.trans (bu.mono bt.out.size))
     clear bu bg
     go_wp2_with fail
     go_ret
     exact⟨rfl,cm.out⟩
def Xt.spCells:List Value:=[.int .i32 44032,.int .i32 55203,.string ⟨Xt.n0.toArray⟩,.int .i32 55296,.int .i32 56191,.string ⟨Xt.n1.toArray⟩,.int .i32 57344,.int .i32 63743,.string ⟨Xt.n2.toArray⟩]
theorem Xt.spans_any (w:World):Calls Tryz.prog 59 #[] w fun e w'=>e=.returned (.slice (some ⟨w.heap.size,0,none⟩) 3 3)∧Rw.At w' w.heap.size 115 Xt.spCells∧Below w.heap.size w w':=by
 go_enter Tryz.func59,Tryz.ntmps59
 go_wp2_with fail
 go_ret
 exact⟨rfl,Rw.At.new w 115 Xt.spCells,(Zd _ _).alloc (Zb _) _⟩
def Xt.ln (c:Nat) (nm en:List UInt8):List UInt8:=Fi.text c++([59,60]++(nm++([44,32]++(en++[62,59,59,48,59,59,59,59,59,59,59,59,59,59,59,10]))))
set_option maxRecDepth 100000 in
set_option maxHeartbeats 4000000 in
theorem Xt.line_any (f t:Int) (c:Nat) (nm en:List UInt8) (w:World) (hc:c≤1114111) (hn:nm.length≤100) (he:en.length≤100) (hL:Fi.Laid w) :
 Calls Tryz.prog 62 #[.agg #[.int .i32 f,.int .i32 t,.string ⟨nm.toArray⟩],.int .i32 c,.string ⟨en.toArray⟩] w fun e w'=>e=.returned (.string ⟨(Xt.ln c nm en).toArray⟩)∧Below w.heap.size w w':=by
 obtain⟨wa,ae⟩:∃wa,w.alloc (.cells #[.int .i32 f,.int .i32 t,.string ⟨nm.toArray⟩] 115)=wa:=⟨_,rfl⟩
 have ar:Below w.heap.size w wa:=by rw[←ae];exact (Zd _ _).alloc (Zb _) _
 have aj:Rw.At wa w.heap.size 115 [.int .i32 f,.int .i32 t,.string ⟨nm.toArray⟩]:=by rw[←ae];exact Rw.At.new w 115 [.int .i32 f,.int .i32 t,.string ⟨nm.toArray⟩]
 have hT:=fun W (hW:Below w.heap.size w W)=>Fi.text_any c (by omega) W (hL.below hW)
 have af:∀x:ByteArray,x=⟨(Fi.text c).toArray⟩→((((x++⟨#[59,60]⟩)++⟨nm.toArray⟩)++⟨#[44,32]⟩)++⟨en.toArray⟩)++⟨#[62,59,59,48,59,59,59,59,59,59,59,59,59,59,59,10]⟩=(⟨(Xt.ln c nm en).toArray⟩:ByteArray):=by
  rintro x rfl
  rw[show (⟨#[59,60]⟩:ByteArray)=⟨[59,60].toArray⟩ from rfl,show (⟨#[44,32]⟩:ByteArray)=⟨[44,32].toArray⟩ from rfl,show (⟨#[62,59,59,48,59,59,59,59,59,59,59,59,59,59,59,10]⟩:ByteArray)=⟨[62,59,59,48,59,59,59,59,59,59,59,59,59,59,59,10].toArray⟩ from rfl,Fi.ba_app,Fi.ba_app,Fi.ba_app,Fi.ba_app,Fi.ba_app]
  unfold Xt.ln
  simp
 obtain⟨tx,ah⟩:∃y:ByteArray,⟨(Fi.text c).toArray⟩=y:=⟨_,rfl⟩
 have hr:=af tx ah.symm
 have t6:tx.size≤6:=by
  rw[←ah]
  show (Fi.text c).toArray.size≤6
  have:=Fi.text_le c hc
  simpa using this
 obtain⟨n1,ag⟩:∃y:ByteArray,⟨nm.toArray⟩=y:=⟨_,rfl⟩
 obtain⟨e1,ak⟩:∃y:ByteArray,⟨en.toArray⟩=y:=⟨_,rfl⟩
 have aw:n1.size≤100:=by rw[←ag,Rw.ba_size];exact hn
 have ay:e1.size≤100:=by rw[←ak,Rw.ba_size];exact he
 rw[ag,ak]at hr ⊢
 rw[ag]at aj ae
 simp only[ah]at hT
 obtain⟨ax,aa⟩:∃y:ByteArray,⟨(Xt.ln c nm en).toArray⟩=y:=⟨_,rfl⟩
 rw[aa]at hr ⊢
 have s2:(⟨#[59,60]⟩:ByteArray).size=2:=rfl
 have s3:(⟨#[44,32]⟩:ByteArray).size=2:=rfl
 have s4:(⟨#[62,59,59,48,59,59,59,59,59,59,59,59,59,59,59,10]⟩:ByteArray).size=16:=rfl
 have HR:=Za hr
 have av:=Za ae
 have ao:=Za ar
 have aq:=Za aj
 have HT:=Za hT
 clear hr af ah ae ar aj hT ag ak aa hL hn he
 go_enter Tryz.func62,Tryz.ntmps62
 go_upto_region 1 with (fail)
 rw[av.out]
 refine Stg.wp_region Stg.Ex Stg.Ex.rel (by kernel_rfl) (by kernel_rfl) (by kernel_rfl) ?_
 refine Stg.readW (by kernel_rfl) (by kernel_rfl) (by kernel_rfl) ?_;intro K hK;go_big_quiet_op;go_big_quiet_on
 refine Stg.call 94 _ _ rfl (C.enter Tryz.func94 (by kernel_rfl) rfl) [.int .i32 c] rfl wa.drew _ (HT.out wa.drew ao.out.drew) (by kernel_rfl) rfl (by kernel_rfl) ?_
 rintro e w1 ⟨rfl,ai⟩
 refine⟨_,rfl,ai,?_⟩
 have au:=Za (ao.out.drew.trans (ai.mono ao.out.size))
 clear ai
 intro A' ap;simp only[Act.put,Zs,ZF,ZD]at ap;subst ap
 have e2:=Stg.cells (w:=wa.drew) (aq.out.cell 2 rfl) aq.out.lt
 have c1:¬9223372036854775807<tx.size+(⟨#[59,60]⟩:ByteArray).size:=by omega
 have c2:¬9223372036854775807<(tx++⟨#[59,60]⟩).size+n1.size:=by rw[ZR];omega
 have c3:¬9223372036854775807<((tx++⟨#[59,60]⟩)++n1).size+(⟨#[44,32]⟩:ByteArray).size:=by rw[ZR,ZR];omega
 have c4:¬9223372036854775807<(((tx++⟨#[59,60]⟩)++n1)++⟨#[44,32]⟩).size+e1.size:=by rw[ZR,ZR,ZR];omega
 have c5:¬9223372036854775807<((((tx++⟨#[59,60]⟩)++n1)++⟨#[44,32]⟩)++e1).size+(⟨#[62,59,59,48,59,59,59,59,59,59,59,59,59,59,59,10]⟩:ByteArray).size:=by rw[ZR,ZR,ZR,ZR];omega
 iterate 2 (refine Stg.readW (by kernel_rfl) (by kernel_rfl) (by kernel_rfl) ?_;intro K hK;go_big_quiet_op;go_big_quiet_on)
 refine Stg.read 1 (by kernel_rfl) (by kernel_rfl) (by kernel_rfl) wa.drew rfl (by kernel_rfl) ?_;intro K hK;go_big_quiet_op;go_big_quiet_on
 iterate 6 (refine Stg.readW (by kernel_rfl) (by kernel_rfl) (by kernel_rfl) ?_;intro K hK;go_big_quiet_op;go_big_quiet_on)
 refine Stg.nil w1 rfl ?_
 go_wp2_with fail
 go_ret
 rw[HR.out]
 exact⟨rfl,au.out⟩
inductive Xt.Is:List Oper→Nat→List Rw.Row→List Nat→List Oper→Prop
 | nil {rest:List Oper} {s:Nat}:Xt.Is rest s [] [] rest
 | two {o1 o2:Oper} {l rest:List Oper} {s k:Nat} {p:Array (Nat × Operand)} {c n:Int} {m:List Int} {T:List Rw.Row} {sl:List Nat}:o1.guard=none→o1.dst=some s→o1.op=.buildSlice 49 k p→m.length=k→0<k→k≤2→p.toList=((m.zipIdx 0).map fun x=>(x.2,Operand.const (Value.int .i32 x.1))) →
    o2.guard=none→o2.dst=some (s+1)→o2.op=.build 113 #[(0,.const (.int .i32 c)),(1,.const (.int .i64 n)),(2,.tmp s)]→Xt.Is l (s+2) T sl rest→Xt.Is (o1::o2::l) s ((c,n,m)::T) ((s+1)::sl) rest
 | one {o:Oper} {l rest:List Oper} {s:Nat} {c n:Int} {T:List Rw.Row} {sl:List Nat}:o.guard=none→o.dst=some s→o.op=.build 113 #[(0,.const (.int .i32 c)),(1,.const (.int .i64 n))]→Xt.Is l (s+1) T sl rest→Xt.Is (o::l) s ((c,n,[])::T) (s::sl) rest
def Xt.val (r:Rw.Row) (a:Option Addr × Nat):Value:=.agg #[.int .i32 r.1,.int .i64 r.2.1,.slice a.1 r.2.2.length a.2]
theorem Xt.run_row3 (c n:Int) (A:Option Addr) (k q:Nat) (w:World):(Instr.build 113 #[(0,.int .i32 c),(1,.int .i64 n),(2,.slice A k q)]).run Tryz.prog w=.ok (.agg #[.int .i32 c,.int .i64 n,.slice A k q]) w:=by kernel_rfl
theorem Xt.run_row2 (c n:Int) (w:World):(Instr.build 113 #[(0,.int .i32 c),(1,.int .i64 n)]).run Tryz.prog w=.ok (.agg #[.int .i32 c,.int .i64 n,.slice none 0 0]) w:=by kernel_rfl
theorem Xt.exec3 {P:Program} {o:Oper} {ρ:Operand→Value} {w w':World} (t:TypeId) (x y z:Operand) (ho:o.op=.build t #[(0,x),(1,y),(2,z)]) (v:Value) (hz:ρ z=v) (u:Value) (hr:(Instr.build t #[(0,ρ x),(1,ρ y),(2,v)]).run P w=.ok u w'):(execOp ρ o).run P w=.ok (.value u) w':=by
 subst hz
 simp only[execOp,ho,YA,Y4,ZT,Ys,hr,Yr,Yq]
theorem Xt.exec2 {P:Program} {o:Oper} {ρ:Operand→Value} {w w':World} (t:TypeId) (x y:Operand) (ho:o.op=.build t #[(0,x),(1,y)]) (u:Value) (hr:(Instr.build t #[(0,ρ x),(1,ρ y)]).run P w=.ok u w'):(execOp ρ o).run P w=.ok (.value u) w':=by
 simp only[execOp,ho,YA,Y4,ZT,Ys,hr,Yr,Yq]
theorem Xt.put_self {a:Act} {s:Nat} {v:Value} (h:s<a.tmps.size):(a.put (some s) v).eval (.tmp s)=v:=by
 simp[Act.put,Act.eval,Array.getD,h]
theorem Xt.put_other {a:Act} {s q:Nat} {v:Value} (h:q≠s):(a.put (some s) v).eval (.tmp q)=a.eval (.tmp q):=by
 have:¬s=q:=fun e=>h e.symm
 simp[Act.put,Act.eval,this]
theorem Xt.put_size {a:Act} {s:Nat} {v:Value}:(a.put (some s) v).tmps.size=a.tmps.size:=by simp[Act.put]
theorem Xt.walk {ops:Array Oper} {Q:Exit→Act→World→Prop} {l rest:List Oper} {s:Nat} {T:List Rw.Row} {sl:List Nat} (h:Xt.Is l s T sl rest):∀(a:Act) (w:World) (B:Nat) (vals:List (Nat × Value)),s+l.length≤a.tmps.size+rest.length→(∀x∈vals,x.1<s∧a.eval (.tmp x.1)=x.2)→B≤w.heap.size →
 (∀(a':Act) (w':World) (ads:List (Option Addr × Nat)),ads.length=T.length→Below B w w'→(∀(i:Nat) (r:Rw.Row) (ad:Option Addr × Nat),T[i]?=some r→ads[i]?=some ad→Slt w' 21 ad.1 (r.2.2.map (Value.int .i32)))→(a'.tmps.size=a.tmps.size∧a'.defers=a.defers) →
   (∀x∈vals,a'.eval (.tmp x.1)=x.2)→(sl.map fun q=>a'.eval (.tmp q))=List.zipWith Xt.val T ads→wpList Tryz.prog ops Q rest a' w')→wpList Tryz.prog ops Q l a w:=by
 induction h with
 | nil=>intro a w B vals hs hv hB K;exact K a w [] rfl (Zd _ _) (fun i r ad h=>by simp at h) ⟨rfl,rfl⟩ (fun x hx=>(hv x hx).2) rfl
 | @two o1 o2 l rest s k p c n m T sl g1 d1 h1 hm k0 k2 hp g2 d2 h2 _ ih =>
   intro a w B vals hs hv hB K
   simp only[ZI]at hs
   have hle:rest.length≤l.length:=by
    have:∀{l rest:List Oper} {s:Nat} {T:List Rw.Row} {sl:List Nat},Xt.Is l s T sl rest→rest.length≤l.length:=by
     intro l rest s T sl h
     induction h with
     | nil=>exact Zb _
     | two _ _ _ _ _ _ _ _ _ _ _ ih=>simp only[ZI];omega
     | one _ _ _ _ ih=>simp only[ZI];omega
    exact this (by assumption)
   refine wpList_buildFlatAt g1 49 21 k p h1 .i32 m w.heap.size rfl (some s) d1 Tryz.underlying49 (by kernel_rfl) (by kernel_rfl) hm.symm (by omega) (by omega) hp ?_
   refine Pg.wpList_exec g2 _ (Xt.exec3 113 _ _ _ h2 _ (Xt.put_self (by omega)) _ (Xt.run_row3 c n _ k k _)) ?_
   rw[d2]
   have aj:Below B w (w.alloc (.cells (m.map (Value.int .i32)).toArray 21)):=(Zd _ _).alloc hB _
   have ak:=Rw.At.new w 21 (m.map (Value.int .i32))
   refine ih _ _ (w.heap.size+1) ((s+1,.agg #[.int .i32 c,.int .i64 n,.slice (some ⟨w.heap.size,0,none⟩) k k])::vals) (by rw[Xt.put_size,Xt.put_size];omega) (fun x hx=>?_) (by simp) ?_
   · rcases List.mem_cons.1 hx with rfl|hx
     · exact⟨by omega,Xt.put_self (by rw[Xt.put_size];omega)⟩
     · have:=hv x hx
       exact⟨by omega,by rw[Xt.put_other (by omega),Xt.put_other (by omega)];exact this.2⟩
   · intro a' w' ads hl hb ae ag af ai
     refine K a' w' ((some ⟨w.heap.size,0,none⟩,k)::ads) (by simp[hl]) (aj.trans (hb.mono (by omega))) ?_ ⟨by rw[ag.1,Xt.put_size,Xt.put_size],ag.2⟩ (fun x hx=>af x (Zx _ hx)) ?_
     · intro i r ad hr aa
       cases i with
       | zero =>
         simp at hr aa
         subst hr;subst aa
         have ah:=ak.below' hb (ZS _)
         exact fun _=>⟨_,0,_,rfl,ah,fun i _=>by simp⟩
       | succ i=>exact ae i r ad (by simpa using hr) (by simpa using aa)
     · rw[ZT,List.zipWith_cons_cons,ai]
       congr 1
       have:=af _ Zv
       rw[this]
       unfold Xt.val
       rw[hm]
 | @one o l rest s c n T sl g1 d1 h1 _ ih =>
   intro a w B vals hs hv hB K
   simp only[ZI]at hs
   have hle:rest.length≤l.length:=by
    have:∀{l rest:List Oper} {s:Nat} {T:List Rw.Row} {sl:List Nat},Xt.Is l s T sl rest→rest.length≤l.length:=by
     intro l rest s T sl h
     induction h with
     | nil=>exact Zb _
     | two _ _ _ _ _ _ _ _ _ _ _ ih=>simp only[ZI];omega
     | one _ _ _ _ ih=>simp only[ZI];omega
    exact this (by assumption)
   refine Pg.wpList_exec g1 _ (Xt.exec2 113 _ _ h1 _ (Xt.run_row2 c n _)) ?_
   rw[d1]
   refine ih _ _ B ((s,.agg #[.int .i32 c,.int .i64 n,.slice none 0 0])::vals) (by rw[Xt.put_size];omega) (fun x hx=>?_) hB ?_
   · rcases List.mem_cons.1 hx with rfl|hx
     · exact⟨by omega,Xt.put_self (by omega)⟩
     · have:=hv x hx
       exact⟨by omega,by rw[Xt.put_other (by omega)];exact this.2⟩
   · intro a' w' ads hl hb ae ag af ai
     refine K a' w' ((none,0)::ads) (by simp[hl]) hb ?_ ⟨by rw[ag.1,Xt.put_size],ag.2⟩ (fun x hx=>af x (Zx _ hx)) ?_
     · intro i r ad hr aa
       cases i with
       | zero =>
         simp at hr aa
         subst hr;subst aa
         exact Slt.nil _ _ _
       | succ i=>exact ae i r ad (by simpa using hr) (by simpa using aa)
     · rw[ZT,List.zipWith_cons_cons,ai]
       congr 1
       exact af _ Zv
theorem Xt.flat_fl:∀(T:List Rw.Row) (ads:List (Option Addr × Nat)),((List.zipWith Xt.val T ads).flatMap fun v=>v.cells.toList)=Rw.fl T ads
 | [],_=>rfl
 | _::_,[]=>rfl
 | r::T,a::ads=>by
   rw[List.zipWith_cons_cons,Xn,Xt.flat_fl T ads]
   rfl
set_option maxRecDepth 100000 in
set_option maxHeartbeats 4000000 in
theorem Xt.table_any (w:World):Calls Tryz.prog 60 #[] w fun e w'=>∃A c,e=.returned (.slice A Xt.T.length c)∧Rw.Tab w' A Xt.T∧Below w.heap.size w w':=by
 go_enter Tryz.func60,Tryz.ntmps60
 go_upto_region 1 with (fail)
 go_step
 apply Xt.walk (s:=1) (T:=Xt.T) (B:=w.heap.size) (vals:=[])
 case h=>repeat (first|exact Xt.Is.nil|apply Xt.Is.two rfl rfl rfl rfl (by decide) (by decide) rfl rfl rfl rfl|apply Xt.Is.one rfl rfl rfl)
 · exact Nat.le_of_ble_eq_true (by kernel_rfl)
 · intro x hx;cases hx
 · exact Zb _
 · intro a' w' ads hl hb aa ag _ af
   have hi:(Tryz.prog.info? 113).map (fun i=>(i.zero.isSome,i.size))=some (true,3):=by kernel_rfl
   cases hie:Tryz.prog.info? 113 with
   | none=>simp[hie]at hi
   | some ie =>
     simp only[hie,Zt,Zi,Yy]at hi
     obtain⟨z,hz⟩:=Option.isSome_iff_exists.1 hi.1
     have ah:Xt.T.length=121:=rfl
     refine wpList_buildSlice rfl 95 113 121 _ rfl (Rw.fl Xt.T ads).toArray ie z Tryz.underlying95 hie hz (by rw[hi.2];decide) (by rw[hi.2];decide) ?_ ?_
     · rw[hi.2]
       have h2:∀(p:Array (Nat × Operand)) (sl:List Nat),p.toList=((sl.zipIdx 0).map fun x=>(x.2,Operand.tmp x.1))→(p.map fun (i,x)=>(i,a'.eval x)).toList=(((sl.map fun q=>a'.eval (.tmp q)).zipIdx 0).map fun x=>(x.2,x.1)):=fun p sl hp=>by
        rw[Array.toList_map,hp,List.zipIdx_map,Xc,Xc]
        rfl
       rw[h2 _ _ (by kernel_rfl),af]
       have ai:(List.zipWith Xt.val Xt.T ads).length=121:=by rw[List.length_zipWith,hl,ah];rfl
       rw[Go.Great.fill_whole (s:=3) (by decide) _ _ (fun v hv=>?_) (by rw[ai];simp),Xt.flat_fl]
       obtain⟨i,aj,rfl⟩:=Xr hv
       rw[List.getElem_zipWith]
       rfl
     · go_wp2_with fail
       have h0:0<a'.tmps.size:=by rw[ag.1];exact Nat.le_of_ble_eq_true (by kernel_rfl)
       refine Yl (results_tmp rfl _ Tryz.prog _) rfl ?_
       refine⟨some ⟨w'.heap.size,0,none⟩,⟨121,by simp[h0]⟩,⟨ads,hl,?_,?_⟩,?_⟩
       · exact fun _=>⟨_,0,_,rfl,ZP _ _,fun i _=>by simp⟩
       · intro i r ad hr ae
         exact (aa i r ad hr ae).below ((Zd _ _).alloc (Zb _) _)
       · exact hb.alloc hb.size _
end Go.Proofs.YtikiplbhlohmdaaGreatDoor
