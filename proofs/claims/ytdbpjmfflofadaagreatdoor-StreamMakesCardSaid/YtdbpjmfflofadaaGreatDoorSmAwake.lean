/- The fixed fact of layer 21. -/
import Derived.Test.YtdbpjmfflofadaaGreatDoorSmFlow
import Derived.Test.YtdbpjmfflofadaaGreatDoorNcLaw
set_option maxRecDepth 100000
set_option maxHeartbeats 2000000
set_option linter.unusedVariables false
set_option linter.unusedSimpArgs false
set_option linter.unusedSectionVars false
namespace Go.Proofs.YtdbpjmfflofadaaGreatDoor
open Go.Proofs.Tryz
open Go.RowKit
theorem zS2:Nc.sec Xt.T zDQ 120=false:=by
 unfold Nc.sec;rw[(zBL _).2,Xt.mem];decide +kernel
theorem zTl:zA7 Xt.T zDQ 120=true:=by
 unfold zA7;rw[show Sp.start Xt.T 120=true by decide +kernel,show Sp.head Xt.T 120=120 by decide +kernel,zS2];rfl
theorem zTO:zAF (zA7 Xt.T zDQ) [101]=0:=by
 have e:([101]:List Int)=[]++[101]:=rfl;rw[e,zE3];split <;> rfl
theorem zTP:zAF (zA7 Xt.T zDQ) [101,769,120]=2:=by
 have e:([101,769,120]:List Int)=[101,769]++[120]:=rfl;rw[e,zE3,zTl];rfl
theorem zSP:Sm.F Xt.T zDQ true [101,769]=[233]:=by
 show Nc.chars Xt.T zDQ [101,769]=[233];unfold Nc.chars zBX;rw[zSO];decide +kernel
theorem zTm:Sm.F Xt.T zDQ true [101,769,120]=[233,120]:=by
 show Nc.chars Xt.T zDQ [101,769,120]=[233,120];unfold Nc.chars zBX;rw[zSO];decide +kernel
theorem zS3:(Nf.fl Xt.T ([101,769,120]:List Int)).length≤1024:=by decide +kernel
theorem zPu:∀c∈([101,769,120]:List Int),C.isC c=true:=by decide
theorem zTn:zAb Xt.T zDQ []=[]:=rfl
theorem zP7:zAb Xt.T zDQ [101]=[]:=by unfold zAb;rw[zTO];rfl
theorem zS4:zAb Xt.T zDQ [101,769,120]=[101,769]:=by unfold zAb;rw[zTP];rfl
section
variable (pb:Nat) (w0:World) (g:Nat) (his:Ud.Is w0 (Sm.v pb) Xt.T zDQ) (hH:Heads w0) (hg:w0.heap.size≤g) (w:World) (hw:Below w0.heap.size w0 w)
include his hH hg hw
theorem zM6 (a d r' h h' P y:List _) (R:List UInt8) (s r:ByteArray) (hs:⟨P.toArray⟩=s) (hr:zA5 y=r) (he:a++(d++r')=[101,769,120]) (f1:zBs (d++r') h) (e1:zA4 (d++r')=h++(P++R)) (f2:zBs r' h') (e2:zA4 r'=h'++R) (hy:∀y',Sm.F Xt.T zDQ true (zAb Xt.T zDQ a)++y'=Sm.F Xt.T zDQ true (zAb Xt.T zDQ (a++d))→y'=y) (ae:Sm.At w g (Sm.v pb) (Sm.fv true) (zAi Xt.T zDQ a h)) :
 Calls prog 11 #[.pointer (some ⟨g,0,none⟩),.string s] w fun e w'=>e=.returned (.tuple #[.string r,.int .i64 0])∧w.grownBy w' (some g)∧Sm.At w' g (Sm.v pb) (Sm.fv true) (zAi Xt.T zDQ (a++d) h'):=by
 subst hs hr;refine (zBO pb Xt.T zDQ true w0 g Xt.ok his hH hg a (d++r') h P R w hw (by rw[he];exact zPu) (by rw[he];exact zS3) f1 e1 ae).mono ?_;rintro e w' ⟨aa,d',r2,h2,y2,k1,k2,k3,k4,_,k5,k6⟩;obtain⟨rfl,rfl,rfl⟩:=zDf k1.symm k2 f2 k3 e2;obtain rfl:=hy y2 k5;exact⟨k4,aa,k6⟩
theorem zQI (aa:Sm.At w g (Sm.v pb) (Sm.fv true) (zAi Xt.T zDQ [] [])) :
 Calls prog 11 #[.pointer (some ⟨g,0,none⟩),.string ⟨#[101]⟩] w fun e w'=>e=.returned (.tuple #[.string ⟨#[]⟩,.int .i64 0])∧w.grownBy w' (some g)∧Sm.At w' g (Sm.v pb) (Sm.fv true) (zAi Xt.T zDQ [101] []) :=
 zM6 pb w0 g his hH hg w hw [] [101] [769,120] [] [] [101] [] [204,129,120] _ _ rfl rfl rfl (.inl rfl) (by decide) (.inl rfl) (by decide) (fun y' h=>by
  rw[ZV,zTn,zP7,zDF]at h;exact h) aa
theorem zP8 (aa:Sm.At w g (Sm.v pb) (Sm.fv true) (zAi Xt.T zDQ [101] [])) :
 Calls prog 11 #[.pointer (some ⟨g,0,none⟩),.string ⟨#[204]⟩] w fun e w'=>e=.returned (.tuple #[.string ⟨#[]⟩,.int .i64 0])∧w.grownBy w' (some g)∧Sm.At w' g (Sm.v pb) (Sm.fv true) (zAi Xt.T zDQ [101] [204]) :=
 zM6 pb w0 g his hH hg w hw [101] [] [769,120] [] [204] [204] [] [129,120] _ _ rfl rfl rfl (.inl rfl) (by decide) (.inr ⟨769,[120],[129],rfl,by decide,by decide⟩) (by decide) (fun y' h=>by
  rw[ZC,zP7,zDF]at h;exact h) aa
theorem zQJ (aa:Sm.At w g (Sm.v pb) (Sm.fv true) (zAi Xt.T zDQ [101] [204])) :
 Calls prog 11 #[.pointer (some ⟨g,0,none⟩),.string ⟨#[129,120]⟩] w fun e w'=>e=.returned (.tuple #[.string ⟨#[195,169]⟩,.int .i64 0])∧w.grownBy w' (some g)∧Sm.At w' g (Sm.v pb) (Sm.fv true) (zAi Xt.T zDQ [101,769,120] []) :=
 zM6 pb w0 g his hH hg w hw [101] [769,120] [] [204] [] [129,120] [233] [] _ _ rfl (by decide +kernel) rfl (.inr ⟨769,[120],[129],rfl,by decide,by decide⟩) (by decide) (.inl rfl) (by decide) (fun y' h=>by
  rw[zP7,zDF,ZV]at h;rw[h];show Sm.F Xt.T zDQ true (zAb Xt.T zDQ [101,769,120])=[233];rw[zS4,zSP]) aa
theorem zSI (ae:Sm.At w g (Sm.v pb) (Sm.fv true) (zAi Xt.T zDQ [101,769,120] [])) :
 Calls prog 12 #[.pointer (some ⟨g,0,none⟩)] w fun e w'=>e=.returned (.tuple #[.string ⟨#[120]⟩,.int .i64 0])∧w.grownBy w' (some g):=by
 refine (zE5 pb Xt.T zDQ true w0 g Xt.ok his hH hg [101,769,120] w hw zPu zS3 ae).mono ?_;rintro e w' ⟨aa,y,k1,_,k2,_⟩;rw[zS4,zSP,zTm]at k2;obtain rfl:y=[120]:=(Qe k2).2;rw[show zA5 [120]=⟨#[120]⟩ by decide +kernel]at k1;exact⟨k1,aa⟩
end
theorem zFM (w:World) (hL:Nf.Laid w):Calls prog 8 #[] w fun e w'=>e=.returned (.bool true)∧Below w.heap.size w w':=by
 have hD:=zJW w hL.1;have HN:Hy (∀pb W,Calls prog 10 #[.pointer (some ⟨pb,0,none⟩),.int .i64 2] W fun e w'=>e=.returned (.tuple #[.pointer (some ⟨W.heap.size,0,none⟩),.int .i64 0])∧Below W.heap.size W w'∧Sm.At w' W.heap.size (Sm.v pb) (Sm.fv true) (zAi Xt.T zDQ [] [])):=hy' fun pb W=>zE4 pb true W
 have HH:=hy' (fun W (hW:Below w.heap.size w W)=>hL.2.next hW);have H1:=hy' zQI;have H2:=hy' zP8;have H3:=hy' zQJ;have H4:=hy' zSI;obtain⟨T,hT⟩:∃T,Xt.T=T:=⟨_,rfl⟩;obtain⟨S,hS⟩:∃S,zDQ=S:=⟨_,rfl⟩;rw[hT,hS]at hD HN;rw[hT,hS]at H1 H2 H3 H4;clear hT hS hL;go_enter func8,ntmps8;go_wp2_with fail;refine hD.mono ?_;rintro e w1 ⟨p,rfl,ah,ag⟩;obtain⟨pb,rfl,ax⟩:=ah.form;have HI:=hy' ah;have aj:=hy' ag;have af:=hy' (HH.o w1 ag);clear ah ag hD HH;go_wp2_with fail;refine (HN.o _ w1).mono ?_;rintro e w2 ⟨rfl,hb,aa⟩;obtain⟨g,hg⟩:∃g,w1.heap.size=g:=⟨_,rfl⟩;have HG:Hy (w1.heap.size≤g):=hy' (Qm hg);have ao:=hy' hb;rw[hg]at aa;have aw:=hy' aa;rw[hg];clear hb aa hg ax;go_wp2_with fail;refine (H1.o pb w1 g HI.o af.o HG.o w2 ao.o aw.o).mono ?_;rintro e w3 ⟨rfl,ae,aa⟩;have ak:=hy' (zBT ao.o HG.o ae);have ar:=hy' aa;clear ae aa;go_wp2_with fail;refine (H2.o pb w1 g HI.o af.o HG.o w3 ak.o ar.o).mono ?_;rintro e w4 ⟨rfl,ae,aa⟩;have ap:=hy' (zBT ak.o HG.o ae);have av:=hy' aa;clear ae aa;go_wp2_with fail;refine (H3.o pb w1 g HI.o af.o HG.o w4 ap.o av.o).mono ?_;rintro e w5 ⟨rfl,ae,aa⟩;have ai:=hy' (zBT ap.o HG.o ae);have au:=hy' aa;clear ae aa;go_wp2_with fail;refine (H4.o pb w1 g HI.o af.o HG.o w5 ai.o au.o).mono ?_;rintro e w6 ⟨rfl,ae⟩;have aq:=hy' (zBT ai.o HG.o ae);clear ae;go_wp2_with fail;go_ret;exact⟨by first|rfl|(simp;done),aj.o.trans (aq.o.mono aj.o.size)⟩
end Go.Proofs.YtdbpjmfflofadaaGreatDoor
