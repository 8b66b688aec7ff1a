/- The fixed fact of layer 19. -/
import Derived.Test.YtddbccflcekdpaaGreatDoorQkText
import Derived.Test.YtddbccflcekdpaaGreatDoorNcLaw
namespace Go.Proofs.YtddbccflcekdpaaGreatDoor
open Go.RowKit
set_option linter.unusedSimpArgs false
set_option linter.unusedVariables false
def Qk.s19 (c:Int):Bool:=(decide (c∈Ud.sec Xt.T (Md.xs zIl) Xt.T)&&C.isC c)||decide (zA3 c=2)||decide (zA3 c=3)
theorem Qk.sec19 (c:Int):Nc.sec Xt.T zR9 c=Qk.s19 c:=by
 unfold Nc.sec Qk.s19;rw[(zC5 _).2,Xt.mem]
def Qk.o19 (c:Int):Int:=if decide (Nc.join (Md.cls Xt.T) (fun a b=>if (Nc.k18 a b).2=true then some (Nc.k18 a b).1 else none) (Nf.chars Xt.T [c])=[c])=true then (if Qk.s19 (Sp.head Xt.T c)=true then 1 else 2) else 0
theorem Qk.one19:Qk.one Xt.T zR9=Qk.o19:=by
 funext c
 unfold Qk.one Qk.set Nc.chars zCf Qk.o19;rw[Nc.j18,Qk.sec19]
theorem Qk.lit19:zMx Xt.T zR9 [233]=2∧zMx Xt.T zR9 [101,769]=1∧zMx Xt.T zR9 [8491]=0:=by
 simp only[Qk.C_ans,Qk.one19];decide +kernel
theorem Qk.enc19:zA6 [233]=⟨#[195,169]⟩∧zA6 [101,769]=⟨#[101,204,129]⟩∧zA6 [8491]=⟨#[226,132,171]⟩:=by decide +kernel
set_option maxRecDepth 100000 in
set_option maxHeartbeats 2000000 in
theorem Qk.awake19 (w:World) (hL:Nf.Laid w):Calls Tryz.prog 19 #[] w fun e w'=>e=.returned (.bool true)∧Below w.heap.size w w':=by
 have hD:=zSo w hL.1
 have mk:∀(z:List Int) (s:ByteArray) (a:Int),(∀c∈z,C.isC c=true)→z.length≤10→zA6 z=s→zMx Xt.T zR9 z=a→∀p W,Below w.heap.size w W→Ud.Is W p Xt.T zR9→Calls Tryz.prog 23 #[p,.string s] W fun e w'=>e=.returned (.tuple #[.int .i64 a,.int .i64 0])∧Below W.heap.size W w':=fun z s a hz hl hs ha p W hW h=>by
  have:=Qk.C_chars p Xt.T zR9 W Xt.ok h (hL.2.next hW) z hz (by omega);rw[hs,ha]at this;exact this
 have H1:=hy' (mk [233] ⟨#[195,169]⟩ 2 (by decide) (by decide) Qk.enc19.1 Qk.lit19.1);have H2:=hy' (mk [101,769] ⟨#[101,204,129]⟩ 1 (by decide) (by decide) Qk.enc19.2.1 Qk.lit19.2.1);have H3:=hy' (mk [8491] ⟨#[226,132,171]⟩ 0 (by decide) (by decide) Qk.enc19.2.2 Qk.lit19.2.2);obtain⟨T,hT⟩:∃T,Xt.T=T:=⟨_,rfl⟩;obtain⟨S,hS⟩:∃S,zR9=S:=⟨_,rfl⟩;rw[hT,hS]at hD H1 H2 H3;clear hT hS hL mk;go_enter Tryz.func19,Tryz.ntmps19;go_wp2_with fail;refine hD.mono ?_;rintro e w1 ⟨p,rfl,his,hb1⟩;obtain⟨b,rfl,hbl⟩:=his.form;have HI:=hy' his;have HB1:=hy' hb1;clear his hb1 hD;go_wp2_with fail;refine (H1.o _ w1 HB1.o HI.o).mono ?_;rintro e w2 ⟨rfl,hb⟩;have HB2:=hy' (HB1.o.trans (hb.mono HB1.o.size));have HI2:=hy' (HI.o.below hb);clear hb;go_wp2_with fail;refine (H2.o _ w2 HB2.o HI2.o).mono ?_;rintro e w3 ⟨rfl,hb⟩;have HB3:=hy' (HB2.o.trans (hb.mono HB2.o.size));have HI3:=hy' (HI2.o.below hb);clear hb;go_wp2_with fail;refine (H3.o _ w3 HB3.o HI3.o).mono ?_;rintro e w4 ⟨rfl,hb⟩;have HB4:=hy' (HB3.o.trans (hb.mono HB3.o.size));clear hb;go_wp2_with fail;go_ret;exact⟨by first|rfl|(simp;done),HB4.o⟩
end Go.Proofs.YtddbccflcekdpaaGreatDoor
