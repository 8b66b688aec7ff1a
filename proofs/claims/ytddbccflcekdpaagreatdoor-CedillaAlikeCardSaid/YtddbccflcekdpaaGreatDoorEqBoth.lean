/- equal: both, Alike, Compare, out of what nfd.Of answers. -/
import Derived.Test.YtddbccflcekdpaaGreatDoorUtfJ
import Derived.Test.YtddbccflcekdpaaGreatDoorNfWhole
set_option maxRecDepth 100000
set_option linter.unusedVariables false
set_option linter.unusedSimpArgs false
namespace Go.Proofs.YtddbccflcekdpaaGreatDoor
open Go.Proofs.Tryz
open Go.RowKit
def Eq.er (e f:Int):Int:=if e=0 then f else if f≠0 then min e f else e
def Eq.st (e f:Int) (x:ByteArray):ByteArray:=if Eq.er e f=0 then x else ⟨#[]⟩
theorem Eq.er_zero {e f:Int} (he:0≤e) (hf:0≤f):Eq.er e f=0↔e=0∧f=0:=by
 unfold Eq.er;constructor
 · intro h;split at h
   · exact⟨by assumption,h⟩
   split at h
   · omega
   omega
 rintro⟨rfl,rfl⟩;rfl
section
variable (v:Value) (a b x y:ByteArray) (e f:Int) (w:World) (he:0≤e) (hf:0≤f)
 (H1:∀W,Below w.heap.size w W→Calls prog 14 #[v,.string a] W fun z w'=>z=.returned (.tuple #[.string x,.int .i64 e])∧Below W.heap.size W w')
 (H2:∀W,Below w.heap.size w W→Calls prog 14 #[v,.string b] W fun z w'=>z=.returned (.tuple #[.string y,.int .i64 f])∧Below W.heap.size W w')
include he hf H1 H2
theorem Eq.both_of:Calls prog 60 #[v,.string a,.string b] w fun z w'=>z=.returned (.tuple #[.string (Eq.st e f x),.string (Eq.st e f y),.int .i64 (Eq.er e f)])∧Below w.heap.size w w':=by
 have ai:=hy' H1;have ar:=hy' H2;have HE:=hy' he;have HF:=hy' hf;clear H1 H2 he hf;go_enter func60,ntmps60;go_wp2_with fail;refine (ai.o w (Zc _ _)).mono ?_;rintro z w1 ⟨rfl,ao⟩;have ah:=hy' ao;clear ao;go_wp2_with fail;refine (ar.o w1 ah.o).mono ?_;rintro z w2 ⟨rfl,ak⟩;have af:=hy' (ah.o.trans (ak.mono ah.o.size));clear ak ai ar;rcases he0:(e == 0) with _|_
 · have ae:¬e=0:=by simpa using he0
   rcases hf0:(f == 0) with _|_
   · have aa:¬f=0:=by simpa using hf0
     have au:(f != 0)=true:=by rw[bne,hf0];rfl
     obtain⟨m,hm⟩:∃m,min e f=m:=⟨_,rfl⟩;have ag:¬m=0:=by have:=HE.o;have:=HF.o;omega
     have av:(m != 0)=true:=by simpa using ag
     have hr:Eq.er e f=m:=by unfold Eq.er;rw[if_neg ae,if_pos aa,hm]
     have HR:=hy' hr;have aq:=hy' ag;clear hr ae aa ag;go_wp2_with fail;go_ret3;exact⟨by (unfold Eq.st;rw[HR.o,if_neg aq.o,if_neg aq.o]) <;> rfl,af.o⟩
   have aa:f=0:=by simpa using hf0
   subst aa;have aw:(e != 0)=true:=by rw[bne,he0];rfl
   have hr:Eq.er e 0=e:=by unfold Eq.er;rw[if_neg ae,if_neg (by simp)]
   have HR:=hy' hr;have ap:=hy' ae;clear hr ae;go_wp2_with fail;go_ret3;exact⟨by (unfold Eq.st;rw[HR.o,if_neg ap.o,if_neg ap.o]) <;> rfl,af.o⟩
 have ae:e=0:=by simpa using he0
 subst ae;rcases hf0:(f == 0) with _|_
 · have aa:¬f=0:=by simpa using hf0
   have au:(f != 0)=true:=by rw[bne,hf0];rfl
   have hr:Eq.er 0 f=f:=by unfold Eq.er;rw[if_pos rfl]
   have HR:=hy' hr;have aj:=hy' aa;clear hr aa;go_wp2_with fail;go_ret3;exact⟨by (unfold Eq.st;rw[HR.o,if_neg aj.o,if_neg aj.o]) <;> rfl,af.o⟩
 have aa:f=0:=by simpa using hf0
 subst aa;have HR:Hy (Eq.er 0 0=0):=hy' rfl;go_wp2_with fail;go_ret3;exact⟨by (unfold Eq.st;rw[HR.o,if_pos rfl,if_pos rfl]) <;> rfl,af.o⟩
theorem Eq.alike_of:Calls prog 34 #[v,.string a,.string b] w fun z w'=>z=.returned (.tuple #[.bool (decide (Eq.er e f=0)&&decide (x=y)),.int .i64 (Eq.er e f)])∧Below w.heap.size w w':=by
 have hB:=Eq.both_of v a b x y e f w he hf H1 H2;obtain⟨r,hr⟩:∃r,Eq.er e f=r:=⟨_,rfl⟩;unfold Eq.st at hB;rw[hr]at hB ⊢;clear H1 H2 he hf hr;go_enter func34,ntmps34;go_wp2_with fail;refine hB.mono ?_;rintro z w1 ⟨rfl,ae⟩;have af:=hy' ae;clear ae hB;rcases hr0:(r == 0) with _|_
 · have aa:¬r=0:=by simpa using hr0
   have ag:=hy' aa;clear aa;go_wp2_with fail;go_ret2;exact⟨by first|rfl|(rw[Zu ag.o];rfl),af.o⟩
 have aa:r=0:=by simpa using hr0
 subst aa;rw[Zo rfl,Zo rfl];obtain⟨q,hq⟩:∃q,decide (x=y)=q:=⟨_,rfl⟩;have ah:(x.toList == y.toList)=q:=by rw[zDf,hq]
 have HQ:=hy' hq;clear hq hr0;go_wp2_with fail;go_ret2;exact⟨by (rw[HQ.o]) <;> rfl,af.o⟩
end
end Go.Proofs.YtddbccflcekdpaaGreatDoor
