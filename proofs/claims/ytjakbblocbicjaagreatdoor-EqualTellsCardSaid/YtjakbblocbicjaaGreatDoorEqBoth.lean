/- equal: both, Alike, Compare, out of what nfd.Of answers. -/
import Derived.Test.YtjakbblocbicjaaGreatDoorUtfJ
import Derived.Test.YtjakbblocbicjaaGreatDoorNfLaw
namespace Go.Proofs.YtjakbblocbicjaaGreatDoor
open Go.RowKit
set_option linter.unusedSimpArgs false
set_option linter.unusedVariables false
def Eq.er (e f:Int):Int:=if e=0 then f else if f≠0 then min e f else e
def Eq.st (e f:Int) (x:ByteArray):ByteArray:=if Eq.er e f=0 then x else ⟨#[]⟩
theorem Eq.er_zero {e f:Int} (he:0≤e) (hf:0≤f):Eq.er e f=0↔e=0∧f=0:=by
 unfold Eq.er;constructor
 · intro h;split at h
   · exact⟨by assumption,h⟩
   split at h
   · omega
   omega
 rintro⟨rfl,rfl⟩;rfl
section
variable (v:Value) (a b x y:ByteArray) (e f:Int) (w:World) (he:0≤e) (hf:0≤f)
 (H1:∀W,Below w.heap.size w W→Calls Tryz.prog 37 #[v,.string a] W fun z w'=>z=.returned (.tuple #[.string x,.int .i64 e])∧Below W.heap.size W w')
 (H2:∀W,Below w.heap.size w W→Calls Tryz.prog 37 #[v,.string b] W fun z w'=>z=.returned (.tuple #[.string y,.int .i64 f])∧Below W.heap.size W w')
include he hf H1 H2
set_option maxRecDepth 100000 in
theorem Eq.both_of:Calls Tryz.prog 58 #[v,.string a,.string b] w fun z w'=>z=.returned (.tuple #[.string (Eq.st e f x),.string (Eq.st e f y),.int .i64 (Eq.er e f)])∧Below w.heap.size w w':=by
 have HH1:=hy' H1;have HH2:=hy' H2;have HE:=hy' he;have HF:=hy' hf;clear H1 H2 he hf;go_enter Tryz.func58,Tryz.ntmps58;go_wp2_with fail;refine (HH1.o w (Below.refl _ _)).mono ?_;rintro z w1 ⟨rfl,hb1⟩;have HB1:=hy' hb1;clear hb1;go_wp2_with fail;refine (HH2.o w1 HB1.o).mono ?_;rintro z w2 ⟨rfl,hb2⟩;have HB2:=hy' (HB1.o.trans (hb2.mono HB1.o.size));clear hb2 HH1 HH2;rcases he0:(e == 0) with _|_
 · have he1:¬e=0:=by simpa using he0
   rcases hf0:(f == 0) with _|_
   · have hf1:¬f=0:=by simpa using hf0
     have hf2:(f != 0)=true:=by rw[bne,hf0];rfl
     obtain⟨m,hm⟩:∃m,min e f=m:=⟨_,rfl⟩;have hm1:¬m=0:=by have:=HE.o;have:=HF.o;omega
     have hm2:(m != 0)=true:=by simpa using hm1
     have hr:Eq.er e f=m:=by unfold Eq.er;rw[if_neg he1,if_pos hf1,hm]
     have HR:=hy' hr;have HM1:=hy' hm1;clear hr he1 hf1 hm1;go_wp2_with fail;go_ret3;exact⟨by (unfold Eq.st;rw[HR.o,if_neg HM1.o,if_neg HM1.o]) <;> rfl,HB2.o⟩
   have hf1:f=0:=by simpa using hf0
   subst hf1;have he2:(e != 0)=true:=by rw[bne,he0];rfl
   have hr:Eq.er e 0=e:=by unfold Eq.er;rw[if_neg he1,if_neg (by simp)]
   have HR:=hy' hr;have HE1:=hy' he1;clear hr he1;go_wp2_with fail;go_ret3;exact⟨by (unfold Eq.st;rw[HR.o,if_neg HE1.o,if_neg HE1.o]) <;> rfl,HB2.o⟩
 have he1:e=0:=by simpa using he0
 subst he1;rcases hf0:(f == 0) with _|_
 · have hf1:¬f=0:=by simpa using hf0
   have hf2:(f != 0)=true:=by rw[bne,hf0];rfl
   have hr:Eq.er 0 f=f:=by unfold Eq.er;rw[if_pos rfl]
   have HR:=hy' hr;have HF1:=hy' hf1;clear hr hf1;go_wp2_with fail;go_ret3;exact⟨by (unfold Eq.st;rw[HR.o,if_neg HF1.o,if_neg HF1.o]) <;> rfl,HB2.o⟩
 have hf1:f=0:=by simpa using hf0
 subst hf1;have HR:Hy (Eq.er 0 0=0):=hy' rfl;go_wp2_with fail;go_ret3;exact⟨by (unfold Eq.st;rw[HR.o,if_pos rfl,if_pos rfl]) <;> rfl,HB2.o⟩
set_option maxRecDepth 100000 in
theorem Eq.alike_of:Calls Tryz.prog 31 #[v,.string a,.string b] w fun z w'=>z=.returned (.tuple #[.bool (decide (Eq.er e f=0)&&decide (x=y)),.int .i64 (Eq.er e f)])∧Below w.heap.size w w':=by
 have hB:=Eq.both_of v a b x y e f w he hf H1 H2;obtain⟨r,hr⟩:∃r,Eq.er e f=r:=⟨_,rfl⟩;unfold Eq.st at hB;rw[hr]at hB ⊢;clear H1 H2 he hf hr;go_enter Tryz.func31,Tryz.ntmps31;go_wp2_with fail;refine hB.mono ?_;rintro z w1 ⟨rfl,hb1⟩;have HB1:=hy' hb1;clear hb1 hB;rcases hr0:(r == 0) with _|_
 · have hr1:¬r=0:=by simpa using hr0
   have HR1:=hy' hr1;clear hr1;go_wp2_with fail;go_ret2;exact⟨by first|rfl|(rw[decide_eq_false HR1.o];rfl),HB1.o⟩
 have hr1:r=0:=by simpa using hr0
 subst hr1;rw[if_pos rfl,if_pos rfl];obtain⟨q,hq⟩:∃q,decide (x=y)=q:=⟨_,rfl⟩;have hxy:(x.toList == y.toList)=q:=by rw[zG9,hq]
 have HQ:=hy' hq;clear hq hr0;go_wp2_with fail;go_ret2;exact⟨by (rw[HQ.o]) <;> rfl,HB1.o⟩
set_option maxRecDepth 100000 in
theorem Eq.compare_of:Calls Tryz.prog 34 #[v,.string a,.string b] w fun z w'=>z=.returned (.tuple #[.int .i64 (if Eq.er e f=0 then Lib.compareBytes x.data.toList y.data.toList else 0),.int .i64 (Eq.er e f)])∧Below w.heap.size w w':=by
 have hB:=Eq.both_of v a b x y e f w he hf H1 H2;obtain⟨r,hr⟩:∃r,Eq.er e f=r:=⟨_,rfl⟩
 have hC:∀W,Calls Tryz.prog 60 #[.string (Eq.st e f x),.string (Eq.st e f y)] W fun z w'=>z=.returned (.int .i64 (if r=0 then Lib.compareBytes x.data.toList y.data.toList else 0))∧W=w':=fun W=>by
  have:=U.compare_any (Eq.st e f x) (Eq.st e f y) W
  have h2:Lib.compareBytes (Eq.st e f x).data.toList (Eq.st e f y).data.toList=if r=0 then Lib.compareBytes x.data.toList y.data.toList else 0:=by
   unfold Eq.st;rw[hr];split
   · rfl
   rfl
  rw[h2]at this;exact this
 obtain⟨x1,hx1⟩:∃z,Eq.st e f x=z:=⟨_,rfl⟩;obtain⟨y1,hy1⟩:∃z,Eq.st e f y=z:=⟨_,rfl⟩;obtain⟨q,hq⟩:∃z,(if r=0 then Lib.compareBytes x.data.toList y.data.toList else 0)=z:=⟨_,rfl⟩;rw[hr,hx1,hy1]at hB;rw[hx1,hy1,hq]at hC;rw[hr,hq];clear H1 H2 he hf hr hx1 hy1 hq;go_enter Tryz.func34,Tryz.ntmps34;go_wp2_with fail;refine hB.mono ?_;rintro z w1 ⟨rfl,hb1⟩;have HB1:=hy' hb1;clear hb1 hB;go_wp2_with fail;refine (hC w1).mono ?_;rintro z w2 ⟨rfl,rfl⟩;go_wp2_with fail;go_ret2;exact⟨rfl,HB1.o⟩
end
end Go.Proofs.YtjakbblocbicjaaGreatDoor
