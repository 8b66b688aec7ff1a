/- What the laws of layer 18, and of those above it, ask of whole texts; the fixed fact of layer 18. -/
import Derived.Test.YtjakbblocbicjaaGreatDoorNcText
set_option maxRecDepth 100000
set_option maxHeartbeats 2000000
set_option linter.unusedVariables false
set_option linter.unusedSimpArgs false
namespace Go.Proofs.YtjakbblocbicjaaGreatDoor
open Go.Proofs.Tryz
open Go.RowKit
theorem Nc.chars_isC {T:List Rw.Row} {S:List Int} (ok:Ud.Ok T S) {l:List Int} (h:∀c∈l,C.isC c=true):∀x∈Nc.chars T S l,C.isC x=true:=zDr ok (Nf.chars_isC ok h)
theorem Nc.chars_le {T:List Rw.Row} {S:List Int} (ok:Ud.Ok T S) (l:List Int):(Nc.chars T S l).length≤(Nf.fl T l).length:=by
 rw[←Nf.chars_len];exact (Nc.chars_len ok l).1
theorem Nc.fl_ch {T:List Rw.Row} {S:List Int} (ok:Ud.Ok T S) {z:List Int} (h:(Nf.fl T z).length≤1024):(Nf.fl T (Nc.chars T S z)).length≤1024:=by
 rw[←Nf.chars_len,zMQ ok,Nf.chars_len];exact h
section
variable (v:Value) (T:List Rw.Row) (S:List Int) (z:List Int) (w:World) (ok:Ud.Ok T S) (h:Ud.Is w v T S) (hH:Heads w) (hz:∀c∈z,C.isC c=true) (hl:z.length≤3000) (hf:(Nf.fl T z).length≤1024)
include ok h hH hz hl hf
theorem Nc.of_chars:Calls prog 36 #[v,.string (zAv z)] w fun e w'=>e=.returned (.tuple #[.string (zAv (Nc.chars T S z)),.int .i64 0])∧Below w.heap.size w w':=by
 have:=Nc.of_any v T S (zAv z) w ok h (by have:=zEr hz;omega) hH z [] (zCR hz) hl;unfold Nc.tl at this;rw[zGE hf,zGF hf]at this;exact this
theorem zGc:Calls prog 38 #[v,.string (zAv z)] w fun e w'=>e=.returned (.bool (decide (Nc.chars T S z=z)))∧Below w.heap.size w w':=by
 have:=Nc.is_any v T S (zAv z) w ok h (by have:=zEr hz;omega) hH z [] (zCR hz) hl;unfold Nc.tl at this;rw[zGE hf,zGF hf,Zp rfl,YY]at this
 rw[show decide (Nc.chars T S z=z)=decide (zAv (zBw T S (Nf.chars T z))=zAv z) from by
  rw[Yf,Yb,Yb];exact⟨fun e=>by rw[show zBw T S (Nf.chars T z)=z from e],fun e=>zKw (Nc.chars_isC ok hz) hz e⟩]
 exact this
end
def zR5 (a b:Int):Int × Bool:=if (Hg.joinK a b).2=true then ((Hg.joinK a b).1,true) else ((zCc Xt.T (Md.xs zIa) Xt.T a b).getD 0,(zCc Xt.T (Md.xs zIa) Xt.T a b).isSome)
theorem zSV:Nc.j Xt.T zMT=fun a b=>if (zR5 a b).2=true then some (zR5 a b).1 else none:=by
 funext a b
 have h:Ud.joinK Xt.T zMT a b=zR5 a b:=by
  show (if (Hg.joinK a b).2=true then ((Hg.joinK a b).1,true) else ((zCc Xt.T (C.mem zMT) Xt.T a b).getD 0,(zCc Xt.T (C.mem zMT) Xt.T a b).isSome))=_;rw[Xt.mem];rfl
 unfold Nc.j;rw[h]
theorem zOL:Nc.chars Xt.T zMT [115,775,803]=[7785]:=by
 unfold Nc.chars zBw;rw[zSV];decide +kernel
theorem zRO:zAv [115,775,803]=⟨#[115,204,135,204,163]⟩:=by decide +kernel
theorem zFv (w:World) (hL:Nf.Laid w):Calls prog 35 #[] w fun e w'=>e=.returned (.bool true)∧Below w.heap.size w w':=by
 have hD:=zOj w hL.1
 have aj:Hy (∀p W,Below w.heap.size w W→Ud.Is W p Xt.T zMT→Calls prog 36 #[p,.string ⟨#[115,204,135,204,163]⟩] W fun e w'=>e=.returned (.tuple #[.string ⟨#[225,185,169]⟩,.int .i64 0])∧Below W.heap.size W w'):=hy' fun p W hW h=>by
  have:=Nc.of_chars p Xt.T zMT [115,775,803] W Xt.ok h (hL.2.next hW) (by decide) (by decide) (zIc Xt.ok (by decide));rw[zOL,zOJ,zRO]at this;exact this
 have ak:Hy (∀p W,Below w.heap.size w W→Ud.Is W p Xt.T zMT→Calls prog 38 #[p,.string ⟨#[225,185,169]⟩] W fun e w'=>e=.returned (.bool true)∧Below W.heap.size W w'):=hy' fun p W hW h=>by
  have:=zGc p Xt.T zMT [7785] W Xt.ok h (hL.2.next hW) (by decide) (by decide) (zIc Xt.ok (by decide));rw[zOJ,show Nc.chars Xt.T zMT [7785]=[7785] by rw[←zOL];exact Nc.chars_chars Xt.ok _,Zp rfl]at this;exact this
 obtain⟨T,hT⟩:∃T,Xt.T=T:=⟨_,rfl⟩;obtain⟨S,hS⟩:∃S,zMT=S:=⟨_,rfl⟩;rw[hT,hS]at hD aj ak;clear hT hS hL;go_enter func35,ntmps35;go_wp2_with fail;refine hD.mono ?_;rintro e w1 ⟨p,rfl,af,ag⟩;obtain⟨b,rfl,aq⟩:=af.form;have h1:=aj.o _ w1 ag af;have ap:=hy' af;have aa:=hy' ag;clear af ag hD;go_wp2_with fail;refine h1.mono ?_;rintro e w2 ⟨rfl,ae⟩;have h2:=ak.o _ w2 (aa.o.trans (ae.mono aa.o.size)) (ap.o.below ae);have ah:=hy' (aa.o.trans (ae.mono aa.o.size));clear ae h1;go_wp2_with fail;refine h2.mono ?_;rintro e w3 ⟨rfl,ai⟩;have ao:=ah.o.trans (ai.mono ah.o.size);clear ai h2;go_wp2_with fail;go_ret;exact⟨rfl,ao⟩
end Go.Proofs.YtjakbblocbicjaaGreatDoor
