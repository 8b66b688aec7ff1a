/- split: where a text may be cut (Safe, Apart). -/
import Derived.Test.YtdbpjmfflofadaaGreatDoorNfPlain
set_option maxRecDepth 100000
set_option linter.unusedVariables false
set_option linter.unusedSimpArgs false
namespace Go.Proofs.YtdbpjmfflofadaaGreatDoor
open Go.Proofs.Tryz
open Go.RowKit
theorem zSt {T:List Rw.Row} {S:List Int} (ok:Ud.Ok T S):(zAK T).length≤10000:=Zh (XR _ _) ok.len
theorem zRB {T:List Rw.Row} {S:List Int} (ok:Ud.Ok T S):(C.chars (Ud.sec T (C.mem S) T)).length≤1000000:=by
 have h1:=C.chars_len (Ud.sec T (C.mem S) T)
 have h2:(Ud.sec T (C.mem S) T).length≤(zAK T).length:=by
  unfold Ud.sec zKi;rw[Ze];exact XR _ _
 have h3:=zSt ok;omega
theorem Sp.isC_bd {c:Int} (h:C.isC c=true) : -2147483648≤c∧c≤2147483647:=by
 unfold C.isC at h;simp only[Zo]at h;omega
theorem zQf {T:List Rw.Row} {S:List Int} (ok:Ud.Ok T S) {c:Int} (h:C.isC c=true) : -2147483648≤Sp.head T c∧Sp.head T c≤2147483647:=by
 obtain⟨M,hM⟩:=zDB ok c;exact Sp.isC_bd (zJg ok h _ (by rw[hM];exact ZI))
theorem zLA (v:Value) (T:List Rw.Row) (S:List Int) (c:Int) (w:World) (ok:Ud.Ok T S) (h:Ud.Is w v T S) (h3 : -2147483648≤c) (h4:c≤2147483647) :
 Calls prog 41 #[v,.int .i32 c] w fun e w'=>e=.returned (.bool (Nc.sec T S c))∧Below w.heap.size w w':=by
 obtain⟨b,A0,c0,XA,xc,pc,pp,A3,c3,mb,jb,A4,c4,A5,c5,A6,c6,es,rfl,af,_,_,ai,ah,aa,_,ae,_,hi,_⟩:=h.is;have hl:=zRB ok;unfold Nc.sec;have hH:=zMk A5 c5 _ w.heap.size _ c w rfl hl (zBL _).1.1 (Za _) hi;have hO:=Hg.of_any c w h3 h4;have z7:=af.cell 8 rfl;have ao:=af.lt;obtain⟨n,hn⟩:∃n,(C.chars (Ud.sec T (C.mem S) T)).length=n:=⟨_,rfl⟩;obtain⟨m,hm⟩:∃m,C.mem (C.chars (Ud.sec T (C.mem S) T)) c=m:=⟨_,rfl⟩;obtain⟨k,hk⟩:∃k,zA2 c=k:=⟨_,rfl⟩;rw[hn]at z7 hH;rw[hm]at hH ⊢;rw[hk]at hO ⊢;clear ae aa ai ah af h ok hi hn hm hk h3 h4 hl;go_enter func41,ntmps41;go_wp2_with fail;refine hO.mono ?_;rintro e w0 ⟨rfl,rfl⟩;clear hO;go_wp2_with fail;refine hH.mono ?_;rintro e w1 ⟨rfl,ag⟩;have HB:=hy' ag;clear ag hH z7;cases m
 · by_cases k2:k=2
   · subst k2;go_wp2_with fail;go_ret;exact⟨rfl,HB.o⟩
   have ak:(k == 2)=false:=by simpa using k2
   by_cases k3:k=3
   · subst k3;go_wp2_with fail;go_ret;exact⟨rfl,HB.o⟩
   have aj:(k == 3)=false:=by simpa using k3
   go_wp2_with fail;go_ret;exact⟨by simp[k2,k3],HB.o⟩
 go_wp2_with fail;go_ret;exact⟨rfl,HB.o⟩
theorem zJt (v:Value) (T:List Rw.Row) (S:List Int) (c:Int) (w:World) (ok:Ud.Ok T S) (h:Ud.Is w v T S) :
 Calls prog 20 #[v,.int .i32 c] w fun e w'=>e=.returned (.bool (zA7 T S c))∧Below w.heap.size w w':=by
 have ai:=zBv c w;obtain⟨b,hb⟩:∃b,C.isC c=b:=⟨_,rfl⟩;obtain⟨M,hM⟩:=zDB ok c;obtain⟨x,hx⟩:∃x,Sp.head T c=x:=⟨_,rfl⟩;rw[hx]at hM
 have hF:Hy (b=true→Calls prog 39 #[v,.int .i32 c] w (zD1 .i32 (x::M) w)):=hy' fun h1=>by
  have:=Ud.full_any v T S c w ok h (Sp.isC_bd (hb.trans h1)).1 (Sp.isC_bd (hb.trans h1)).2;rw[hM]at this;exact this
 have hC:Hy (∀W,Below w.heap.size w W→Calls prog 40 #[v,.int .i32 x] W fun e w'=>e=.returned (.int .i64 (Md.cls T x))∧Below W.heap.size W w'):=hy' fun W hW=>Ud.class_any v T S x W ok (h.below hW)
 have hS:Hy (b=true→∀W,Below w.heap.size w W→Calls prog 41 #[v,.int .i32 x] W fun e w'=>e=.returned (.bool (Nc.sec T S x))∧Below W.heap.size W w'):=hy' fun h1 W hW=>by
  have hbd:=zQf ok (hb.trans h1);rw[hx]at hbd;exact zLA _ T S x W ok (h.below hW) hbd.1 hbd.2
 obtain⟨pb,rfl,hpb⟩:=h.form;unfold zA7 Sp.start;rw[hx,hb];rw[hb]at ai;obtain⟨q,hq⟩:∃q,Md.cls T x=q:=⟨_,rfl⟩;obtain⟨z,hz⟩:∃z,Nc.sec T S x=z:=⟨_,rfl⟩;rw[hq]at hC;rw[hz]at hS;rw[hq,hz];clear hq hz hx hM hb h ok;go_enter func20,ntmps20;go_wp2_with fail;refine ai.mono ?_;rintro e w0 ⟨rfl,rfl⟩;clear ai;cases b
 · go_wp2_with fail;go_ret;exact⟨rfl,Zd _ _⟩
 have ak:=hF.o rfl;have HS:=hy' (hS.o rfl);clear hF hS;go_wp2_with fail;refine ak.mono ?_;rintro e w1 ⟨A,cc,rfl,hs,ah⟩;obtain⟨g,o,rfl,hg,hc⟩:=hs (by rw[Ze,ZB];omega);have ag:=hc 0 (by rw[Ze,ZB];omega);rw[YQ]at ag;have aw:w1.cell? ⟨g,o,none⟩=some (.int .i32 x):=ag;have ap:=hC.o w1 ah;have ao:=hy' ah;have ax:(0:Int)<((x::M).length:Nat):=by rw[ZB];omega
 have aj:0<(x::M).length:=by rw[ZB];omega
 clear ah ak hs hc ag;go_wp2_with fail;refine ap.mono ?_;rintro e w2 ⟨rfl,au⟩;have ae:=hy' (ao.o.trans (au.mono ao.o.size));have af:=HS.o w2 ae.o;clear au ap aw ax aj hg;rcases hq0:(q == 0) with _|_
 · have aa:¬q=0:=by simpa using hq0
   have av:=hy' aa;clear aa af;go_wp2_with fail;go_ret;exact⟨by rw[Zp av.o];rfl,ae.o⟩
 have aa:q=0:=by simpa using hq0
 subst aa;clear hq0;go_wp2_with fail;refine af.mono ?_;rintro e w3 ⟨rfl,ar⟩;have aq:=hy' (ae.o.trans (ar.mono ae.o.size));clear ar af;cases z
 · go_wp2_with fail;go_ret;exact⟨rfl,aq.o⟩
 go_wp2_with fail;go_ret;exact⟨rfl,aq.o⟩
end Go.Proofs.YtdbpjmfflofadaaGreatDoor
