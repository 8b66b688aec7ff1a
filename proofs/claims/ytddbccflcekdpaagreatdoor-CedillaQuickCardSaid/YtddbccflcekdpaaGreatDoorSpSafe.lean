/- split: where a text may be cut (Safe, Apart). -/
import Derived.Test.YtddbccflcekdpaaGreatDoorNfWhole
set_option maxRecDepth 100000
set_option linter.unusedVariables false
set_option linter.unusedSimpArgs false
namespace Go.Proofs.YtddbccflcekdpaaGreatDoor
open Go.Proofs.Tryz
open Go.RowKit
theorem Ud.mr_le {T:List Rw.Row} {S:List Int} (ok:Ud.Ok T S):(zAD T).length≤10000:=Zi (XK _ _) ok.len
theorem Ud.inn_le {T:List Rw.Row} {S:List Int} (ok:Ud.Ok T S):(C.chars (Ud.inn T T)).length≤1000000:=by
 have h1:=C.chars_len (Ud.inn T T);have h2:(Ud.inn T T).length≤31*(zAD T).length:=zFk (zB5 ok) (zAD T);have h3:=Ud.mr_le ok;omega
theorem Ud.sec_le {T:List Rw.Row} {S:List Int} (ok:Ud.Ok T S):(C.chars (Ud.sec T (C.mem S) T)).length≤1000000:=by
 have h1:=C.chars_len (Ud.sec T (C.mem S) T)
 have h2:(Ud.sec T (C.mem S) T).length≤(zAD T).length:=by
  unfold Ud.sec zK2;rw[Ze];exact XK _ _
 have h3:=Ud.mr_le ok;omega
def Sp.inn (T:List Rw.Row) (c:Int):Bool:=C.mem (C.chars (Ud.inn T T)) c||decide (zA3 c=2)||decide (zA3 c=3)
def Sp.apart (T:List Rw.Row) (c:Int):Bool:=C.isC c&&(Sp.start T c&&!Sp.inn T (Sp.head T c))
theorem Sp.isC_bd {c:Int} (h:C.isC c=true) : -2147483648≤c∧c≤2147483647:=by
 unfold C.isC at h;simp only[Zp]at h;omega
theorem Sp.head_bd {T:List Rw.Row} {S:List Int} (ok:Ud.Ok T S) {c:Int} (h:C.isC c=true) : -2147483648≤Sp.head T c∧Sp.head T c≤2147483647:=by
 obtain⟨M,hM⟩:=zDA ok c;exact Sp.isC_bd (zIY ok h _ (by rw[hM];exact Zt))
theorem Ud.second_any (v:Value) (T:List Rw.Row) (S:List Int) (c:Int) (w:World) (ok:Ud.Ok T S) (h:Ud.Is w v T S) (h3 : -2147483648≤c) (h4:c≤2147483647) :
 Calls prog 27 #[v,.int .i32 c] w fun e w'=>e=.returned (.bool (Nc.sec T S c))∧Below w.heap.size w w':=by
 obtain⟨b,A0,c0,XA,xc,pc,pp,A3,c3,mb,jb,A4,c4,A5,c5,A6,c6,es,rfl,ae,_,_,ah,ai,aa,_,af,_,hi,_⟩:=h.is;have hl:=Ud.sec_le ok;unfold Nc.sec;have hH:=zLW A5 c5 _ w.heap.size _ c w rfl hl (zC5 _).1.1 (Za _) hi;have hO:=Hg.of_any c w h3 h4;have z7:=ae.cell 8 rfl;have ao:=ae.lt;obtain⟨n,hn⟩:∃n,(C.chars (Ud.sec T (C.mem S) T)).length=n:=⟨_,rfl⟩;obtain⟨m,hm⟩:∃m,C.mem (C.chars (Ud.sec T (C.mem S) T)) c=m:=⟨_,rfl⟩;obtain⟨k,hk⟩:∃k,zA3 c=k:=⟨_,rfl⟩;rw[hn]at z7 hH;rw[hm]at hH ⊢;rw[hk]at hO ⊢;clear af aa ah ai ae h ok hi hn hm hk h3 h4 hl;go_enter func27,ntmps27;go_wp2_with fail;refine hO.mono ?_;rintro e w0 ⟨rfl,rfl⟩;clear hO;go_wp2_with fail;refine hH.mono ?_;rintro e w1 ⟨rfl,ag⟩;have HB:=hy' ag;clear ag hH z7;cases m
 · by_cases k2:k=2
   · subst k2;go_wp2_with fail;go_ret;exact⟨rfl,HB.o⟩
   have aj:(k == 2)=false:=by simpa using k2
   by_cases k3:k=3
   · subst k3;go_wp2_with fail;go_ret;exact⟨rfl,HB.o⟩
   have ak:(k == 3)=false:=by simpa using k3
   go_wp2_with fail;go_ret;exact⟨by simp[k2,k3],HB.o⟩
 go_wp2_with fail;go_ret;exact⟨rfl,HB.o⟩
theorem Sp.safe_any (v:Value) (T:List Rw.Row) (S:List Int) (c:Int) (w:World) (ok:Ud.Ok T S) (h:Ud.Is w v T S) :
 Calls prog 35 #[v,.int .i32 c] w fun e w'=>e=.returned (.bool (zEr T S c))∧Below w.heap.size w w':=by
 have aj:=zBu c w;obtain⟨b,hb⟩:∃b,C.isC c=b:=⟨_,rfl⟩;obtain⟨M,hM⟩:=zDA ok c;obtain⟨x,hx⟩:∃x,Sp.head T c=x:=⟨_,rfl⟩;rw[hx]at hM
 have hF:Hy (b=true→Calls prog 50 #[v,.int .i32 c] w (RetInts .i32 (x::M) w)):=hy' fun h1=>by
  have:=Ud.full_any v T S c w ok h (Sp.isC_bd (hb.trans h1)).1 (Sp.isC_bd (hb.trans h1)).2;rw[hM]at this;exact this
 have hC:Hy (∀W,Below w.heap.size w W→Calls prog 37 #[v,.int .i32 x] W fun e w'=>e=.returned (.int .i64 (Md.cls T x))∧Below W.heap.size W w'):=hy' fun W hW=>Ud.class_any v T S x W ok (h.below hW)
 have hS:Hy (b=true→∀W,Below w.heap.size w W→Calls prog 27 #[v,.int .i32 x] W fun e w'=>e=.returned (.bool (Nc.sec T S x))∧Below W.heap.size W w'):=hy' fun h1 W hW=>by
  have hbd:=Sp.head_bd ok (hb.trans h1);rw[hx]at hbd;exact Ud.second_any _ T S x W ok (h.below hW) hbd.1 hbd.2
 obtain⟨pb,rfl,hpb⟩:=h.form;unfold zEr Sp.start;rw[hx,hb];rw[hb]at aj;obtain⟨q,hq⟩:∃q,Md.cls T x=q:=⟨_,rfl⟩;obtain⟨z,hz⟩:∃z,Nc.sec T S x=z:=⟨_,rfl⟩;rw[hq]at hC;rw[hz]at hS;rw[hq,hz];clear hq hz hx hM hb h ok;go_enter func35,ntmps35;go_wp2_with fail;refine aj.mono ?_;rintro e w0 ⟨rfl,rfl⟩;clear aj;cases b
 · go_wp2_with fail;go_ret;exact⟨rfl,Zc _ _⟩
 have ak:=hF.o rfl;have HS:=hy' (hS.o rfl);clear hF hS;go_wp2_with fail;refine ak.mono ?_;rintro e w1 ⟨A,cc,rfl,hs,ah⟩;obtain⟨g,o,rfl,hg,hc⟩:=hs (by rw[Ze,ZE];omega);have ag:=hc 0 (by rw[Ze,ZE];omega);rw[YV]at ag;have aw:w1.cell? ⟨g,o,none⟩=some (.int .i32 x):=ag;have aq:=hC.o w1 ah;have au:=hy' ah;have av:(0:Int)<((x::M).length:Nat):=by rw[ZE];omega
 have ai:0<(x::M).length:=by rw[ZE];omega
 clear ah ak hs hc ag;go_wp2_with fail;refine aq.mono ?_;rintro e w2 ⟨rfl,ap⟩;have aa:=hy' (au.o.trans (ap.mono au.o.size));have af:=HS.o w2 aa.o;clear ap aq aw av ai hg;rcases hq0:(q == 0) with _|_
 · have ae:¬q=0:=by simpa using hq0
   have ax:=hy' ae;clear ae af;go_wp2_with fail;go_ret;exact⟨by rw[Zu ax.o];rfl,aa.o⟩
 have ae:q=0:=by simpa using hq0
 subst ae;clear hq0;go_wp2_with fail;refine af.mono ?_;rintro e w3 ⟨rfl,ar⟩;have ao:=hy' (aa.o.trans (ar.mono aa.o.size));clear ar af;cases z
 · go_wp2_with fail;go_ret;exact⟨rfl,ao.o⟩
 go_wp2_with fail;go_ret;exact⟨rfl,ao.o⟩
end Go.Proofs.YtddbccflcekdpaaGreatDoor
