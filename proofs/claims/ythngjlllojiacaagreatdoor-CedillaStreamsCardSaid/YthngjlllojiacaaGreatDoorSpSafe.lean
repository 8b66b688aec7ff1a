/- split: where a text may be cut (Safe, Apart). -/
import Derived.Test.YthngjlllojiacaaGreatDoorNcWhole
set_option maxRecDepth 100000
set_option linter.unusedVariables false
set_option linter.unusedSimpArgs false
namespace Go.Proofs.YthngjlllojiacaaGreatDoor
open Go.Proofs.Tryz
open Go.RowKit
theorem Ud.mr_le {T:List Rw.Row} {S:List Int} (ok:Ud.Ok T S):(zAB T).length≤10000:=Zh (XH _ _) ok.len
theorem Ud.inn_le {T:List Rw.Row} {S:List Int} (ok:Ud.Ok T S):(C.chars (Ud.inn T T)).length≤1000000:=by
 have h1:=C.chars_len (Ud.inn T T);have h2:(Ud.inn T T).length≤31*(zAB T).length:=zF7 (zBt ok) (zAB T);have h3:=Ud.mr_le ok;omega
theorem Ud.sec_le {T:List Rw.Row} {S:List Int} (ok:Ud.Ok T S):(C.chars (Ud.sec T (C.mem S) T)).length≤1000000:=by
 have h1:=C.chars_len (Ud.sec T (C.mem S) T)
 have h2:(Ud.sec T (C.mem S) T).length≤(zAB T).length:=by
  unfold Ud.sec zJv;rw[Ze];exact XH _ _
 have h3:=Ud.mr_le ok;omega
def Sp.inn (T:List Rw.Row) (c:Int):Bool:=C.mem (C.chars (Ud.inn T T)) c||decide (zA2 c=2)||decide (zA2 c=3)
def Sp.apart (T:List Rw.Row) (c:Int):Bool:=C.isC c&&(Sp.start T c&&!Sp.inn T (Sp.head T c))
theorem Sp.isC_bd {c:Int} (h:C.isC c=true) : -2147483648≤c∧c≤2147483647:=by
 unfold C.isC at h;simp only[Zm]at h;omega
theorem Sp.head_bd {T:List Rw.Row} {S:List Int} (ok:Ud.Ok T S) {c:Int} (h:C.isC c=true) : -2147483648≤Sp.head T c∧Sp.head T c≤2147483647:=by
 obtain⟨M,hM⟩:=zDm ok c;exact Sp.isC_bd (zIu ok h _ (by rw[hM];exact Zq))
theorem Ud.second_any (v:Value) (T:List Rw.Row) (S:List Int) (c:Int) (w:World) (ok:Ud.Ok T S) (h:Ud.Is w v T S) (h3 : -2147483648≤c) (h4:c≤2147483647) :
 Calls prog 42 #[v,.int .i32 c] w fun e w'=>e=.returned (.bool (Nc.sec T S c))∧Below w.heap.size w w':=by
 obtain⟨b,A0,c0,XA,xc,pc,pp,A3,c3,mb,jb,A4,c4,A5,c5,A6,c6,es,rfl,ae,_,_,ah,ai,aa,_,af,_,hi,_⟩:=h.is;have hl:=Ud.sec_le ok;unfold Nc.sec;have hH:=zLv A5 c5 _ w.heap.size _ c w rfl hl (zC0 _).1.1 (Za _) hi;have hO:=Hg.of_any c w h3 h4;have z7:=ae.cell 8 rfl;have ao:=ae.lt;obtain⟨n,hn⟩:∃n,(C.chars (Ud.sec T (C.mem S) T)).length=n:=⟨_,rfl⟩;obtain⟨m,hm⟩:∃m,C.mem (C.chars (Ud.sec T (C.mem S) T)) c=m:=⟨_,rfl⟩;obtain⟨k,hk⟩:∃k,zA2 c=k:=⟨_,rfl⟩;rw[hn]at z7 hH;rw[hm]at hH ⊢;rw[hk]at hO ⊢;clear af aa ah ai ae h ok hi hn hm hk h3 h4 hl;go_enter func42,ntmps42;go_wp2_with fail;refine hO.mono ?_;rintro e w0 ⟨rfl,rfl⟩;clear hO;go_wp2_with fail;refine hH.mono ?_;rintro e w1 ⟨rfl,ag⟩;have HB:=hy' ag;clear ag hH z7;cases m
 · by_cases k2:k=2
   · subst k2;go_wp2_with fail;go_ret;exact⟨rfl,HB.o⟩
   have aj:(k == 2)=false:=by simpa using k2
   by_cases k3:k=3
   · subst k3;go_wp2_with fail;go_ret;exact⟨rfl,HB.o⟩
   have ak:(k == 3)=false:=by simpa using k3
   go_wp2_with fail;go_ret;exact⟨by simp[k2,k3],HB.o⟩
 go_wp2_with fail;go_ret;exact⟨rfl,HB.o⟩
theorem Sp.safe_any (v:Value) (T:List Rw.Row) (S:List Int) (c:Int) (w:World) (ok:Ud.Ok T S) (h:Ud.Is w v T S) :
 Calls prog 21 #[v,.int .i32 c] w fun e w'=>e=.returned (.bool (zKG T S c))∧Below w.heap.size w w':=by
 have ai:=zBq c w;obtain⟨b,hb⟩:∃b,C.isC c=b:=⟨_,rfl⟩;obtain⟨M,hM⟩:=zDm ok c;obtain⟨x,hx⟩:∃x,Sp.head T c=x:=⟨_,rfl⟩;rw[hx]at hM
 have hF:Hy (b=true→Calls prog 40 #[v,.int .i32 c] w (zCR .i32 (x::M) w)):=hy' fun h1=>by
  have:=Ud.full_any v T S c w ok h (Sp.isC_bd (hb.trans h1)).1 (Sp.isC_bd (hb.trans h1)).2;rw[hM]at this;exact this
 have hC:Hy (∀W,Below w.heap.size w W→Calls prog 41 #[v,.int .i32 x] W fun e w'=>e=.returned (.int .i64 (Md.cls T x))∧Below W.heap.size W w'):=hy' fun W hW=>Ud.class_any v T S x W ok (h.below hW)
 have hS:Hy (b=true→∀W,Below w.heap.size w W→Calls prog 42 #[v,.int .i32 x] W fun e w'=>e=.returned (.bool (Nc.sec T S x))∧Below W.heap.size W w'):=hy' fun h1 W hW=>by
  have hbd:=Sp.head_bd ok (hb.trans h1);rw[hx]at hbd;exact Ud.second_any _ T S x W ok (h.below hW) hbd.1 hbd.2
 obtain⟨pb,rfl,hpb⟩:=h.form;unfold zKG Sp.start;rw[hx,hb];rw[hb]at ai;obtain⟨q,hq⟩:∃q,Md.cls T x=q:=⟨_,rfl⟩;obtain⟨z,hz⟩:∃z,Nc.sec T S x=z:=⟨_,rfl⟩;rw[hq]at hC;rw[hz]at hS;rw[hq,hz];clear hq hz hx hM hb h ok;go_enter func21,ntmps21;go_wp2_with fail;refine ai.mono ?_;rintro e w0 ⟨rfl,rfl⟩;clear ai;cases b
 · go_wp2_with fail;go_ret;exact⟨rfl,Zc _ _⟩
 have au:=hF.o rfl;have HS:=hy' (hS.o rfl);clear hF hS;go_wp2_with fail;refine au.mono ?_;rintro e w1 ⟨A,cc,rfl,hs,ag⟩;obtain⟨g,o,rfl,hg,hc⟩:=hs (by rw[Ze,ZF];omega);have ah:=hc 0 (by rw[Ze,ZF];omega);rw[YT]at ah;have aw:w1.cell? ⟨g,o,none⟩=some (.int .i32 x):=ah;have ak:=hC.o w1 ag;have ap:=hy' ag;have av:(0:Int)<((x::M).length:Nat):=by rw[ZF];omega
 have aj:0<(x::M).length:=by rw[ZF];omega
 clear ag au hs hc ah;go_wp2_with fail;refine ak.mono ?_;rintro e w2 ⟨rfl,aq⟩;have ae:=hy' (ap.o.trans (aq.mono ap.o.size));have af:=HS.o w2 ae.o;clear aq ak aw av aj hg;rcases hq0:(q == 0) with _|_
 · have aa:¬q=0:=by simpa using hq0
   have ax:=hy' aa;clear aa af;go_wp2_with fail;go_ret;exact⟨by rw[Zt ax.o];rfl,ae.o⟩
 have aa:q=0:=by simpa using hq0
 subst aa;clear hq0;go_wp2_with fail;refine af.mono ?_;rintro e w3 ⟨rfl,ao⟩;have ar:=hy' (ae.o.trans (ao.mono ae.o.size));clear ao af;cases z
 · go_wp2_with fail;go_ret;exact⟨rfl,ar.o⟩
 go_wp2_with fail;go_ret;exact⟨rfl,ar.o⟩
end Go.Proofs.YthngjlllojiacaaGreatDoor
