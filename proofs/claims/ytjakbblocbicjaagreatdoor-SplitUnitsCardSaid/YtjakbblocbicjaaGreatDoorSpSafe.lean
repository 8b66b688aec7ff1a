/- split: where a text may be cut (Safe, Apart). -/
import Derived.Test.YtjakbblocbicjaaGreatDoorSsSymB
import Derived.Test.YtjakbblocbicjaaGreatDoorNfLaw
import Derived.Test.YtjakbblocbicjaaGreatDoorFaCh
import Derived.Test.YtjakbblocbicjaaGreatDoorMdExp
namespace Go.Proofs.YtjakbblocbicjaaGreatDoor
open Go.RowKit
set_option linter.unusedSimpArgs false
set_option linter.unusedVariables false
theorem Ud.mr_le {T:List Rw.Row} {S:List Int} (ok:Ud.Ok T S):(zAC T).length≤10000:=Nat.le_trans (List.length_filter_le _ _) ok.len
theorem Ud.inn_le {T:List Rw.Row} {S:List Int} (ok:Ud.Ok T S):(C.chars (Ud.inn T T)).length≤1000000:=by
 have h1:=C.chars_len (Ud.inn T T);have h2:(Ud.inn T T).length≤31*(zAC T).length:=zFf (zAS ok) (zAC T);have h3:=Ud.mr_le ok;omega
theorem Ud.sec_le {T:List Rw.Row} {S:List Int} (ok:Ud.Ok T S):(C.chars (Ud.sec T (C.mem S) T)).length≤1000000:=by
 have h1:=C.chars_len (Ud.sec T (C.mem S) T)
 have h2:(Ud.sec T (C.mem S) T).length≤(zAC T).length:=by
  unfold Ud.sec zJP;rw[List.length_map];exact List.length_filter_le _ _
 have h3:=Ud.mr_le ok;omega
def Sp.inn (T:List Rw.Row) (c:Int):Bool:=C.mem (C.chars (Ud.inn T T)) c||decide (zA2 c=2)||decide (zA2 c=3)
def Sp.apart (T:List Rw.Row) (c:Int):Bool:=C.isC c&&(Sp.start T c&&!Sp.inn T (Sp.head T c))
theorem Sp.isC_bd {c:Int} (h:C.isC c=true) : -2147483648≤c∧c≤2147483647:=by
 unfold C.isC at h;simp only[decide_eq_true_eq]at h;omega
theorem Sp.head_bd {T:List Rw.Row} {S:List Int} (ok:Ud.Ok T S) {c:Int} (h:C.isC c=true) : -2147483648≤Sp.head T c∧Sp.head T c≤2147483647:=by
 obtain⟨M,hM⟩:=zCx ok c;exact Sp.isC_bd (zIK ok h _ (by rw[hM];exact List.mem_cons_self))
set_option maxRecDepth 100000 in
theorem Ud.second_any (v:Value) (T:List Rw.Row) (S:List Int) (c:Int) (w:World) (ok:Ud.Ok T S) (h:Ud.Is w v T S) (h3 : -2147483648≤c) (h4:c≤2147483647) :
 Calls Tryz.prog 23 #[v,.int .i32 c] w fun e w'=>e=.returned (.bool (Nc.sec T S c))∧Below w.heap.size w w':=by
 obtain⟨b,A0,c0,XA,xc,pc,pp,A3,c3,mb,jb,A4,c4,A5,c5,A6,c6,es,rfl,hat,_,_,hpc,hpp,hents,_,hjoi,_,hi,_⟩:=h.is;have hl:=Ud.sec_le ok;unfold Nc.sec;have hH:=zIw A5 c5 _ w.heap.size _ c w rfl hl (zBH _).1.1 (Nat.le_refl _) hi;have hO:=Hg.of_any c w h3 h4;have z7:=hat.cell 8 rfl;have hbl:=hat.lt;obtain⟨n,hn⟩:∃n,(C.chars (Ud.sec T (C.mem S) T)).length=n:=⟨_,rfl⟩;obtain⟨m,hm⟩:∃m,C.mem (C.chars (Ud.sec T (C.mem S) T)) c=m:=⟨_,rfl⟩;obtain⟨k,hk⟩:∃k,zA2 c=k:=⟨_,rfl⟩;rw[hn]at z7 hH;rw[hm]at hH ⊢;rw[hk]at hO ⊢;clear hjoi hents hpc hpp hat h ok hi hn hm hk h3 h4 hl;go_enter Tryz.func23,Tryz.ntmps23;go_wp2_with fail;refine hO.mono ?_;rintro e w0 ⟨rfl,rfl⟩;clear hO;go_wp2_with fail;refine hH.mono ?_;rintro e w1 ⟨rfl,hb1⟩;have HB:=hy' hb1;clear hb1 hH z7;cases m
 rotate_left
 · go_wp2_with fail;go_ret;exact⟨rfl,HB.o⟩
 by_cases k2:k=2
 · subst k2;go_wp2_with fail;go_ret;exact⟨rfl,HB.o⟩
 have k2b:(k == 2)=false:=by simpa using k2
 by_cases k3:k=3
 · subst k3;go_wp2_with fail;go_ret;exact⟨rfl,HB.o⟩
 have k3b:(k == 3)=false:=by simpa using k3
 go_wp2_with fail;go_ret;exact⟨by simp[k2,k3],HB.o⟩
set_option maxRecDepth 100000 in
theorem Sp.safe_any (v:Value) (T:List Rw.Row) (S:List Int) (c:Int) (w:World) (ok:Ud.Ok T S) (h:Ud.Is w v T S) :
 Calls Tryz.prog 22 #[v,.int .i32 c] w fun e w'=>e=.returned (.bool (zLv T S c))∧Below w.heap.size w w':=by
 have hui:=zBd c w;obtain⟨b,hb⟩:∃b,C.isC c=b:=⟨_,rfl⟩;obtain⟨M,hM⟩:=zCx ok c;obtain⟨x,hx⟩:∃x,Sp.head T c=x:=⟨_,rfl⟩;rw[hx]at hM
 have hF:Hy (b=true→Calls Tryz.prog 51 #[v,.int .i32 c] w (RetInts .i32 (x::M) w)):=hy' fun h1=>by
  have:=Ud.full_any v T S c w ok h (Sp.isC_bd (hb.trans h1)).1 (Sp.isC_bd (hb.trans h1)).2;rw[hM]at this;exact this
 have hC:Hy (∀W,Below w.heap.size w W→Calls Tryz.prog 52 #[v,.int .i32 x] W fun e w'=>e=.returned (.int .i64 (Md.cls T x))∧Below W.heap.size W w'):=hy' fun W hW=>Ud.class_any v T S x W ok (h.below hW)
 have hS:Hy (b=true→∀W,Below w.heap.size w W→Calls Tryz.prog 23 #[v,.int .i32 x] W fun e w'=>e=.returned (.bool (Nc.sec T S x))∧Below W.heap.size W w'):=hy' fun h1 W hW=>by
  have hbd:=Sp.head_bd ok (hb.trans h1);rw[hx]at hbd;exact Ud.second_any _ T S x W ok (h.below hW) hbd.1 hbd.2
 obtain⟨pb,rfl,hpb⟩:=h.form;unfold zLv Sp.start;rw[hx,hb];rw[hb]at hui;obtain⟨q,hq⟩:∃q,Md.cls T x=q:=⟨_,rfl⟩;obtain⟨z,hz⟩:∃z,Nc.sec T S x=z:=⟨_,rfl⟩;rw[hq]at hC;rw[hz]at hS;rw[hq,hz];clear hq hz hx hM hb h ok;go_enter Tryz.func22,Tryz.ntmps22;go_wp2_with fail;refine hui.mono ?_;rintro e w0 ⟨rfl,rfl⟩;clear hui;cases b
 · go_wp2_with fail;go_ret;exact⟨rfl,Below.refl _ _⟩
 have hF0:=hF.o rfl;have HS:=hy' (hS.o rfl);clear hF hS;go_wp2_with fail;refine hF0.mono ?_;rintro e w1 ⟨A,cc,rfl,hs,hb1⟩;obtain⟨g,o,rfl,hg,hc⟩:=hs (by rw[List.length_map,List.length_cons];omega);have hc0:=hc 0 (by rw[List.length_map,List.length_cons];omega);rw[Nat.add_zero]at hc0;have hc1:w1.cell? ⟨g,o,none⟩=some (.int .i32 x):=hc0;have hC1:=hC.o w1 hb1;have HB1:=hy' hb1;have hln:(0:Int)<((x::M).length:Nat):=by rw[List.length_cons];omega
 have hln':0<(x::M).length:=by rw[List.length_cons];omega
 clear hb1 hF0 hs hc hc0;go_wp2_with fail;refine hC1.mono ?_;rintro e w2 ⟨rfl,hb2⟩;have HB2:=hy' (HB1.o.trans (hb2.mono HB1.o.size));have hS2:=HS.o w2 HB2.o;clear hb2 hC1 hc1 hln hln' hg;rcases hq0:(q == 0) with _|_
 · have hq1:¬q=0:=by simpa using hq0
   have HQ1:=hy' hq1;clear hq1 hS2;go_wp2_with fail;go_ret;exact⟨by rw[decide_eq_false HQ1.o];rfl,HB2.o⟩
 have hq1:q=0:=by simpa using hq0
 subst hq1;clear hq0;go_wp2_with fail;refine hS2.mono ?_;rintro e w3 ⟨rfl,hb3⟩;have HB3:=hy' (HB2.o.trans (hb3.mono HB2.o.size));clear hb3 hS2;cases z
 · go_wp2_with fail;go_ret;exact⟨rfl,HB3.o⟩
 go_wp2_with fail;go_ret;exact⟨rfl,HB3.o⟩
set_option maxRecDepth 100000 in
theorem Sp.apart_any (v:Value) (T:List Rw.Row) (S:List Int) (c:Int) (w:World) (ok:Ud.Ok T S) (h:Ud.Is w v T S) :
 Calls Tryz.prog 19 #[v,.int .i32 c] w fun e w'=>e=.returned (.bool (Sp.apart T c))∧Below w.heap.size w w':=by
 have hui:=zBd c w;obtain⟨b,hb⟩:∃b,C.isC c=b:=⟨_,rfl⟩;obtain⟨M,hM⟩:=zCx ok c;obtain⟨x,hx⟩:∃x,Sp.head T c=x:=⟨_,rfl⟩;rw[hx]at hM
 have hF:Hy (b=true→Calls Tryz.prog 51 #[v,.int .i32 c] w (RetInts .i32 (x::M) w)):=hy' fun h1=>by
  have:=Ud.full_any v T S c w ok h (Sp.isC_bd (hb.trans h1)).1 (Sp.isC_bd (hb.trans h1)).2;rw[hM]at this;exact this
 have hC:Hy (∀W,Below w.heap.size w W→Calls Tryz.prog 52 #[v,.int .i32 x] W fun e w'=>e=.returned (.int .i64 (Md.cls T x))∧Below W.heap.size W w'):=hy' fun W hW=>Ud.class_any v T S x W ok (h.below hW)
 have hS:Hy (b=true→∀W,Below w.heap.size w W→Calls Tryz.prog 24 #[v,.int .i32 x] W fun e w'=>e=.returned (.bool (Sp.inn T x))∧Below W.heap.size W w'):=hy' fun h1 W hW=>by
  have hbd:=Sp.head_bd ok (hb.trans h1);rw[hx]at hbd;exact zM7 _ T S x W ok (Ud.inn_le ok) (h.below hW) hbd.1 hbd.2
 obtain⟨pb,rfl,hpb⟩:=h.form;unfold Sp.apart Sp.start;rw[hx,hb];rw[hb]at hui;obtain⟨q,hq⟩:∃q,Md.cls T x=q:=⟨_,rfl⟩;obtain⟨z,hz⟩:∃z,Sp.inn T x=z:=⟨_,rfl⟩;rw[hq]at hC;rw[hz]at hS;rw[hq,hz];clear hq hz hx hM hb h ok;go_enter Tryz.func19,Tryz.ntmps19;go_wp2_with fail;refine hui.mono ?_;rintro e w0 ⟨rfl,rfl⟩;clear hui;cases b
 · go_wp2_with fail;go_ret;exact⟨rfl,Below.refl _ _⟩
 have hF0:=hF.o rfl;have HS:=hy' (hS.o rfl);clear hF hS;go_wp2_with fail;refine hF0.mono ?_;rintro e w1 ⟨A,cc,rfl,hs,hb1⟩;obtain⟨g,o,rfl,hg,hc⟩:=hs (by rw[List.length_map,List.length_cons];omega);have hc0:=hc 0 (by rw[List.length_map,List.length_cons];omega);rw[Nat.add_zero]at hc0;have hc1:w1.cell? ⟨g,o,none⟩=some (.int .i32 x):=hc0;have hC1:=hC.o w1 hb1;have HB1:=hy' hb1;have hln:(0:Int)<((x::M).length:Nat):=by rw[List.length_cons];omega
 have hln':0<(x::M).length:=by rw[List.length_cons];omega
 clear hb1 hF0 hs hc hc0;go_wp2_with fail;refine hC1.mono ?_;rintro e w2 ⟨rfl,hb2⟩;have HB2:=hy' (HB1.o.trans (hb2.mono HB1.o.size));have hS2:=HS.o w2 HB2.o;clear hb2 hC1 hc1 hln hln' hg;rcases hq0:(q == 0) with _|_
 · have hq1:¬q=0:=by simpa using hq0
   have HQ1:=hy' hq1;clear hq1 hS2;go_wp2_with fail;go_ret;exact⟨by rw[decide_eq_false HQ1.o];rfl,HB2.o⟩
 have hq1:q=0:=by simpa using hq0
 subst hq1;clear hq0;go_wp2_with fail;refine hS2.mono ?_;rintro e w3 ⟨rfl,hb3⟩;have HB3:=hy' (HB2.o.trans (hb3.mono HB2.o.size));clear hb3 hS2;cases z
 · go_wp2_with fail;go_ret;exact⟨rfl,HB3.o⟩
 go_wp2_with fail;go_ret;exact⟨rfl,HB3.o⟩
end Go.Proofs.YtjakbblocbicjaaGreatDoor
