/- The document's layer 18: what two are composed to, by walking its text. -/
import Derived.Test.YtddbccflcekdpaaGreatDoorPgReg
import Derived.Test.YtddbccflcekdpaaGreatDoorMdRef6
import Derived.Test.YtddbccflcekdpaaGreatDoorMdRef4
import Derived.Deep.DeepCutAuto
import Derived.Test.YtddbccflcekdpaaGreatDoorFiBits
import Derived.Test.YtddbccflcekdpaaGreatDoorUtf
import Derived.Test.YtddbccflcekdpaaGreatDoorStage
import Derived.Test.YtddbccflcekdpaaGreatDoorFaCh
import Derived.Test.YtddbccflcekdpaaGreatDoorMdTable
import Derived.Test.YtddbccflcekdpaaGreatDoorSlCut
import Derived.BigQuiet
import Derived.BigRegion
namespace Go.Proofs.YtddbccflcekdpaaGreatDoor
open Go.RowKit
set_option linter.unusedSimpArgs false
set_option linter.unusedVariables false
def Nc.isTwo (T:List Rw.Row) (X:Int→Bool) (a b:Int) (r:Rw.Row):Bool:=decide (r.2.2=[a,b])&&zAr T X r.1
theorem Nc.find_take {α:Type} {p:α→Bool} {T:List α} {k:Nat} {r:α} (hr:T[k]?=some r) (hno:∀q∈T.take k,p q=false) (he:p r=true):T.find? p=some r:=by
 obtain⟨h1,h2⟩:=List.getElem?_eq_some_iff.1 hr;rw[←List.take_append_drop k T,List.find?_append,List.find?_eq_none.2 (fun x hx=>by rw[hno x hx];simp),Option.none_or,List.drop_eq_getElem_cons h1,List.find?_cons,h2,he]
theorem Nc.no_succ {α:Type} {p:α→Bool} {T:List α} {k:Nat} {r:α} (hr:T[k]?=some r) (hno:∀q∈T.take k,p q=false) (he:p r=false):∀q∈T.take (k+1),p q=false:=by
 rw[List.take_add_one,hr];intro q hq;rcases List.mem_append.1 hq with h|h
 · exact hno q h
 simp at h;rw[h];exact he
set_option maxRecDepth 100000 in
set_option maxHeartbeats 4000000 in
theorem Nc.rtwo_any (v:Value) (T:List Rw.Row) (E:List Int) (a b:Int) (w:World) (hTn:T.length≤100000) (hEn:E.length≤1000000) (h:Md.Doc w v T E) (hml:∀r∈T,r.2.2.length≤1000) (hrb:∀r∈T,-2147483648≤r.1∧r.1≤2147483647) (ha1 : -2147483648≤a) (ha2:a≤2147483647) (hb1 : -2147483648≤b) (hb2:b≤2147483647) :
 Calls Tryz.prog 81 #[v,.int .i64 a,.int .i64 b] w fun e w'=>e=.returned (.int .i64 (Nc.two T (Md.xs E) a b))∧Below w.heap.size w w':=by
 have hPR:∀d W,Below w.heap.size w W → -2147483648≤d→d≤2147483647→Calls Tryz.prog 113 #[v,.int .i64 d] W fun e w'=>e=.returned (.bool (zAr T (Md.xs E) d))∧Below W.heap.size W w':=fun d W hW h3 h4=>zMR v T E d W hTn hEn (h.below hW) hml h3 h4
 obtain⟨A,c,XA,xc,rfl,h2,hX⟩:=h;obtain⟨n,hn⟩:∃k,T.length=k:=⟨_,rfl⟩;obtain⟨xn,hxn⟩:∃k,E.length=k:=⟨_,rfl⟩;rw[hn,hxn]at hPR ⊢;rw[hn]at hTn;obtain⟨pf,hpf⟩:∃p,zAr T (Md.xs E)=p:=⟨_,rfl⟩;have htw:Nc.two T (Md.xs E) a b=if (Hg.joinK a b).2=true then (Hg.joinK a b).1 else ((T.find? fun r=>decide (r.2.2=[a,b])&&pf r.1).map (·.1)).getD (-1):=by rw[←hpf];rfl
 rw[htw];rw[hpf]at hPR;unfold zBs at *;obtain⟨wa,hwa⟩:∃wa,w.alloc (.cells #[.slice A n c,.slice XA xn xc] 25)=wa:=⟨_,rfl⟩;have hba:Below w.heap.size w wa:=by rw[←hwa];exact (Below.refl _ _).alloc (Nat.le_refl _) _
 have hat:Rw.At wa w.heap.size 25 [.slice A n c,.slice XA xn xc]:=by rw[←hwa];exact Rw.At.new w 25 [.slice A n c,.slice XA xn xc]
 have HWA:=hy' hwa;have HBA:=hy' hba;have HSEE:=hy' (h2.below hba);have HAT:=hy' hat;have HN:=hy' hn;have HRB:=hy' hrb;have HPR:=hy' hPR;obtain⟨ka,hka⟩:∃k,zA3 a=k:=⟨_,rfl⟩;obtain⟨kb,hkb⟩:∃k,zA3 b=k:=⟨_,rfl⟩;have HKA:Hy (∀W,Calls Tryz.prog 112 #[.int .i64 a] W fun e w'=>e=.returned (.int .i64 ka)∧W=w'):=hy' fun W=>by have:=zN4 a W ha1 ha2;rw[hka]at this;exact this
 have HKB:Hy (∀W,Calls Tryz.prog 112 #[.int .i64 b] W fun e w'=>e=.returned (.int .i64 kb)∧W=w'):=hy' fun W=>by have:=zN4 b W hb1 hb2;rw[hkb]at this;exact this
 have hcase:(ka=1∧kb=2∧Hg.joinK a b=(44032+((a-4352)*21+b-4449)*28,true)∧4352≤a∧a<4371∧4449≤b∧b<4470)∨(¬(ka=1∧kb=2)∧ka=4∧kb=3∧Hg.joinK a b=(a+b-4519,true))∨(¬(ka=1∧kb=2)∧¬(ka=4∧kb=3)∧(Hg.joinK a b).2=false):=by
  unfold Hg.joinK;rw[hka,hkb]
  by_cases g1:ka=1∧kb=2
  · have:=zIx a (by omega);have:=zHq b (by omega);exact .inl ⟨g1.1,g1.2,by rw[if_pos g1],by omega,by omega,by omega,by omega⟩
  by_cases g2:ka=4∧kb=3
  · exact .inr (.inl ⟨g1,g2.1,g2.2,by rw[if_neg g1,if_pos g2]⟩)
  exact .inr (.inr ⟨g1,g2,by rw[if_neg g1,if_neg g2]⟩)
 have HCASE:=hy' hcase;clear hwa hba hat hn hxn h2 hX hPR hrb hka hkb hcase htw hpf hml hEn;rcases HCASE.o with ⟨rfl,rfl,hj,g1,g2,g3,g4⟩|⟨g0,rfl,rfl,hj⟩|⟨g1,g2,hj⟩
 · rw[hj];have HJ:=hy' hj;clear hj;go_enter Tryz.func81,Tryz.ntmps81;go_upto_region 1 with (fail)
   rw[HWA.o];go_wp2_with fail;refine (HKA.o wa).mono ?_;rintro e w' ⟨rfl,rfl⟩;go_wp2_with fail;refine (HKB.o wa).mono ?_;rintro e w' ⟨rfl,rfl⟩;go_wp2_with fail;go_ret;exact⟨by first|rfl|go_num|simp,HBA.o⟩
 · rw[hj];have HJ:=hy' hj;clear hj g0;go_enter Tryz.func81,Tryz.ntmps81;go_upto_region 1 with (fail)
   rw[HWA.o];go_wp2_with fail;refine (HKA.o wa).mono ?_;rintro e w' ⟨rfl,rfl⟩;go_wp2_with fail;refine (HKB.o wa).mono ?_;rintro e w' ⟨rfl,rfl⟩;go_wp2_with fail;go_ret;exact⟨by first|rfl|go_num|simp,HBA.o⟩
 rw[if_neg (by rw[hj];simp)];obtain⟨p,hp⟩:∃p:Rw.Row→Bool,(fun r=>decide (r.2.2=[a,b])&&pf r.1)=p:=⟨_,rfl⟩;have hpr:∀r,p r=(decide (r.2.2=[a,b])&&pf r.1):=fun r=>by rw[←hp]
 rw[hp];have HP:=hy' hpr;obtain⟨t1,ht1⟩:∃q,(ka == 1)=q:=⟨_,rfl⟩;obtain⟨t2,ht2⟩:∃q,(kb == 2)=q:=⟨_,rfl⟩;obtain⟨t3,ht3⟩:∃q,(ka == 4)=q:=⟨_,rfl⟩;obtain⟨t4,ht4⟩:∃q,(kb == 3)=q:=⟨_,rfl⟩
 have h12:(t1&&t2)=false:=by
  rw[←ht1,←ht2];cases h1:(ka == 1) <;> cases h2:(kb == 2) <;> simp_all
 have h34:(t3&&t4)=false:=by
  rw[←ht3,←ht4];cases h1:(ka == 4) <;> cases h2:(kb == 3) <;> simp_all
 clear hp hpr hj g1 g2;go_enter Tryz.func81,Tryz.ntmps81;go_upto_region 1 with (fail)
 rw[HWA.o];go_wp2_with fail;refine (HKA.o wa).mono ?_;rintro e w' ⟨rfl,rfl⟩;go_wp2_with fail;refine (HKB.o wa).mono ?_;rintro e w' ⟨rfl,rfl⟩;go_upto_region 3 with (fail)
 go_cut [20] (fun s wx=>s=.bool false∧wx=wa)
 case first =>
  cases t1
  · go_wp2_with fail;go_meet;exact⟨rfl,rfl⟩
  cases t2
  · go_wp2_with fail;go_meet;exact⟨rfl,rfl⟩
  cases h12
 obtain⟨rfl,hwc⟩:=hcut;replace hwc:=hwc.symm;subst hwc;go_upto_region 5 with (fail)
 go_cut [34] (fun s wx=>s=.bool false∧wx=wa)
 case first =>
  cases t3
  · go_wp2_with fail;go_meet;exact⟨rfl,rfl⟩
  cases t4
  · go_wp2_with fail;go_meet;exact⟨rfl,rfl⟩
  cases h34
 obtain⟨rfl,hwc⟩:=hcut;replace hwc:=hwc.symm;subst hwc;have hat1:=HAT.o;have z0:=hat1.cell 0 rfl;have zl:=hat1.lt;clear hat1;go_wp2_with fail;go_loopw [42] (fun i wr=>∃k:Nat,k≤n∧i=.int .i64 k∧(∀q∈T.take k,p q=false)∧Below wa.heap.size wa wr) (fun i _=>n-(intOf i).toNat)
 case atStart=>exact⟨0,Nat.zero_le _,rfl,by simp,Below.refl _ _⟩
 obtain⟨k,hk,rfl,hno,hbel⟩:=hrel;have HNO:=hy' hno;have HBEL:=hy' hbel;clear hno z0 zl
 by_cases hlt:k<n
 rotate_left
 · obtain rfl:n=k:=by omega
   have hf:T.find? p=none:=List.find?_eq_none.2 fun q hq=>by
    have:=HNO.o;rw[List.take_of_length_le (by rw[HN.o];exact Nat.le_refl _)]at this;rw[this q hq];simp
   have HF:=hy' hf;have HB9:=hy' (HBA.o.trans (HBEL.o.mono HBA.o.size));have kI:¬(n:Int)<n:=by omega
   clear hf hlt;go_wp2_with fail;go_ret;rw[HF.o];exact⟨by first|rfl|simp,HB9.o⟩
 obtain⟨r,hr⟩:∃r,T[k]?=some r:=⟨_,List.getElem?_eq_getElem (by rw[HN.o];exact hlt)⟩;obtain⟨b0,o,rn,hA1,hb,c0,c1,c2,hsl⟩:=(HSEE.o.below hbel).row hr;have hkI:(k:Int)<n:=by omega
 have hrb:=HRB.o r (List.mem_of_getElem? hr);have hpr:=HP.o r;obtain⟨rc,rk,m⟩:=r;simp only[]at hrb hpr c0 c1 c2 hsl;obtain⟨wn,hwn⟩:∃wn,wr.alloc (.cells #[.int .i64 rc,.int .i64 rk,.slice rn.1 m.length rn.2] 68)=wn:=⟨_,rfl⟩;have hbn:Below wr.heap.size wr wn:=by rw[←hwn];exact (Below.refl _ _).alloc (Nat.le_refl _) _
 have hatn:Rw.At wn wr.heap.size 68 [.int .i64 rc,.int .i64 rk,.slice rn.1 m.length rn.2]:=by rw[←hwn];exact Rw.At.new wr 68 [.int .i64 rc,.int .i64 rk,.slice rn.1 m.length rn.2]
 have HB2:=hy' (HBEL.o.trans (hbn.mono hbel.size));have HSL:=hy' (hsl.below hbn hbn.size);have HR:=hy' hr;have HATN:=hy' hatn;have HWN:=hy' hwn;have HPX:=hy' (HPR.o rc wn (HBA.o.trans (HB2.o.mono HBA.o.size)) hrb.1 hrb.2);have HPV:=hy' hpr;subst hA1;clear hr hsl hbel hbn hwn hpr hrb hatn;go_upto_region 10 with (fail)
 rw[HWN.o];have hatn:=HATN.o;have y0:=hatn.cell 0 rfl;have y2:=hatn.cell 2 rfl;have yl:=hatn.lt;have ht:=HAT.o.below HB2.o;have z0:=ht.cell 0 rfl;have z1:=ht.cell 1 rfl;have zl:=ht.lt;clear hatn ht c0 c1 c2 hb
 by_cases hm2:m.length=2
 rotate_left
 · have hpn:p (rc,rk,m)=false:=by
    rw[HPV.o,decide_eq_false (fun e=>hm2 (by rw[show m=[a,b] from e];rfl)),Bool.false_and]
   have HNX:=hy' (Nc.no_succ HR.o HNO.o hpn);have hmb:((m.length:Int) == 2)=false:=by simp;omega
   clear hpn hm2;go_wp2_with fail;exact⟨⟨k+1,by omega,by go_num,HNX.o,HB2.o⟩,by simp[intOf];omega⟩
 obtain⟨x,y,rfl⟩:∃x y,m=[x,y]:=by
  rcases m with _|⟨x,_|⟨y,_|⟨z,t⟩⟩⟩ <;> simp at hm2
  exact⟨x,y,rfl⟩
 obtain⟨ab,ao,hA,hab,hac⟩:=HSL.o (by simp);have e0:=hac 0 (by simp);have e1:=hac 1 (by simp);simp only[List.map_cons,List.map_nil,List.getElem?_cons_succ,List.getElem?_cons_zero,Nat.add_zero]at e0 e1;simp only[List.length_cons,List.length_nil]at y2;rw[hA]at y2;clear hac hm2 HSL;rcases hx:(x == a) with _|_
 · have hpn:p (rc,rk,[x,y])=false:=by
    rw[HPV.o,decide_eq_false (fun e=>by simp at e;simp[e.1]at hx),Bool.false_and]
   have HNX:=hy' (Nc.no_succ HR.o HNO.o hpn);clear hpn;go_wp2_with fail;exact⟨⟨k+1,by omega,by go_num,HNX.o,HB2.o⟩,by simp[intOf];omega⟩
 rcases hy:(y == b) with _|_
 · have hpn:p (rc,rk,[x,y])=false:=by
    rw[HPV.o,decide_eq_false (fun e=>by simp at e;simp[e.2]at hy),Bool.false_and]
   have HNX:=hy' (Nc.no_succ HR.o HNO.o hpn);clear hpn;go_wp2_with fail;exact⟨⟨k+1,by omega,by go_num,HNX.o,HB2.o⟩,by simp[intOf];omega⟩
 have hxy:([x,y]:List Int)=[a,b]:=by rw[beq_iff_eq.1 hx,beq_iff_eq.1 hy]
 obtain⟨pv,hpv⟩:∃q,pf rc=q:=⟨_,rfl⟩
 have hpp:p (rc,rk,[x,y])=pv:=by
  rw[HPV.o,decide_eq_true hxy,Bool.true_and,←hpv]
 rw[hpv]at HPX;have HPP:=hy' hpp;clear hpp hpv hxy;cases pv
 · have HNX:=hy' (Nc.no_succ HR.o HNO.o HPP.o);go_wp2_with (first|(go_at_call 113;refine HPX.o.mono ?_;rintro e w5 ⟨rfl,hb5⟩;have HB5:=hy' (HB2.o.trans (hb5.mono HB2.o.size));clear hb5)|fail);exact⟨⟨k+1,by omega,by go_num,HNX.o,HB5.o⟩,by simp[intOf];omega⟩
 have HF:=hy' (Nc.find_take HR.o HNO.o HPP.o);go_wp2_with (first|(go_at_call 113;refine HPX.o.mono ?_;rintro e w5 ⟨rfl,hb5⟩;have hat5:=HATN.o.below hb5;have v0:=hat5.cell 0 rfl;have vl:=hat5.lt;have HB5:=hy' (HBA.o.trans ((HB2.o.trans (hb5.mono HB2.o.size)).mono HBA.o.size));clear hb5 hat5)|fail);go_ret;rw[HF.o];exact⟨by first|rfl|simp,HB5.o⟩
end Go.Proofs.YtddbccflcekdpaaGreatDoor

/- The document's layer 18: characters put together, by walking its text. -/
namespace Go.Proofs.YtddbccflcekdpaaGreatDoor
open Go.RowKit
set_option linter.unusedSimpArgs false
set_option linter.unusedVariables false
def Nc.lz (f:Int→Int) (l:List Int):Nat→Int
 | 0 => -1
 | i+1=>if f (l.getD i 0)=0 then (i:Int) else Nc.lz f l i
theorem Nc.lz_skip {f:Int→Int} {l:List Int} (i:Nat):∀d:Nat,(∀t,i≤t→t<i+d→f (l.getD t 0)≠0)→Nc.lz f l (i+d)=Nc.lz f l i
 | 0,_=>rfl
 | d+1,h=>by
   show (if f (l.getD (i+d) 0)=0 then ((i+d:Nat):Int) else Nc.lz f l (i+d))=_;rw[if_neg (h (i+d) (by omega) (by omega))];exact Nc.lz_skip i d fun t h1 h2=>h t h1 (by omega)
structure Nc.Tidy (f:Int→Int) (s:Nc.St):Prop where
 mk' ::
 beh:∀x∈s.B,f x≠0
 at':∀x,s.b=some x→f x=0
 emp:s.b=none→s.pre=[]
theorem Nc.Tidy.put {f:Int→Int} {j:Int→Int→Option Int} {s:Nc.St} {c:Int} (h:Nc.Tidy f s) (hj:∀a b p,j a b=some p→f p=0):Nc.Tidy f (Nc.put f j s c):=by
 unfold Nc.put;cases hh:Nc.hit f j s c with
 | some p =>
   obtain⟨x,hx,hp,_⟩:=zBY hh;exact⟨h.beh,(fun y hy=>by cases hy;exact hj _ _ _ hp),(fun e=>by cases e)⟩
 | none =>
   simp only[];unfold Nc.app;split
   · rename_i h0;exact⟨(fun x hx=>by cases hx),(fun y hy=>by cases hy;exact h0),(fun e=>by cases e)⟩
   rename_i h0;refine⟨fun x hx=>?_,h.at',h.emp⟩;rcases List.mem_append.1 hx with g|g
   · exact h.beh x g
   rw[List.mem_singleton]at g;rw[g];exact h0
theorem Nc.Tidy.run {f:Int→Int} {j:Int→Int→Option Int} (hj:∀a b p,j a b=some p→f p=0):∀(l:List Int) (s:Nc.St),Nc.Tidy f s→Nc.Tidy f (Nc.run f j s l)
 | [],s,h=>h
 | c::l,s,h=>Nc.Tidy.run hj l _ (h.put hj)
theorem Nc.Tidy.s0 (f:Int→Int):Nc.Tidy f zCa:=⟨fun x hx=>(by cases hx),fun x hx=>(by cases hx),fun _=>rfl⟩
theorem Nc.Tidy.lz {f:Int→Int} {s:Nc.St} (h:Nc.Tidy f s):Nc.lz f s.out s.out.length=Nc.base s:=by
 have hB:∀t,s.pre.length+s.b.toList.length≤t→t<s.out.length→f (s.out.getD t 0)≠0:=fun t h1 h2=>by
  unfold Nc.St.out at h2 ⊢;rw[List.getD_eq_getElem?_getD,←List.append_assoc,List.getElem?_append_right (by rw[List.length_append];exact h1)];simp only[List.length_append]at h2 ⊢;have hlt:t-(s.pre.length+s.b.toList.length)<s.B.length:=by omega
  rw[List.getElem?_eq_getElem hlt];exact h.beh _ (List.getElem_mem hlt)
 have hl:s.out.length=(s.pre.length+s.b.toList.length)+s.B.length:=by unfold Nc.St.out;simp only[List.length_append];omega
 rw[hl,Nc.lz_skip _ _ (fun t h1 h2=>hB t h1 (by omega))];unfold Nc.base;cases hb:s.b with
 | none=>rw[h.emp hb];rfl
 | some x =>
   show (if f (s.out.getD s.pre.length 0)=0 then ((s.pre.length:Nat):Int) else _)=_;rw[List.getD_eq_getElem?_getD,zEX hb];exact if_pos (h.at' x hb)
theorem Nc.out_B {s:Nc.St} {x:Int} (h:s.b=some x):s.out.drop (s.pre.length+1)=s.B:=by
 have:s.out=(s.pre++[x])++s.B:=by unfold Nc.St.out;rw[h];simp
 rw[this,List.drop_left' (by simp)]
set_option maxRecDepth 100000 in
set_option maxHeartbeats 4000000 in
theorem Nc.rjoin_any (v:Value) (T:List Rw.Row) (E S:List Int) (A:Option Addr) (n c:Nat) (l:List Int) (w:World) (ok:Ud.Ok T S) (hmem:C.mem S=Md.xs E) (hTn:T.length≤100000) (hEn:E.length≤1000000) (hml:∀r∈T,r.2.2.length≤1000) (h:Md.Doc w v T E) (hl:l.length=n) (hn:n≤100000) (hlb:∀x∈l,C.isC x=true) (hA:Sl w w.heap.size A (l.map (Value.int .i64))) :
 Calls Tryz.prog 51 #[v,.slice A n c] w (zDV (zCf T S l) w):=by
 obtain⟨i0,hi0,iz0,iz1,iz2⟩:=info_parts zDE;have hd:=h;obtain⟨AT,cT,XA,xc,rfl,_⟩:=hd;obtain⟨tn,htn⟩:∃k,T.length=k:=⟨_,rfl⟩;obtain⟨xn,hxn⟩:∃k,E.length=k:=⟨_,rfl⟩;rw[htn,hxn]at h ⊢;have hCL:∀d W,Below w.heap.size w W→Calls Tryz.prog 43 #[zBs AT tn cT XA xn xc,.int .i64 d] W fun e w'=>e=.returned (.int .i64 (Md.cls T d))∧Below W.heap.size W w':=fun d W hW=>zFY _ T E d W (by omega) (h.below hW)
 have hTW:∀a b W,Below w.heap.size w W→C.isC a=true→C.isC b=true→Calls Tryz.prog 81 #[zBs AT tn cT XA xn xc,.int .i64 a,.int .i64 b] W fun e w'=>e=.returned (.int .i64 ((Nc.j T S a b).getD (-1)))∧Below W.heap.size W w':=fun a b W hW h1 h2=>by
  have:=Nc.rtwo_any _ T E a b W hTn hEn (h.below hW) hml (fun r hr=>(ok.bd r hr).1) (Nf.isC_i32 h1).1 (Nf.isC_i32 h1).2 (Nf.isC_i32 h2).1 (Nf.isC_i32 h2).2;rw[←hmem,Nc.two_j ok]at this;exact this
 have hjf:∀a b p,Nc.j T S a b=some p→Md.cls T p=0:=fun a b p h=>(zNI ok h).2.1
 have hj0:∀a b p,Nc.j T S a b=some p→0≤p:=fun a b p h=>(zNI ok h).2.2.1
 have HRC:=hy' (fun k=>zHc ok (l.take k) zCa (fun x hx=>by cases hx) (fun c hc=>hlb c (List.mem_of_mem_take hc)));have hfb:=fun x=>zDP ok x
 obtain⟨f,hf⟩:∃f,Md.cls T=f:=⟨_,rfl⟩;obtain⟨j,hj⟩:∃j,Nc.j T S=j:=⟨_,rfl⟩;have hjo:zCf T S l=(Nc.run f j zCa l).out:=by rw[←hf,←hj];rfl
 rw[hjo];rw[hf]at hCL hjf hfb;rw[hj]at hTW hjf hj0;rw[hf,hj]at HRC;have HTI:=hy' (fun k=>Nc.Tidy.run hjf (l.take k) zCa (Nc.Tidy.s0 f));unfold zBs at *;obtain⟨wa,hwa⟩:∃wa,(w.alloc (.cells #[.slice AT tn cT,.slice XA xn xc] 25)).alloc (.cells #[] 3)=wa:=⟨_,rfl⟩;have hba:Below w.heap.size w wa:=by rw[←hwa];exact ((Below.refl _ _).alloc (Nat.le_refl _) _).alloc (by simp) _
 have hat:Rw.At wa w.heap.size 25 [.slice AT tn cT,.slice XA xn xc]:=by
  rw[←hwa];exact (Rw.At.new w 25 [.slice AT tn cT,.slice XA xn xc]).alloc _
 have hown:wa.ownsRow (w.heap.size+1) 3 1 (.slice (some ⟨w.heap.size+1,0,none⟩) 0 0) 0 []:=by
  have:=Md.own_empty (w.alloc (.cells #[.slice AT tn cT,.slice XA xn xc] 25)) 3 (by decide);rw[World.size_alloc]at this;rw[←hwa];exact this
 have HWA:=hy' hwa;have HBA:=hy' hba;have HAT:=hy' hat;have HOWN:=hy' hown;have HL:=hy' hl;have HLB:=hy' hlb;have HA:=hy' hA;have HCL:=hy' hCL;have HTW:=hy' hTW;have HJ0:=hy' hj0;have HFB:=hy' hfb;clear hwa hba hat hown hl hlb hA hCL hTW h htn hxn hTn hml hf hj hjo hjf hj0 hfb hmem ok;go_enter Tryz.func51,Tryz.ntmps51;go_upto_region 2 with (fail)
 rw[HWA.o];go_wp2_with fail;go_loopw [5,7,8,9,10,11,13,14,18] (fun v5 _ _ _ _ _ _ _ i wr=>∃(k:Nat) (A':Option Addr) (cp m:Nat),k≤n∧i=.int .i64 k∧v5=.slice A' m cp∧m=(Nc.run f j zCa (l.take k)).out.length∧Rw.At wr w.heap.size 25 [.slice AT tn cT,.slice XA xn xc]∧wr.ownsRow (w.heap.size+1) 3 1 (.slice A' m cp) m ((Nc.run f j zCa (l.take k)).out.map (Value.int .i64))∧Below (w.heap.size+1) wa wr) (fun _ _ _ _ _ _ _ _ i _=>n-(intOf i).toNat)
 case atStart=>exact⟨0,_,_,0,Nat.zero_le _,rfl,rfl,rfl,HAT.o,HOWN.o,Below.refl _ _⟩
 obtain⟨k,A',cp,m,hk,rfl,rfl,hm,hatr,hownr,hbel⟩:=hrel;have hzr:w.heap.size+1≤wr.heap.size:=hatr.lt;have hBW:Below w.heap.size w wr:=HBA.o.trans (hbel.mono (Nat.le_succ _))
 by_cases hlt:k<n
 rotate_left
 · obtain rfl:k=n:=by omega
   rw[List.take_of_length_le (by rw[HL.o];exact Nat.le_refl _)]at hownr hm;obtain⟨s,hs⟩:∃s,Nc.run f j zCa l=s:=⟨_,rfl⟩;rw[hs]at hownr hm;have HSE:=hy' hs;subst hm;have kI:¬(k:Int)<k:=by omega
   have HO:=hy' (zAw hownr (Nat.le_succ _));have HB:=hy' hBW;clear hownr hBW hbel hs;go_wp2_with fail;go_ret;rw[HSE.o];exact⟨_,_,rfl,HO.o,HB.o⟩
 obtain⟨x,hx⟩:∃x,l[k]?=some x:=⟨_,List.getElem?_eq_getElem (by rw[HL.o];exact hlt)⟩;have hxc:=HLB.o x (List.mem_of_getElem? hx);obtain⟨ab,ao,hA2,hab,hac⟩:=HA.o.below hBW hBW.size (by rw[List.length_map,HL.o];omega);have hc:=hac k (by rw[List.length_map,HL.o];exact hlt);rw[List.getElem?_map,hx,Option.map_some]at hc;have hsn:=Nc.run_snoc (f:=f) (j:=j) hx;have hlen:=(Nc.run_len (f:=f) (j:=j) (l.take k) zCa).2.1;rw[List.length_take,HL.o,←hm]at hlen;have hz0:zCa.out.length=0:=rfl;have hti:=HTI.o k;have hsc:=HRC.o k;obtain⟨s,hs⟩:∃s,Nc.run f j zCa (l.take k)=s:=⟨_,rfl⟩;rw[hs]at hm hownr hsn hti hsc;have hm1:m≤100000:=by omega
 have kI:(k:Int)<n:=by omega
 have k0:(0:Int)≤k:=by omega
 have HSN:=hy' hsn;have HTD:=hy' hti;have HSC:=hy' hsc;have HM:=hy' hm;have HATR:=hy' hatr;have HOWNR:=hy' hownr;have HBEL:=hy' hbel;have HXC:=hy' hxc;have HBW:=hy' hBW;subst hA2;clear hx hxc hac hsn hlen hz0 hti hsc hs hm hatr hownr hbel hBW;obtain⟨wo,rfl⟩:∃wo:World,wo=wr:=⟨_,rfl⟩;have HLZ:=hy' HTD.o.lz;have hat0:=HATR.o;have zt0:=hat0.cell 0 rfl;have zt1:=hat0.cell 1 rfl;have ztl:=hat0.lt;clear hat0;go_wp2_with fail;clear hc zt0 zt1 ztl hab;go_loopw [8,9,10,24] (fun v8 _ _ i2 w2=>∃(t:Nat),t≤m∧i2=.int .i64 t∧v8=.int .i64 (Nc.lz f s.out t)∧Below wo.heap.size wo w2) (fun _ _ _ i2 _=>m-(intOf i2).toNat)
 case atStart=>exact⟨0,Nat.zero_le _,rfl,rfl,Below.refl _ _⟩
 obtain⟨t,ht,rfl,rfl,hbel2⟩:=hrel;have hat2:=HATR.o.below hbel2;have z0:=hat2.cell 0 rfl;have z1:=hat2.cell 1 rfl;have zl:=hat2.lt;have HAT2:=hy' hat2;have HB2:=hy' hbel2;clear hat2 hbel2
 by_cases htm:t<m
 · obtain⟨y,hy⟩:∃y,s.out[t]?=some y:=⟨_,List.getElem?_eq_getElem (by rw[←HM.o];exact htm)⟩;obtain⟨gb,go',hA3,hgb,hgc⟩:=(Sl.of_own HOWNR.o).below HB2.o HB2.o.size (by rw[List.length_map,←HM.o];omega);have hcy:=hgc t (by rw[List.length_map,←HM.o];exact htm);rw[List.getElem?_map,hy,Option.map_some]at hcy;have tI:(t:Int)<m:=by omega
   have t0:(0:Int)≤t:=by omega
   have hlz:Nc.lz f s.out (t+1)=if f y=0 then (t:Int) else Nc.lz f s.out t:=by
    show (if f (s.out.getD t 0)=0 then (t:Int) else Nc.lz f s.out t)=_;rw[List.getD_eq_getElem?_getD,hy];rfl
   have HCY:=hy' (HCL.o y wr (HBW.o.trans (HB2.o.mono HBW.o.size)));obtain⟨q,hq⟩:∃q,f y=q:=⟨_,rfl⟩;rw[hq]at HCY hlz;have HLZ1:=hy' hlz;subst hA3;clear hy hgc hlz hq;go_wp2_with fail;refine HCY.o.mono ?_;rintro e w5 ⟨rfl,hb5⟩;have HB5:=hy' (HB2.o.trans (hb5.mono HB2.o.size));clear hb5 z0 z1 zl hcy hgb;rcases hqz:(q == 0) with _|_
   · have hq0:¬q=0:=by simpa using hqz
     have HE:=hy' (HLZ1.o.trans (if_neg hq0));clear hq0;go_wp2_with fail;exact⟨⟨t+1,by omega,by first|rfl|go_num,by rw[HE.o],HB5.o⟩,by simp[intOf];omega⟩
   have hq0:q=0:=by simpa using hqz
   have HE:=hy' (HLZ1.o.trans (if_pos hq0));clear hq0;go_wp2_with fail;exact⟨⟨t+1,by omega,by first|rfl|go_num,by rw[HE.o],HB5.o⟩,by simp[intOf];omega⟩
 obtain rfl:t=m:=by omega
 have tI:¬(t:Int)<t:=by omega
 rw[show Nc.lz f s.out t=Nc.base s by rw[HM.o];exact HLZ.o];obtain⟨w6,rfl⟩:∃w6:World,w6=wr:=⟨_,rfl⟩;clear htm ht;cases hsb:s.b with
 | none =>
   have hba:Nc.base s = -1:=by unfold Nc.base;rw[hsb]
   have hnn:Nc.hit f j s x=none:=by unfold Nc.hit;rw[hsb];split <;> rfl
   have hhit:Nc.put f j s x=Nc.app f s x:=by unfold Nc.put;rw[hnn]
   have HPUT:=hy' hhit;rw[hba];clear hba hhit;have HB9:=HB2;clear z0 z1 zl;have HOWN9:=hy' (zA4 HOWNR.o HB9.o (Nat.le_refl _));have HAT9:=hy' (HATR.o.below HB9.o);have hz9:w.heap.size+1≤w6.heap.size:=Nat.le_trans hzr HB9.o.size;go_wp2_with (first|(at_builtin;refine zAj _ rfl _ _ _ rfl (w.heap.size+1) 3 i0 _ 8 Tryz.underlying23 hi0 iz0 iz1 iz2 rfl _ t _ rfl HOWN9.o _ rfl rfl (by simp only[maxLen];omega) (by omega) hz9 ?_;intro v9 w9 hown9 hb9;obtain⟨A9,c9,rfl⟩:=zA2 hown9)|fail);refine⟨⟨k+1,A9,c9,t+1,by omega,by first|rfl|go_num,rfl,?_,HAT9.o.below' hb9 (Nat.lt_succ_self _),?_,HBEL.o.trans ((HB9.o.mono hzr).trans hb9)⟩,by simp[intOf];omega⟩
   · rw[HSN.o,HPUT.o,zAE,List.length_append,←HM.o];rfl
   rw[HSN.o,HPUT.o,zAE,List.map_append];exact hown9
 | some x0 =>
   obtain⟨pl,hpl⟩:∃q,s.pre.length=q:=⟨_,rfl⟩;have hba:Nc.base s=(pl:Int):=by unfold Nc.base;rw[hsb];show ((s.pre.length:Nat):Int)=_;rw[hpl]
   have hdb:=Nc.out_B hsb;have hoa:=zEX hsb;rw[hpl]at hdb hoa;have hpm:pl<t:=by rw[HM.o];exact (List.getElem?_eq_some_iff.1 hoa).1
   have hBl:s.B.length=t-(pl+1):=by rw[←hdb,List.length_drop,←HM.o]
   have hf0:=HTD.o.at' x0 hsb;have hx0c:=HSC.o x0 (zRA hsb);rw[hba];obtain⟨gb,go',hA3,hgb,hgc⟩:=(Sl.of_own HOWNR.o) (by rw[List.length_map,←HM.o];omega);cases hA3
   obtain⟨rfl,hg1,hg2,hg3⟩:=zDw HOWNR.o;have hcx:=hgc pl (by rw[List.length_map,←HM.o];exact hpm);rw[List.getElem?_map,hoa,Option.map_some,Nat.zero_add]at hcx
   have hcap:t≤cp:=by
    rcases HOWNR.o.2 with ⟨hv,h0⟩|⟨g',cap',cur,hv,hg,hb,h1,h2,h3,h4⟩
    · cases hv
    cases hv;omega
   have HDB:=hy' hdb;have HBL:=hy' hBl;have HSBB:=hy' hsb;have HPL:=hy' hpl;have HX0:=hy' hx0c;have HCX:=hy' hcx;have HGB:=hy' (And.intro hgb hg1);have HSO:=hy' ((Sl.of_own HOWNR.o).below HB2.o HB2.o.size);have p0:(0:Int)≤pl:=by omega
   have p1:¬(pl:Int)<0:=by omega
   have p2:(pl:Int)+1≤t:=by omega
   have p3:(pl:Int)+1≤cp:=by omega
   clear hba hdb hoa hBl hgc hcx hsb hpl hx0c hg3 hgb;go_upto_region 14 with (fail)
   go_cut [42,43,44] (fun s42 s43 s44 wx=>(∃(Aq:Option Addr) (cq:Nat),s42=.slice Aq (t-(pl+1)) cq∧Sl w6 w6.heap.size Aq (s.B.map (Value.int .i64)))∧s43=.int .i64 ((t-(pl+1):Nat))∧s44=.int .i64 0∧wx=w6)
   case first =>
    by_cases hce:cp=pl+1
    · obtain rfl:cp=pl+1:=hce;obtain rfl:t=pl+1:=by omega
      go_wp2_with fail;go_meet;exact⟨⟨some ⟨gb,0,none⟩,0,by rw[Nat.sub_self],by rw[List.eq_nil_of_length_eq_zero (show s.B.length=0 by rw[HBL.o,Nat.sub_self])];exact Sl.nil _ _ _⟩,by first|rfl|simp,rfl,rfl⟩
    have hce':¬cp=pl+1:=hce;go_wp2_with fail;go_meet;refine⟨⟨some ⟨gb,pl+1,none⟩,cp-(pl+1),rfl,?_⟩,by first|rfl|simp,rfl,rfl⟩;have:=HSO.o.dropN (pl+1);rw[Nat.zero_add,←List.map_drop,HDB.o]at this;exact this
   obtain⟨⟨Aq,cq,rfl,hsq⟩,rfl,rfl,hwc⟩:=hcut;replace hwc:=hwc.symm;subst hwc;obtain⟨bn,hbn⟩:∃q,t-(pl+1)=q:=⟨_,rfl⟩;rw[hbn]at HBL ⊢;have HSQ:=hy' hsq;have HBN:=hy' hbn;have hbn1:bn≤100000:=by omega
   clear hsq hbn z0 z1 zl;obtain⟨q,hq⟩:∃q,f x=q:=⟨_,rfl⟩
   have HCX1:Hy (∀W,Below w6.heap.size w6 W→Calls Tryz.prog 43 #[.agg #[.slice AT tn cT,.slice XA xn xc],.int .i64 x] W fun e w'=>e=.returned (.int .i64 q)∧Below W.heap.size W w'):=hy' fun W hW=>by
    have:=HCL.o x W (HBW.o.trans ((HB2.o.trans (hW.mono HB2.o.size)).mono HBW.o.size));rw[hq]at this;exact this
   have HQE:=hy' hq;clear hq;go_wp2_with fail;go_loopw [11,13,44] (fun v11 _ i3 w3=>∃(u:Nat),u≤bn∧i3=.int .i64 u∧v11=.bool ((s.B.take u).any fun y=>decide (q≤f y))∧Below w6.heap.size w6 w3) (fun _ _ i3 _=>bn-(intOf i3).toNat)
   case atStart=>exact⟨0,Nat.zero_le _,rfl,rfl,Below.refl _ _⟩
   obtain⟨u,hu,rfl,rfl,hbel3⟩:=hrel;have HB3:=hy' hbel3;obtain⟨w7,rfl⟩:∃w7:World,w7=wr:=⟨_,rfl⟩;clear hbel3
   by_cases hub:u<bn
   · obtain⟨y,hy⟩:∃y,s.B[u]?=some y:=⟨_,List.getElem?_eq_getElem (by rw[HBL.o];exact hub)⟩;have hyn:=HTD.o.beh y (List.mem_of_getElem? hy);obtain⟨hb,ho,hA4,hhb,hhc⟩:=HSQ.o.below HB3.o HB3.o.size (by rw[List.length_map,HBL.o];omega);have hcy:=hhc u (by rw[List.length_map,HBL.o];exact hub);rw[List.getElem?_map,hy,Option.map_some]at hcy;have uI:(u:Int)<bn:=by omega
     have u0:(0:Int)≤u:=by omega
     have hst:((s.B.take (u+1)).any fun y=>decide (q≤f y))=(((s.B.take u).any fun y=>decide (q≤f y))||decide (q≤f y)):=by
      rw[List.take_add_one,hy,List.any_append];simp
     obtain⟨r,hr⟩:∃r,f y=r:=⟨_,rfl⟩;rw[hr]at hst hyn
     have HCY1:Hy (∀W,Below w7.heap.size w7 W→Calls Tryz.prog 43 #[.agg #[.slice AT tn cT,.slice XA xn xc],.int .i64 y] W fun e w'=>e=.returned (.int .i64 r)∧Below W.heap.size W w'):=hy' fun W hW=>by
      have:=HCL.o y W (HBW.o.trans ((HB2.o.trans ((HB3.o.trans (hW.mono HB3.o.size)).mono HB2.o.size)).mono HBW.o.size));rw[hr]at this;exact this
     have HCX2:Hy (∀W,Below w7.heap.size w7 W→Calls Tryz.prog 43 #[.agg #[.slice AT tn cT,.slice XA xn xc],.int .i64 x] W fun e w'=>e=.returned (.int .i64 q)∧Below W.heap.size W w'):=hy' fun W hW=>HCX1.o W (HB3.o.trans (hW.mono HB3.o.size))
     have HCF:Hy (∀W,Below w7.heap.size w7 W→(∀x:Stg.Later Stg.Ex W,x.val.cell? ⟨w.heap.size,0,none⟩=some (.slice AT tn cT))∧(∀x:Stg.Later Stg.Ex W,x.val.cell? ⟨w.heap.size,1,none⟩=some (.slice XA xn xc))):=hy' fun W hW =>
      have hT:=((HATR.o.below HB2.o).below HB3.o).below hW
      ⟨Stg.cells (hT.cell 0 rfl) hT.lt,Stg.cells (hT.cell 1 rfl) hT.lt⟩
     have hr0:(r == 0)=false:=by simpa using hyn
     have HST:=hy' hst;have HQ0:=hy' (Below.refl w7.heap.size w7).drew;obtain⟨bb,hbb⟩:∃b,((s.B.take u).any fun y=>decide (q≤f y))=b:=⟨_,rfl⟩;rw[hbb]at HST ⊢;subst hA4;clear hy hyn hhc hst hr hbb;go_upto_region 17 with (fail)
     refine Stg.wp_region (by kernel_rfl) Stg.Ex Stg.Ex.rel ?_;obtain⟨f0,f1⟩:=HCF.o w7.drew HQ0.o;refine Stg.read 0 (by kernel_rfl) w7.drew rfl ?_;intro K hK;go_big_quiet_op;go_big_quiet_on;refine Stg.readW (by kernel_rfl) ?_;intro K hK;go_big_quiet_op;go_big_quiet_on;refine Stg.call 43 _ _ rfl Tryz.func43 [.agg #[.slice AT tn cT,.slice XA xn xc],.int .i64 y] rfl w7.drew _ (HCY1.o w7.drew HQ0.o) (by kernel_rfl) rfl ?_;rintro e q1 ⟨rfl,hb⟩;refine⟨_,rfl,hb,?_⟩;have HQ1:=hy' (HQ0.o.trans (hb.mono HQ0.o.size));clear hb;intro A' hA';simp only[Act.put,List.setIfInBounds_toArray,List.set_cons_succ,List.set_cons_zero]at hA';subst hA'
     (iterate 2 (refine Stg.readW (by kernel_rfl) ?_;intro K hK;go_big_quiet_op;go_big_quiet_on))
     clear f0 f1;obtain⟨f0,f1⟩:=HCF.o q1 HQ1.o;refine Stg.read 0 (by kernel_rfl) q1 rfl ?_;intro K hK;go_big_quiet_op;go_big_quiet_on;refine Stg.readW (by kernel_rfl) ?_;intro K hK;go_big_quiet_op;go_big_quiet_on;refine Stg.call 43 _ _ rfl Tryz.func43 [.agg #[.slice AT tn cT,.slice XA xn xc],.int .i64 y] rfl q1 _ (HCY1.o q1 HQ1.o) (by kernel_rfl) rfl ?_;rintro e q2 ⟨rfl,hb⟩;refine⟨_,rfl,hb,?_⟩;have HQ2:=hy' (HQ1.o.trans (hb.mono HQ1.o.size));clear hb;intro A' hA';simp only[Act.put,List.setIfInBounds_toArray,List.set_cons_succ,List.set_cons_zero]at hA';subst hA'
     refine Stg.read 1 (by kernel_rfl) q1 rfl ?_;intro K hK;go_big_quiet_op;go_big_quiet_on;refine Stg.readW (by kernel_rfl) ?_;intro K hK;go_big_quiet_op;go_big_quiet_on;refine Stg.call 43 _ _ rfl Tryz.func43 [.agg #[.slice AT tn cT,.slice XA xn xc],.int .i64 x] rfl q2 _ (HCX2.o q2 HQ2.o) (by kernel_rfl) rfl ?_;rintro e q3 ⟨rfl,hb⟩;refine⟨_,rfl,hb,?_⟩;have HQ3:=hy' (HQ2.o.trans (hb.mono HQ2.o.size));clear hb;intro A' hA';simp only[Act.put,List.setIfInBounds_toArray,List.set_cons_succ,List.set_cons_zero]at hA';subst hA'
     (iterate 2 (refine Stg.readW (by kernel_rfl) ?_;intro K hK;go_big_quiet_op;go_big_quiet_on))
     clear f0 f1;refine Stg.nil q3 rfl ?_;have HBZ:=hy' (HB3.o.trans (HQ3.o.mono HB3.o.size));obtain⟨d,hd⟩:∃d,decide (q≤r)=d:=⟨_,rfl⟩;rw[hd]at HST
     by_cases hqr:q≤r
     · have hdt:d=true:=by rw[←hd];exact decide_eq_true hqr
       subst hdt;have hge:r≥q:=hqr;clear hd;go_wp2_with fail;exact⟨⟨u+1,by omega,by first|rfl|go_num,by rw[HST.o];simp,HBZ.o⟩,by simp[intOf];omega⟩
     have hdt:d=false:=by rw[←hd];exact decide_eq_false hqr
     subst hdt;have hge:¬r≥q:=hqr;clear hd;go_wp2_with fail;exact⟨⟨u+1,by omega,by first|rfl|go_num,by rw[HST.o];simp,HBZ.o⟩,by simp[intOf];omega⟩
   obtain rfl:u=bn:=by omega
   rw[List.take_of_length_le (by rw[HBL.o];exact Nat.le_refl _)];have uI:¬(u:Int)<u:=by omega
   have HB9:=hy' (HB2.o.trans (HB3.o.mono HB2.o.size))
   have hlst:zCb f s.B<q↔(s.B.any fun y=>decide (q≤f y))=false:=by
    rw[zLJ,List.any_eq_false];have hq0:=(HFB.o x).1;rw[HQE.o]at hq0;constructor
    · rintro⟨_,h⟩ y hy;have:=h y hy;simp;omega
    intro h;refine⟨by omega,fun y hy=>?_⟩;have:=h y hy;simp at this;omega
   obtain⟨bb,hbb⟩:∃b,(s.B.any fun y=>decide (q≤f y))=b:=⟨_,rfl⟩;rw[hbb]at hlst ⊢;clear hbb hub hu;cases bb
   rotate_left
   · have hnn:Nc.hit f j s x=none:=by unfold Nc.hit;rw[HQE.o,if_neg (fun h=>by have:=hlst.1 h;cases this)]
     have hhit:Nc.put f j s x=Nc.app f s x:=by unfold Nc.put;rw[hnn]
     have HPUT:=hy' hhit;clear hnn hhit hlst;have HOWN9:=hy' (zA4 HOWNR.o HB9.o (Nat.le_refl _));have HAT9:=hy' (HATR.o.below HB9.o);have hz9:w.heap.size+1≤w7.heap.size:=Nat.le_trans hzr HB9.o.size;go_wp2_with (first|(at_builtin;refine zAj _ rfl _ _ _ rfl (w.heap.size+1) 3 i0 _ 8 Tryz.underlying23 hi0 iz0 iz1 iz2 rfl _ t _ rfl HOWN9.o _ rfl rfl (by simp only[maxLen];omega) (by omega) hz9 ?_;intro v9 w9 hown9 hb9;obtain⟨A9,c9,rfl⟩:=zA2 hown9)|fail);refine⟨⟨k+1,A9,c9,t+1,by omega,by first|rfl|go_num,rfl,?_,HAT9.o.below' hb9 (Nat.lt_succ_self _),?_,HBEL.o.trans ((HB9.o.mono hzr).trans hb9)⟩,by simp[intOf];omega⟩
     · rw[HSN.o,HPUT.o,zAE,List.length_append,←HM.o];rfl
     rw[HSN.o,HPUT.o,zAE,List.map_append];exact hown9
   have hlt':=hlst.2 rfl;clear hlst
   have HCF2:Hy (∀W,Below w7.heap.size w7 W→(∀x:Stg.Later Stg.Ex W,x.val.cell? ⟨w.heap.size,0,none⟩=some (.slice AT tn cT))∧(∀x:Stg.Later Stg.Ex W,x.val.cell? ⟨w.heap.size,1,none⟩=some (.slice XA xn xc))∧(∀u:Stg.Later Stg.Ex W,u.val.cell? ⟨gb,pl,none⟩=some (.int .i64 x0))):=hy' fun W hW =>
    have hW':=HB9.o.trans (hW.mono HB9.o.size);have hT:=HATR.o.below hW'
    ⟨Stg.cells (hT.cell 0 rfl) hT.lt,Stg.cells (hT.cell 1 rfl) hT.lt,Stg.cells (((zAI hW').1 _ _ HGB.o.1).trans HCX.o) (Nat.lt_of_lt_of_le HGB.o.1 hW'.size)⟩
   have HQ0:=hy' (Below.refl w7.heap.size w7).drew;have pI:(pl:Int)<t:=by omega
   cases hj0:j x0 x with
   | none =>
     have HTX:Hy (∀W,Below w7.heap.size w7 W→Calls Tryz.prog 81 #[.agg #[.slice AT tn cT,.slice XA xn xc],.int .i64 x0,.int .i64 x] W fun e w'=>e=.returned (.int .i64 (-1))∧Below W.heap.size W w'):=hy' fun W hW=>by
      have:=HTW.o x0 x W (HBW.o.trans ((HB9.o.trans (hW.mono HB9.o.size)).mono HBW.o.size)) HX0.o HXC.o;rw[hj0]at this;exact this
     have hnn:Nc.hit f j s x=none:=by unfold Nc.hit;rw[HQE.o,if_pos hlt',HSBB.o];exact hj0
     have hhit:Nc.put f j s x=Nc.app f s x:=by unfold Nc.put;rw[hnn]
     have HPUT:=hy' hhit;clear hnn hhit hlt' hj0;go_upto_region 21 with (fail)
     refine Stg.wp_region (by kernel_rfl) Stg.Ex Stg.Ex.rel ?_;obtain⟨f0,f1,e0⟩:=HCF2.o w7.drew HQ0.o;refine Stg.read 0 (by kernel_rfl) w7.drew rfl ?_;intro K hK;go_big_quiet_op;go_big_quiet_on
     (iterate 3 (refine Stg.readW (by kernel_rfl) ?_;intro K hK;go_big_quiet_op;go_big_quiet_on))
     refine Stg.read 0 (by kernel_rfl) w7.drew rfl ?_;intro K hK;go_big_quiet_op;go_big_quiet_on;refine Stg.readW (by kernel_rfl) ?_;intro K hK;go_big_quiet_op;go_big_quiet_on;refine Stg.call 81 _ _ rfl Tryz.func81 [.agg #[.slice AT tn cT,.slice XA xn xc],.int .i64 x0,.int .i64 x] rfl w7.drew _ (HTX.o w7.drew HQ0.o) (by kernel_rfl) rfl ?_;rintro e q1 ⟨rfl,hb⟩;refine⟨_,rfl,hb,?_⟩;have HQ1:=hy' (HQ0.o.trans (hb.mono HQ0.o.size));clear hb;intro A' hA';simp only[Act.put,List.setIfInBounds_toArray,List.set_cons_succ,List.set_cons_zero]at hA';subst hA'
     refine Stg.readW (by kernel_rfl) ?_;intro K hK;go_big_quiet_op;go_big_quiet_on;clear f0 f1 e0;refine Stg.nil q1 rfl ?_;have HB8:=hy' (HB9.o.trans (HQ1.o.mono HB9.o.size));clear HB9;have HB9:=HB8;have HOWN9:=hy' (zA4 HOWNR.o HB9.o (Nat.le_refl _));have HAT9:=hy' (HATR.o.below HB9.o);have hz9:w.heap.size+1≤q1.heap.size:=Nat.le_trans hzr HB9.o.size;go_wp2_with (first|(at_builtin;refine zAj _ rfl _ _ _ rfl (w.heap.size+1) 3 i0 _ 8 Tryz.underlying23 hi0 iz0 iz1 iz2 rfl _ t _ rfl HOWN9.o _ rfl rfl (by simp only[maxLen];omega) (by omega) hz9 ?_;intro v9 w9 hown9 hb9;obtain⟨A9,c9,rfl⟩:=zA2 hown9)|fail);refine⟨⟨k+1,A9,c9,t+1,by omega,by first|rfl|go_num,rfl,?_,HAT9.o.below' hb9 (Nat.lt_succ_self _),?_,HBEL.o.trans ((HB9.o.mono hzr).trans hb9)⟩,by simp[intOf];omega⟩
     · rw[HSN.o,HPUT.o,zAE,List.length_append,←HM.o];rfl
     rw[HSN.o,HPUT.o,zAE,List.map_append];exact hown9
   | some p =>
     have HTX:Hy (∀W,Below w7.heap.size w7 W→Calls Tryz.prog 81 #[.agg #[.slice AT tn cT,.slice XA xn xc],.int .i64 x0,.int .i64 x] W fun e w'=>e=.returned (.int .i64 p)∧Below W.heap.size W w'):=hy' fun W hW=>by
      have:=HTW.o x0 x W (HBW.o.trans ((HB9.o.trans (hW.mono HB9.o.size)).mono HBW.o.size)) HX0.o HXC.o;rw[hj0]at this;exact this
     have hp0:=HJ0.o _ _ _ hj0;have hnn:Nc.hit f j s x=some p:=by unfold Nc.hit;rw[HQE.o,if_pos hlt',HSBB.o];exact hj0
     have hhit:Nc.put f j s x=⟨s.pre,some p,s.B⟩:=by unfold Nc.put;rw[hnn]
     have HPUT:=hy' hhit;have hpg:p≥0:=hp0;clear hnn hhit hlt' hj0;go_upto_region 21 with (fail)
     refine Stg.wp_region (by kernel_rfl) Stg.Ex Stg.Ex.rel ?_;obtain⟨f0,f1,e0⟩:=HCF2.o w7.drew HQ0.o;refine Stg.read 0 (by kernel_rfl) w7.drew rfl ?_;intro K hK;go_big_quiet_op;go_big_quiet_on
     (iterate 3 (refine Stg.readW (by kernel_rfl) ?_;intro K hK;go_big_quiet_op;go_big_quiet_on))
     refine Stg.read 0 (by kernel_rfl) w7.drew rfl ?_;intro K hK;go_big_quiet_op;go_big_quiet_on;refine Stg.readW (by kernel_rfl) ?_;intro K hK;go_big_quiet_op;go_big_quiet_on;refine Stg.call 81 _ _ rfl Tryz.func81 [.agg #[.slice AT tn cT,.slice XA xn xc],.int .i64 x0,.int .i64 x] rfl w7.drew _ (HTX.o w7.drew HQ0.o) (by kernel_rfl) rfl ?_;rintro e q1 ⟨rfl,hb⟩;refine⟨_,rfl,hb,?_⟩;have HQ1:=hy' (HQ0.o.trans (hb.mono HQ0.o.size));clear hb;intro A' hA';simp only[Act.put,List.setIfInBounds_toArray,List.set_cons_succ,List.set_cons_zero]at hA';subst hA'
     refine Stg.readW (by kernel_rfl) ?_;intro K hK;go_big_quiet_op;go_big_quiet_on;clear f0 f1 e0;refine Stg.nil q1 rfl ?_;have HB8:=hy' (HB9.o.trans (HQ1.o.mono HB9.o.size));have HO8:=hy' (zA4 HOWNR.o HB8.o (Nat.le_refl _));have yc:=((zAI HB8.o).1 _ pl HGB.o.1).trans HCX.o;have yl:=Nat.lt_of_lt_of_le HGB.o.1 HB8.o.size;have yf:=(zDw HO8.o).2.2.2 pl;go_wp2_with fail;refine⟨⟨k+1,some ⟨gb,0,none⟩,cp,t,by omega,by first|rfl|go_num,rfl,?_,(HATR.o.below HB8.o).other (by have:=HGB.o.2;omega) _,?_,(HBEL.o.trans (HB8.o.mono hzr)).setCell (p:=⟨gb,pl,none⟩) HGB.o.2 _⟩,by simp[intOf];omega⟩
     · rw[HSN.o,HPUT.o,zFq HSBB.o,List.length_set,←HM.o]
     rw[HSN.o,HPUT.o,zFq HSBB.o,List.map_set,HPL.o];exact zQs HO8.o (by rw[List.length_map,←HM.o];exact hpm) _
end Go.Proofs.YtddbccflcekdpaaGreatDoor

/- The document's layer 18: any characters put together, by walking its text. -/
namespace Go.Proofs.YtddbccflcekdpaaGreatDoor
open Go.RowKit
set_option linter.unusedSimpArgs false
set_option linter.unusedVariables false
set_option maxRecDepth 100000 in
set_option maxHeartbeats 4000000 in
theorem Nc.rchars_any (v:Value) (T:List Rw.Row) (E S:List Int) (A:Option Addr) (n c:Nat) (l:List Int) (w:World) (ok:Ud.Ok T S) (hmem:C.mem S=Md.xs E) (hTn:T.length≤100000) (hEn:E.length≤1000000) (hml:∀r∈T,r.2.2.length≤1000) (h:Md.Doc w v T E) (hl:l.length=n) (hn:n≤3000) (hlb:∀x∈l,C.isC x=true) (hA:Sl w w.heap.size A (l.map (Value.int .i64))) :
 Calls Tryz.prog 24 #[v,.slice A n c] w (zDV (Nc.chars T S l) w):=by
 have hlen:=Nf.chars_le ok l;have hd:=h;obtain⟨AT,cT,XA,xc,rfl,_⟩:=hd;obtain⟨tn,htn⟩:∃k,T.length=k:=⟨_,rfl⟩;obtain⟨xn,hxn⟩:∃k,E.length=k:=⟨_,rfl⟩;rw[htn,hxn]at h ⊢;obtain⟨Z,hZ⟩:∃Z,Nf.chars T l=Z:=⟨_,rfl⟩;obtain⟨zn,hzn⟩:∃q,Z.length=q:=⟨_,rfl⟩;have hzc:∀c∈Z,C.isC c=true:=by rw[←hZ];exact Nf.chars_isC ok hlb
 rw[hZ,hzn]at hlen
 have hCC:∀W,Below w.heap.size w W→Calls Tryz.prog 12 #[zBs AT tn cT XA xn xc,.slice A n c] W fun e w'=>∃A' c',e=.returned (.slice A' zn c')∧Sl w' w'.heap.size A' (Z.map (Value.int .i64))∧Below W.heap.size W w':=fun W hW=>by
  refine (zEl _ T E A n c l W hTn ok.bd hml (fun c=>zB5 ok c) (h.below hW) hl hn (fun x hx=>Nf.isC_i32 (hlb x hx)) (hA.below hW hW.size)).mono ?_;rintro e w' ⟨A',c',rfl,ho,hb⟩;rw[hZ,hzn]at ho ⊢;exact⟨A',c',rfl,Sl.of_own ho,hb⟩
 obtain⟨R,hR⟩:∃R,Nc.chars T S l=R:=⟨_,rfl⟩;obtain⟨rn,hrn⟩:∃q,R.length=q:=⟨_,rfl⟩
 have hJJ:∀A' c' W,Below w.heap.size w W→Sl W W.heap.size A' (Z.map (Value.int .i64))→Calls Tryz.prog 51 #[zBs AT tn cT XA xn xc,.slice A' zn c'] W fun e w'=>∃A' c',e=.returned (.slice A' rn c')∧w'.ownsRow W.heap.size 3 1 (.slice A' rn c') rn (R.map (Value.int .i64))∧Below W.heap.size W w':=fun A' c' W hW hs=>by
  have:=Nc.rjoin_any _ T E S A' zn c' Z W ok hmem hTn hEn hml (h.below hW) hzn (by omega) hzc hs;rw[←hZ]at this;unfold zDV at this;rw[show zCf T S (Nf.chars T l)=R from hR,hrn]at this;exact this
 unfold zDV;rw[hR,hrn];unfold zBs at *;obtain⟨wa,hwa⟩:∃wa,w.alloc (.cells #[.slice AT tn cT,.slice XA xn xc] 25)=wa:=⟨_,rfl⟩;have hba:Below w.heap.size w wa:=by rw[←hwa];exact (Below.refl _ _).alloc (Nat.le_refl _) _
 have hat:Rw.At wa w.heap.size 25 [.slice AT tn cT,.slice XA xn xc]:=by rw[←hwa];exact Rw.At.new w 25 [.slice AT tn cT,.slice XA xn xc]
 have HWA:=hy' hwa;have HBA:=hy' hba;have HCC:Hy (∀W,Below wa.heap.size wa W→Calls Tryz.prog 12 #[.agg #[.slice AT tn cT,.slice XA xn xc],.slice A n c] W fun e w'=>∃A' c',e=.returned (.slice A' zn c')∧Sl w' w'.heap.size A' (Z.map (Value.int .i64))∧Below W.heap.size W w'):=hy' fun W hW=>hCC W (hba.trans (hW.mono hba.size))
 have HJJ:Hy (∀A' c' W,Below wa.heap.size wa W→Sl W W.heap.size A' (Z.map (Value.int .i64))→Calls Tryz.prog 51 #[.agg #[.slice AT tn cT,.slice XA xn xc],.slice A' zn c'] W fun e w'=>∃A' c',e=.returned (.slice A' rn c')∧w'.ownsRow W.heap.size 3 1 (.slice A' rn c') rn (R.map (Value.int .i64))∧Below W.heap.size W w'):=hy' fun A' c' W hW hs=>hJJ A' c' W (hba.trans (hW.mono hba.size)) hs
 have HCF:Hy (∀W,Below wa.heap.size wa W→(∀x:Stg.Later Stg.Ex W,x.val.cell? ⟨w.heap.size,0,none⟩=some (.slice AT tn cT))∧(∀x:Stg.Later Stg.Ex W,x.val.cell? ⟨w.heap.size,1,none⟩=some (.slice XA xn xc))):=hy' fun W hW =>
  have hT:=hat.below hW
  ⟨Stg.cells (hT.cell 0 rfl) hT.lt,Stg.cells (hT.cell 1 rfl) hT.lt⟩
 have HQ0:=hy' (Below.refl wa.heap.size wa).drew;clear hwa hba hat hCC hJJ hlen hZ hzn hzc hR hrn h htn hxn hTn hEn hml hmem ok hl hlb hA;go_enter Tryz.func24,Tryz.ntmps24;go_upto_region 1 with (fail)
 rw[HWA.o];refine Stg.wp_region (by kernel_rfl) Stg.Ex Stg.Ex.rel ?_;obtain⟨f0,f1⟩:=HCF.o wa.drew HQ0.o
 (iterate 2 (refine Stg.read 0 (by kernel_rfl) wa.drew rfl ?_;intro K hK;go_big_quiet_op;go_big_quiet_on))
 refine Stg.readW (by kernel_rfl) ?_;intro K hK;go_big_quiet_op;go_big_quiet_on;refine Stg.call 12 _ _ rfl Tryz.func12 [.agg #[.slice AT tn cT,.slice XA xn xc],.slice A n c] rfl wa.drew _ (HCC.o wa.drew HQ0.o) (by kernel_rfl) rfl ?_;rintro e q1 ⟨A1,c1,rfl,hs1,hb⟩;refine⟨_,rfl,hb,?_⟩;have HQ1:=hy' (HQ0.o.trans (hb.mono HQ0.o.size));have HS1:=hy' hs1;clear hs1;clear hb;intro A' hA';simp only[Act.put,List.setIfInBounds_toArray,List.set_cons_succ,List.set_cons_zero]at hA';subst hA'
 refine Stg.call 51 _ _ rfl Tryz.func51 [.agg #[.slice AT tn cT,.slice XA xn xc],.slice A1 zn c1] rfl q1 _ (HJJ.o A1 c1 q1 HQ1.o HS1.o) (by kernel_rfl) rfl ?_;rintro e q2 ⟨A2,c2,rfl,ho2,hb⟩;refine⟨_,rfl,hb,?_⟩;have HQ2:=hy' (HQ1.o.trans (hb.mono HQ1.o.size));have HO2:=hy' (zAw ho2 HQ1.o.size);clear ho2;clear hb;intro A' hA';simp only[Act.put,List.setIfInBounds_toArray,List.set_cons_succ,List.set_cons_zero]at hA';subst hA'
 refine Stg.readW (by kernel_rfl) ?_;intro K hK;go_big_quiet_op;go_big_quiet_on;clear f0 f1;refine Stg.nil q2 rfl ?_;have HOF:=hy' (zAw HO2.o HBA.o.size);have HBF:=hy' (HBA.o.trans (HQ2.o.mono HBA.o.size));go_wp2_with fail;go_ret;exact⟨_,_,rfl,HOF.o,HBF.o⟩
end Go.Proofs.YtddbccflcekdpaaGreatDoor
