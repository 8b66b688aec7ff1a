/- split.Units, by walking its text. -/
import Derived.Test.YtjakbblocbicjaaGreatDoorSpSafe
import Derived.Test.YtjakbblocbicjaaGreatDoorSpUa
import Derived.Deep.DeepCutAuto
namespace Go.Proofs.YtjakbblocbicjaaGreatDoor
open Go.RowKit
set_option linter.unusedSimpArgs false
set_option linter.unusedVariables false
set_option maxRecDepth 100000 in
set_option maxHeartbeats 4000000 in
theorem Sp.units_any (v:Value) (T:List Rw.Row) (S:List Int) (A:Option Addr) (n c:Nat) (l:List Int) (w:World) (ok:Ud.Ok T S) (h:Ud.Is w v T S) (hl:l.length=n) (hn:n≤100000) (hA:Sl w w.heap.size A (l.map (Value.int .i32))) :
 Calls Tryz.prog 17 #[v,.slice A n c] w (Sp.RetUnits (Sp.cut (Sp.apart T) l) w):=by
 obtain⟨i0,hi0,hz0,hz1,hz2⟩:=info_parts infoRunes;obtain⟨j0,hj0,hy0,hy1,hy2⟩:=info_parts zBL;obtain⟨p,hp⟩:∃p,Sp.apart T=p:=⟨_,rfl⟩;have HAP:=hy' (fun (c:Int) W (hW:Below w.heap.size w W)=>Sp.apart_any v T S c W ok (h.below hW));rw[hp]at HAP;rw[hp];obtain⟨pb,rfl,hpb⟩:=h.form;have HN:=hy' hl;have HA:=hy' hA;clear hl hA ok h hp;go_enter Tryz.func17,Tryz.ntmps17;go_wp2_with fail;go_loopw [5,11] (fun vo vi wr=>∃k:Nat,k≤n∧vi=.int .i64 k∧Sp.FU w.heap.size wr vo (Sp.cut p (l.take k))∧Below w.heap.size w wr) (fun _ vi _=>n-(intOf vi).toNat)
 case atStart=>exact⟨0,Nat.zero_le _,rfl,Sp.FU.nil _ _,Below.refl _ _⟩
 obtain⟨k,hk,rfl,hfu,hbr⟩:=hrel;obtain⟨w2,rfl⟩:∃w2:World,w2=wr:=⟨_,rfl⟩
 have hLk:(Sp.cut p (l.take k)).length≤k:=by
  have:=Sp.cut_le p (l.take k);rw[List.length_take]at this;omega
 by_cases hlt:k<n
 rotate_left
 · obtain rfl:k=n:=by omega
   have htn:l.take k=l:=List.take_of_length_le (by rw[HN.o];exact Nat.le_refl _);rw[htn]at hfu hLk;obtain⟨L,hL⟩:∃L,Sp.cut p l=L:=⟨_,rfl⟩;rw[hL]at hfu ⊢;have hw:=hfu;obtain⟨f,vals,hF,hv,h0,hj⟩:=hw;have o0:=hF.own 0 _ h0;dsimp only at o0;obtain⟨A0,c0,rfl⟩:=zA3 o0;have HFU:=hy' hfu;have HLE:=hy' hL;have HB:=hy' hbr;have kI:¬(k:Int)<k:=by omega
   clear o0 hfu hF hv h0 hj hbr htn hL hLk;go_wp2_with fail;go_ret;rw[HLE.o];exact⟨A0,c0,rfl,HFU.o,HB.o⟩
 obtain⟨x,hx⟩:∃x,l[k]?=some x:=⟨_,List.getElem?_eq_getElem (by rw[HN.o];exact hlt)⟩;obtain⟨ab,ao,rfl,hab,hac⟩:=HA.o (by rw[List.length_map,HN.o];omega);have hc:=hac k (by rw[List.length_map,HN.o];exact hlt);rw[List.getElem?_map,hx,Option.map_some,←(zAQ hbr).1 _ _ hab]at hc;have htk:l.take (k+1)=l.take k++[x]:=by rw[List.take_add_one,hx];rfl
 have hnil:l.take k=[]↔k=0:=by
  rw[←List.length_eq_zero_iff,List.length_take,HN.o];omega
 have hab2:=Nat.lt_of_lt_of_le hab hbr.size;obtain⟨L,hL⟩:∃L,Sp.cut p (l.take k)=L:=⟨_,rfl⟩
 have hstep:∃L' u,(if k=0∨p x=true then L++[[]] else L)=L'++[u]∧Sp.cut p (l.take (k+1))=L'++[u++[x]]:=by
  rw[htk]
  by_cases hkp:k=0∨p x=true
  · refine⟨L,[],by rw[if_pos hkp],?_⟩;rw[Sp.cut_new (by rcases hkp with h|h;exact .inl (hnil.2 h);exact .inr h),hL];rfl
  rw[if_neg hkp]
  obtain⟨L',u,h1,h2⟩:=Sp.cut_old (p:=p) (a:=l.take k) (c:=x) (fun e=>hkp (.inl (hnil.1 e))) (by
   cases hpx:p x with
   | false=>rfl
   | true=>exact absurd (.inr hpx) hkp)
  rw[hL]at h1;exact⟨L',u,h1,h2⟩
 obtain⟨L',u,hs1,hs2⟩:=hstep
 have hLl:L'.length≤k∧u.length≤k:=by
  have h1:=Sp.cut_le p (l.take (k+1));have h2:=congrArg List.length (Sp.cut_flat p (l.take (k+1)));rw[hs2,List.length_append,List.length_singleton]at h1;rw[hs2,List.flatten_append,List.length_append]at h2;simp only[List.flatten_cons,List.flatten_nil,List.append_nil,List.length_append,List.length_singleton]at h2;rw[List.length_take]at h1 h2;omega
 rw[hL]at hfu hLk;have HS2:=hy' hs2;have HS1:=hy' hs1;have HFU:=hy' hfu;have HBR:=hy' hbr;have kI:(k:Int)<n:=by omega
 have k0:(0:Int)≤k:=by omega
 clear hx hac htk hnil hL hs1 hs2 hfu;go_upto_region 5 with (fail)
 go_cut [22] (fun s wx=>s=.bool (decide (k=0)||p x)∧Below w2.heap.size w2 wx)
 case first =>
  clear hc;rcases Nat.eq_zero_or_pos k with hk0|hk0
  · subst hk0;go_wp2_with fail;go_meet;exact⟨rfl,Below.refl _ _⟩
  have kz:((k:Int) == 0)=false:=by simp;omega
  have kn:decide (k=0)=false:=by simp;omega
  have HKN:=hy' kn;clear kn;go_wp2_with fail;refine (HAP.o _ w2 HBR.o).mono ?_;rintro e w3 ⟨rfl,hb3⟩;have HB3:=hy' hb3;clear hb3;go_wp2_with fail;go_meet;exact⟨by rw[HKN.o,Bool.false_or],HB3.o⟩
 case rest =>
 obtain⟨rfl,hb3⟩:=hcut;obtain⟨w3,rfl⟩:∃w5:World,w5=wc:=⟨_,rfl⟩;obtain⟨bb,hbb⟩:∃bb,(decide (k=0)||p x)=bb:=⟨_,rfl⟩;rw[hbb]
 have hs3:(if bb=true then L++[[]] else L)=L'++[u]:=by
  rw[←HS1.o,←hbb];simp only[Bool.or_eq_true,decide_eq_true_eq]
 have HFU3:=hy' (HFU.o.below hb3);have HBR3:=hy' (HBR.o.trans (hb3.mono HBR.o.size));have HS3:=hy' hs3;clear hs3 hb3 hbb HS1 hc HFU;go_upto_if 22 with (fail)
 go_cut [5] (fun s wx=>(∃A' c',s=.slice A' (L'.length+1) c'∧Sp.FU w.heap.size wx (.slice A' (L'.length+1) c') (L'++[u]))∧Below w.heap.size w wx)
 case first =>
  obtain⟨f,vals,hF,hv,h0,hj⟩:=HFU3.o;have o0:=hF.own 0 _ h0;dsimp only at o0;obtain⟨A0,c0,rfl⟩:=zA3 o0;have hzb:=HBR3.o.size;obtain⟨m,hm⟩:∃m,L.length=m:=⟨_,rfl⟩;have HJ:=hy' hj;have HV:=hy' hv;have HF:=hy' hF;rw[hm]at h0 hLk ⊢;have H0:=hy' h0;have HM:=hy' hm;clear hF hv hj h0 hm o0;rcases bb with _|_
  · go_wp2_with fail;go_meet;have:=HS3.o;rw[if_neg (by simp)]at this;have h5:=congrArg List.length this;rw[List.length_append,HM.o,List.length_singleton]at h5;refine⟨⟨A0,c0,by rw[h5],?_⟩,HBR3.o⟩;have h2:=HFU3.o;rw[HM.o,h5,this]at h2;exact h2
  go_wp2_with (first|(at_builtin;refine Fam.wpList_push1 _ rfl _ _ _ rfl HF.o 0 35 _ m vals H0.o i0 _ 24 Tryz.underlying33 hi0 hz0 hz1 hz2 rfl rfl _ rfl rfl (by simp only[maxLen];omega) (by omega) hzb ?_;intro v4 w4 hF4 hb4;have HF4:=hy' hF4;have HB4:=hy' hb4;have o4:=hF4.own 0 _ (zA5 _ _ _);dsimp only at o4;obtain⟨A4,c4,rfl⟩:=zA3 o4;clear hF4 hb4 o4)|fail);go_meet;have:=HS3.o;rw[if_pos trivial]at this;have h5:=congrArg List.length this;rw[List.length_append,List.length_append,HM.o]at h5;obtain rfl:m=L'.length:=by simpa using h5
  have h4:=HF4.o;refine⟨⟨A4,c4,rfl,?_⟩,HBR3.o.trans HB4.o⟩;rw[←HM.o]at h4 ⊢;rw[←this];exact Sp.FU.open h4 HV.o HJ.o
 obtain⟨⟨A5,c5,rfl,hfc⟩,hbc⟩:=hcut;obtain⟨w5,rfl⟩:∃w5:World,w5=wc:=⟨_,rfl⟩;obtain⟨f,vals,hF,hv,h0,hj⟩:=hfc;obtain⟨m,hm⟩:∃m,L'.length=m:=⟨_,rfl⟩;obtain⟨un,hun⟩:∃m,u.length=m:=⟨_,rfl⟩;have hlen:(L'++[u]).length=m+1:=by rw[List.length_append,hm];rfl
 rw[hlen]at hv h0;rw[hm]at h0 ⊢
 have hg:∃g,A5=some ⟨g,0,none⟩∧w.heap.size≤g:=by
  rcases (hF.own 0 _ h0).2 with ⟨h1,_⟩|⟨g,cap,cur,h1,h2,_⟩
  · simp at h1
  simp only[Value.slice.injEq]at h1;exact⟨g,h1.1,h2⟩
 obtain⟨g,rfl,hgb⟩:=hg;obtain⟨Au,cu,hvu,hfu⟩:=hj m u (by rw[←hm,List.getElem?_append_right (Nat.le_refl _),Nat.sub_self];rfl);rw[hun]at hvu hfu;have o5:=hF.own 0 _ h0;dsimp only at o5;have y5:=zBa o5 hvu;have l5:=(zB6 o5 (g:=g) rfl).2;have hzb:=hbc.size;have H0:=hy' h0;have HF:=hy' hF;have HV:=hy' hv;have HJ:=hy' hj;have HVU:=hy' hvu;have HFX:=hy' hfu;have HM:=hy' hm;have HUN:=hy' hun;have HB5:=hy' hbc;have hul:un≤n∧m≤n:=by omega
 clear h0 hF hv hj hvu hfu hm hun hbc o5 hlen HFU3 HBR HBR3;go_wp2_with (first|(at_builtin;refine Fam.wpList_push1 _ rfl _ _ _ rfl HF.o (m+1) 21 _ un (Ud.ints u) HFX.o j0 _ 4 Tryz.underlying35 hj0 hy0 hy1 hy2 rfl rfl _ rfl rfl (by simp only[maxLen];omega) (by omega) hzb ?_;intro v6 w6 hF6 hb6;obtain⟨A6,c6,rfl,y6,f6,l6⟩:=Sp.FU.after hF6 H0.o HVU.o;have HF6:=hy' hF6;have HB6:=hy' hb6;clear hF6 hb6)|fail);go_roundw
 case measure=>simp[intOf];omega
 refine⟨k+1,by omega,by first|rfl|go_num,?_,?_⟩
 · rw[HS2.o,←HM.o];have h6:=HF6.o;rw[←HM.o,←HUN.o]at h6;have h0':=H0.o;have hv':=HV.o;rw[←HM.o]at h0' hv';rw[←HUN.o];exact Sp.FU.store rfl h6 h0' hv' HJ.o
 exact (HB5.o.trans HB6.o).setCell (p:=⟨g,m,none⟩) hgb _
end Go.Proofs.YtjakbblocbicjaaGreatDoor
