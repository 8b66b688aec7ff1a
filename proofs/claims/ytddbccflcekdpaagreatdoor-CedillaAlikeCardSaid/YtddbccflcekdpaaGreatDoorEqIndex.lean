/- equal.Index, by walking its text. -/
import Derived.Test.YtddbccflcekdpaaGreatDoorEqIdxP
import Derived.Test.YtddbccflcekdpaaGreatDoorEqWhole
import Derived.Test.YtddbccflcekdpaaGreatDoorSpParts
import Derived.Test.YtddbccflcekdpaaGreatDoorJoin
import Derived.Test.YtddbccflcekdpaaGreatDoorUtfE
import Derived.Test.YtddbccflcekdpaaGreatDoorShelf
import Derived.Test.YtddbccflcekdpaaGreatDoorMdTable
import Derived.Lib.Strings
import Derived.BigQuiet
import Derived.Deep.DeepCutAuto
import Derived.Deep.CutBlock
namespace Go.Proofs.YtddbccflcekdpaaGreatDoor
open Go.RowKit
set_option linter.unusedSimpArgs false
set_option linter.unusedVariables false
set_option maxHeartbeats 1000000 in
theorem Eq.prefix_any (s p:ByteArray) (w:World) :
 Calls Tryz.prog 65 #[.string s,.string p] w fun e w'=>e=.returned (.bool (Lib.hasPrefix s.data.toList p.data.toList))∧w'=w:=by
 rw[←Lib.hasPrefix_of_take,←Lib.size_eq,←Lib.size_eq];go_enter Tryz.func65,Tryz.ntmps65;go_wp2
 · rename_i h;go_ret;refine⟨?_,rfl⟩;show Ending.returned (Value.bool ((s.extract 0 p.size).toList == p.toList))=_;rw[Lib.extract_toList,Lib.toList_data];simp[h]
 rename_i h;go_ret;refine⟨?_,rfl⟩;show Ending.returned (Value.bool false)=_;simp[h]
theorem Eq.slTake {w:World} {B:Nat} {A:Option Addr} {xs:List Value} (h:Sl w B A xs) (k:Nat):Sl w B A (xs.take k):=fun h0=>by
 rw[List.length_take]at h0;obtain⟨b,o,hA,hb,hc⟩:=h (by omega);refine⟨b,o,hA,hb,fun i hi=>?_⟩;rw[List.length_take]at hi;rw[hc i (by omega),List.getElem?_take_of_lt (by omega)]
theorem Jn.flat:∀xs:List (List UInt8),Lib.join xs []=xs.flatten
 | []=>rfl
 | [x]=>by simp[Lib.join,List.intercalate]
 | x::y::t=>by
   have:=Jn.flat (y::t);unfold Lib.join List.intercalate at this ⊢;rw[List.intersperse_cons_cons,List.flatten_cons,List.flatten_cons,this,List.nil_append];rfl
theorem U.encs_flat:∀L:List (List Int),zA5 L.flatten=(L.map zA5).flatten
 | []=>rfl
 | u::L=>by rw[List.flatten_cons,zAV,U.encs_flat L,List.map_cons,List.flatten_cons]
theorem U.encS_app2 {x y:List Int} (hx:∀c∈x,C.isC c=true) (hy:∀c∈y,C.isC c=true):zA6 x++zA6 y=zA6 (x++y):=by
 rw[zCe hx,zCe hy,zCe (fun c hc=>(List.mem_append.1 hc).elim (hx c) (hy c)),zAV];apply ByteArray.ext
 simp
def Eq.RetIndex (F:List Int→List Int) (L:List (List Int)) (Wt:List Int) (b:Bool) (w:World) (e:Ending) (w':World):Prop :=
 Below w.heap.size w w'∧((b=false∧e=.returned (.tuple #[.int .i64 (-1),.int .i64 (-1),.int .i64 1]))∨(b=true∧((∃i n,0<n∧i+n≤L.length∧(Eq.mid L i n).flatMap F=Wt∧(∀j,j<i→Eq.no F L Wt j)∧e=.returned (.tuple #[.int .i64 ((zA6 (L.take i).flatten).size:Nat),.int .i64 (((zA6 (L.take i).flatten).size:Nat)+((zA6 (Eq.mid L i n).flatten).size:Nat):Int),.int .i64 0]))∨((∀j,j<L.length→Eq.no F L Wt j)∧e=.returned (.tuple #[.int .i64 (-1),.int .i64 (-1),.int .i64 0])))))
def Eq.hd (p:Int→Bool):List Int→Bool
 | []=>false
 | c::_=>p c
set_option maxRecDepth 100000 in
set_option maxHeartbeats 4000000 in
theorem Eq.index_any (v:Value) (T:List Rw.Row) (S:List Int) (z y:List Int) (w:World) (ok:Ud.Ok T S) (h:Ud.Is w v T S) (hH:Heads w) (hz:∀c∈z,C.isC c=true) (hzl:z.length≤32) (hy:∀c∈y,C.isC c=true) (hyf:(Nf.fl T y).length≤1024) :
 Calls Tryz.prog 38 #[v,.string (zA6 z),.string (zA6 y)] w (Eq.RetIndex (Nf.chars T) (Sp.cut (zEr T S) z) (Nf.chars T y) (Eq.hd (zEr T S) y) w):=by
 have hzf:(Nf.fl T z).length≤1024:=zFs ok hzl;have hyl:y.length≤1024:=Nat.le_trans (zBE ok y) hyf
 have hB:Calls Tryz.prog 60 #[v,.string (zA6 z),.string (zA6 y)] w fun e w'=>e=.returned (.tuple #[.string (zA6 (Nf.chars T z)),.string (zA6 (Nf.chars T y)),.int .i64 0])∧Below w.heap.size w w':=by
  have:=Eq.both_of v (zA6 z) (zA6 y) (zA6 (Nf.chars T z)) (zA6 (Nf.chars T y)) 0 0 w (Int.le_refl _) (Int.le_refl _) (fun W hW=>Nf.of_chars v T S z W ok (h.below hW) (hH.next hW) hz (by omega) hzf) (fun W hW=>Nf.of_chars v T S y W ok (h.below hW) (hH.next hW) hy (by omega) hyf);rw[show Eq.er 0 0=0 from rfl]at this;unfold Eq.st at this;rw[show Eq.er 0 0=0 from rfl,if_pos rfl,if_pos rfl]at this;exact this
 have HNX:Hy (∀W,Below w.heap.size w W→Calls Tryz.prog 64 #[.string (zA6 y)] W fun e w'=>e=.returned (.tuple #[.int .i32 (zAA (zA6 y).data.toList).1,.int .i64 (zAA (zA6 y).data.toList).2.1,.bool (zAA (zA6 y).data.toList).2.2])∧Below W.heap.size W w'):=hy' fun W hW=>zFn _ W (by have:=zCp hy;simp only[maxLen];omega) (hH.next hW)
 have HSF:Hy (∀c W,Below w.heap.size w W→Calls Tryz.prog 35 #[v,.int .i32 c] W fun e w'=>e=.returned (.bool (zEr T S c))∧Below W.heap.size W w'):=hy' fun c W hW=>Sp.safe_any v T S c W ok (h.below hW)
 have HOD:Hy (∀(u:List Int) (W:World),Below w.heap.size w W→(∀c∈u,C.isC c=true)→u.length≤32→Calls Tryz.prog 14 #[v,.string (zA6 u)] W fun e w'=>e=.returned (.tuple #[.string (zA6 (Nf.chars T u)),.int .i64 0])∧Below W.heap.size W w'):=hy' fun u W hW hu hl =>
  Nf.of_chars v T S u W ok (h.below hW) (hH.next hW) hu (by omega) (zFs ok hl)
 obtain⟨p,hp⟩:∃p,zEr T S=p:=⟨_,rfl⟩;obtain⟨L,hL⟩:∃q,Sp.cut p z=q:=⟨_,rfl⟩;obtain⟨n,hn⟩:∃q,L.length=q:=⟨_,rfl⟩
 have HPA:Hy (∀W,Below w.heap.size w W→Calls Tryz.prog 32 #[v,.string (zA6 z)] W fun e w'=>∃A c,e=.returned (.tuple #[.slice A n c,.int .i64 0])∧n≤c∧Sl w' w'.heap.size A (Sp.vs L)∧Below W.heap.size W w'):=hy' fun W hW=>by
  have:=Sp.parts_any v T S (zA6 z) z W ok (h.below hW) (hH.next hW) (by rw[zCe hz]) hz (by omega);unfold Sp.RetParts at this;rw[hp,hL,hn]at this;refine this.mono ?_;rintro e w' ⟨A,c,rfl,ho,hb⟩;refine⟨A,c,rfl,?_,Sl.of_own ho,hb⟩;rcases ho.2 with ⟨hv,h0⟩|⟨g',cap',cur,hv,hg,hb',h1,h2,h3,h4⟩
  · omega
  cases hv;omega
 obtain⟨F,hF⟩:∃F,Nf.chars T=F:=⟨_,rfl⟩;obtain⟨Wt,hWt⟩:∃q,F y=q:=⟨_,rfl⟩;have hFc:∀u:List Int,(∀c∈u,C.isC c=true)→∀c∈F u,C.isC c=true:=fun u hu=>by rw[←hF];exact Nf.chars_isC ok hu
 have hLf:L.flatten=z:=by rw[←hL];exact Sp.cut_flat p z
 have hLm:∀u∈L,∀c∈u,C.isC c=true:=fun u hu c hc=>hz c (by rw[←hLf];exact List.mem_flatten.2 ⟨u,hu,hc⟩)
 have hlen:∀(M R:List (List Int)),(∃P,L=P++(M++R))→M.flatten.length≤32∧(M.flatMap F).length≤1024:=fun M R hM=>by
  obtain⟨P,hM⟩:=hM;have h1:z=P.flatten++(M.flatten++R.flatten):=by rw[←hLf,hM,List.flatten_append,List.flatten_append]
  have h2:(Nf.fl T M.flatten).length≤(Nf.fl T z).length:=by rw[h1,Nf.fl_app,Nf.fl_app,List.length_append,List.length_append];omega
  have h3:∀M:List (List Int),(M.flatMap F).length=(Nf.fl T M.flatten).length:=by
   intro M
   induction M with
   | nil=>rfl
   | cons u M ih=>rw[List.flatMap_cons,List.flatten_cons,Nf.fl_app,List.length_append,List.length_append,ih,←hF,Nf.chars_len]
  have h4:M.flatten.length≤z.length:=by rw[h1,List.length_append,List.length_append];omega
  exact⟨by omega,by rw[h3];omega⟩
 have hmid:∀i k,(Eq.mid L i k).flatten.length≤32∧((Eq.mid L i k).flatMap F).length≤1024:=fun i k=>hlen _ ((L.drop i).drop k) ⟨L.take i,by unfold Eq.mid;rw[List.take_append_drop,List.take_append_drop]⟩
 have hmc:∀i k,(∀c∈(Eq.mid L i k).flatten,C.isC c=true)∧∀c∈(Eq.mid L i k).flatMap F,C.isC c=true:=fun i k=>⟨fun c hc=>by
  obtain⟨u,hu,hcu⟩:=List.mem_flatten.1 hc;exact hLm u (Eq.mem_mid hu) c hcu,fun c hc=>by
  obtain⟨u,hu,hcu⟩:=List.mem_flatMap.1 hc;exact hFc u (hLm u (Eq.mem_mid hu)) c hcu⟩
 have hWc:∀c∈Wt,C.isC c=true:=by rw[←hWt];exact hFc y hy
 have hn2:n≤32:=by
  have h2:∀M:List (List Int),(∀u∈M,u≠[])→M.length≤M.flatten.length:=by
   intro M
   induction M with
   | nil=>intro _;exact Nat.le_refl _
   | cons u M ih =>
     intro h;have h3:=ih fun x hx=>h x (List.mem_cons_of_mem _ hx)
     have h4:0<u.length:=List.length_pos_iff.2 (h u List.mem_cons_self);rw[List.flatten_cons,List.length_append,List.length_cons];omega
  have:=h2 _ (Sp.cut_ne p z);rw[Sp.cut_flat,hL,hn]at this;omega
 have htk:∀i,(zA6 (L.take i).flatten).size≤1000:=fun i=>by
  have h1:=zCp (z:=(L.take i).flatten) (fun c hc=>by
   obtain⟨u,hu,hcu⟩:=List.mem_flatten.1 hc;exact hLm u (List.mem_of_mem_take hu) c hcu)
  have h2:=(hlen (L.take i) (L.drop i) ⟨[],by rw[List.nil_append,List.take_append_drop]⟩).1;omega
 have HTK:=hy' htk;clear htk
 have HJN:Hy (∀(A:Option Addr) (c i:Nat) (W:World),i≤n→n≤c→Sl W W.heap.size A (Sp.vs L)→Calls Tryz.prog 66 #[.slice A i c,.string ⟨#[]⟩] W fun e w'=>e=.returned (.string (zA6 (L.take i).flatten))∧Below W.heap.size W w'):=hy' fun A c i W hi hc hA=>by
  rcases Nat.eq_zero_or_pos i with h0|h0
  · subst h0;refine (Tryz.strings_Join_none A c ⟨#[]⟩ W).mono ?_;rintro e w' ⟨rfl,rfl⟩;exact⟨rfl,Below.refl _ _⟩
  have hv:(Sp.vs L).take i=((L.take i).map zA6).map Value.string:=by unfold Sp.vs;rw[←List.map_take,List.map_map];rfl
  have hsl:=Eq.slTake hA i;rw[hv]at hsl
  have:=Jn.any A c W.heap.size i ((L.take i).map zA6) ⟨#[]⟩ W (by rw[List.length_map,List.length_take,hn];omega) h0 (Nat.le_refl _) hsl (by omega) (by omega) (fun x hx=>by
   obtain⟨u,hu,rfl⟩:=List.mem_map.1 hx;have hu2:=List.mem_of_mem_take hu;have h1:=zCp (hLm u hu2)
   have h2:u.length≤32:=by
    obtain⟨a,b,hab⟩:=List.append_of_mem hu2;have:=(hlen [u] b ⟨a,hab⟩).1;simpa using this
   omega) (by decide)
  refine this.mono ?_;rintro e w' ⟨rfl,hb⟩;refine⟨?_,hb⟩
  have hfl:∀c∈(L.take i).flatten,C.isC c=true:=fun c hc=>by
   obtain⟨u,hu,hcu⟩:=List.mem_flatten.1 hc;exact hLm u (List.mem_of_mem_take hu) c hcu
  have he:Lib.join (((L.take i).map zA6).map (·.data.toList)) (⟨#[]⟩:ByteArray).data.toList=zA5 (L.take i).flatten:=by
   rw[show (⟨#[]⟩:ByteArray).data.toList=[] from rfl,Jn.flat,U.encs_flat,List.map_map];congr 1;apply List.map_congr_left
   intro u hu;show (zA6 u).data.toList=zA5 u;rw[zCe (hLm u (List.mem_of_mem_take hu))]
  rw[he,zCe hfl]
 have HHP:Hy (∀(i k:Nat) (W:World),Calls Tryz.prog 65 #[.string (zA6 Wt),.string (zA6 ((Eq.mid L i k).flatMap F))] W fun e w'=>∃b:Bool,e=.returned (.bool b)∧w'=W∧(b=false→¬ ∃R,Wt=(Eq.mid L i k).flatMap F++R)):=hy' fun i k W=>by
  refine (Eq.prefix_any (zA6 Wt) (zA6 ((Eq.mid L i k).flatMap F)) W).mono ?_;rintro e w' ⟨rfl,rfl⟩;refine⟨_,rfl,rfl,fun hb hR=>?_⟩;obtain⟨R,hR⟩:=hR;rw[zCe hWc,zCe (hmc i k).2]at hb
  have:Lib.hasPrefix (zA5 Wt) (zA5 ((Eq.mid L i k).flatMap F))=true:=by
   unfold Lib.hasPrefix;rw[List.isPrefixOf_iff_prefix,hR,zAV];exact⟨_,rfl⟩
  rw[show Lib.hasPrefix (⟨(zA5 Wt).toArray⟩:ByteArray).data.toList (⟨(zA5 ((Eq.mid L i k).flatMap F)).toArray⟩:ByteArray).data.toList=Lib.hasPrefix (zA5 Wt) (zA5 ((Eq.mid L i k).flatMap F)) from rfl,this]at hb;cases hb
 have HEQ:Hy (∀i k,((zA6 ((Eq.mid L i k).flatMap F)).toList == (zA6 Wt).toList)=decide ((Eq.mid L i k).flatMap F=Wt)):=hy' fun i k=>by
  rw[zDf,Bool.eq_iff_iff,decide_eq_true_iff,decide_eq_true_iff];exact⟨fun e=>zDY (hmc i k).2 hWc e,fun e=>by rw[e]⟩
 have hhd:(zAA (zA6 y).data.toList).2.2=false∧y=[]∨∃c r,y=c::r∧zAA (zA6 y).data.toList=(c,(zAl c).length,true):=by
  cases y with
  | nil=>exact .inl ⟨rfl,rfl⟩
  | cons c r =>
    refine .inr ⟨c,r,rfl,?_⟩;have h1:=zH4 c (hy c List.mem_cons_self) (zA5 r);rw[zCe hy];show zAA (zA5 (c::r))=_;rw[zAs];exact zHE h1
 obtain⟨pb,rfl,hpb⟩:=h.form;unfold Eq.RetIndex;rw[hp]at HSF ⊢;simp only[hF]at HOD hB ⊢;rw[hWt]at hB ⊢;rw[hL];obtain⟨sz,hsz⟩:∃q,zA6 z=q:=⟨_,rfl⟩;obtain⟨sy,hsy⟩:∃q,zA6 y=q:=⟨_,rfl⟩;obtain⟨sd,hsd⟩:∃q,zA6 (F z)=q:=⟨_,rfl⟩;obtain⟨sw,hsw⟩:∃q,zA6 Wt=q:=⟨_,rfl⟩;rw[hsz,hsy,hsd,hsw]at hB;rw[hsz]at HPA ⊢;rw[hsy]at HNX hhd ⊢;rw[hsw]at HHP HEQ;have HN:=hy' hn;have HMID:=hy' hmid;have HMC:=hy' hmc;have HLM:=hy' hLm;have HFC:=hy' hFc;have HLEN:=hy' hlen;have HHD:=hy' hhd;have HBO:=hy' hB;clear ok h hH hz hzl hy hyf hzf hyl hB hp hL hn hF hWt hFc hLf hLm hlen hmid hmc hWc hhd hsz hsy hsd hsw;go_enter Tryz.func38,Tryz.ntmps38;go_wp2_with fail;refine HBO.o.mono ?_;rintro e w1 ⟨rfl,hb⟩;have HB1:=hy' hb;clear hb;go_wp2_with fail;refine (HNX.o w1 HB1.o).mono ?_;rcases HHD.o with ⟨hd,hyn⟩|⟨c,r,hyc,hd⟩
 · obtain⟨d,hdd⟩:∃d,zAA sy.data.toList=d:=⟨_,rfl⟩;rw[hdd]at hd ⊢;obtain⟨d1,d2,d3⟩:=d;simp only at hd;subst hd;subst hyn;rintro e w2 ⟨rfl,hb⟩;have HB2:=hy' (HB1.o.trans (hb.mono HB1.o.size));clear hb hdd;go_wp2_with fail;go_ret3;exact⟨HB2.o,.inl ⟨rfl,rfl⟩⟩
 subst hyc;rw[hd];rintro e w2 ⟨rfl,hb⟩;have HB2:=hy' (HB1.o.trans (hb.mono HB1.o.size));clear hb hd;go_wp2_with fail;refine (HSF.o c w2 HB2.o).mono ?_;obtain⟨pc,hpc⟩:∃q,p c=q:=⟨_,rfl⟩;rw[hpc];rintro e w3 ⟨rfl,hb⟩;have HB3:=hy' (HB2.o.trans (hb.mono HB2.o.size));have HPC:=hy' (show Eq.hd p (c::r)=pc from hpc);clear hb hpc;cases pc
 · go_wp2_with fail;go_ret3;exact⟨HB3.o,.inl ⟨HPC.o,rfl⟩⟩
 go_wp2_with fail;refine (HPA.o w3 HB3.o).mono ?_;rintro e w4 ⟨A,ca,rfl,hnc,hs4,hb⟩;have HB4:=hy' (HB3.o.trans (hb.mono HB3.o.size));have HS4:=hy' hs4;clear hb hs4;go_wp2_with fail;go_loopw [17,18,19,58] (fun _ _ _ i wr=>∃k:Nat,k≤n∧i=.int .i64 k∧(∀j,j<k→Eq.no F L Wt j)∧Below w4.heap.size w4 wr) (fun _ _ _ i _=>n-(intOf i).toNat)
 case atStart=>exact⟨0,Nat.zero_le _,rfl,fun j hj=>by omega,Below.refl _ _⟩
 obtain⟨i,hi,rfl,hno,hbr⟩:=hrel;obtain⟨r0,rfl⟩:∃q:World,q=wr:=⟨_,rfl⟩;have HNO:=hy' hno;have HRR:=hy' hbr;clear hno
 by_cases hlt:i<n
 rotate_left
 · obtain rfl:i=n:=by omega
   have kI:¬(i:Int)<i:=by omega
   have HF:=hy' (HB4.o.trans (hbr.mono HB4.o.size));clear hbr;go_wp2_with fail;go_ret3;exact⟨HF.o,.inr ⟨HPC.o,.inr ⟨fun j hj=>HNO.o j (by rw[HN.o]at hj;exact hj),rfl⟩⟩⟩
 obtain⟨ab,ao,rfl,hab,hac⟩:=HS4.o (by unfold Sp.vs;rw[List.length_map,HN.o];omega)
 have HAC:Hy (∀k u,L[i+k]?=some u→r0.cell? ⟨ab,ao+i+k,none⟩=some (.string (zA6 u))):=hy' fun k u hu=>by
  have h1:=hac (i+k) (by unfold Sp.vs;rw[List.length_map];exact (List.getElem?_eq_some_iff.1 hu).1);have h2:(Sp.vs L)[i+k]?=some (.string (zA6 u)):=by unfold Sp.vs;rw[List.getElem?_map,hu];rfl
  rw[Nat.add_assoc,(zAI hbr).1 _ _ hab,h1,h2]
 have hab2:=Nat.lt_of_lt_of_le hab hbr.size;have HAB:=hy' hab2;have kI:(i:Int)<n:=by omega
 have k0:(0:Int)≤i:=by omega
 have kc:(i:Int)≤ca:=by omega
 have kl:(i:Int)≤n:=by omega
 have kne:¬ca=i:=by omega
 clear hac hab hab2 hbr;go_upto_block 1 with (fail)
 clear kI;go_cut [] (fun wx=>Eq.no F L Wt i∧Below r0.heap.size r0 wx)
 case rest =>
  obtain⟨hni,hbc⟩:=hcut;obtain⟨r1,rfl⟩:∃q:World,q=wc:=⟨_,rfl⟩;have HNI:=hy' hni;have HR1:=hy' (HRR.o.trans (hbc.mono HRR.o.size));clear hni hbc;go_wp2_with fail;go_roundw
  case rel=>exact⟨i+1,by omega,by first|rfl|go_num,fun j hj=>by
   rcases Nat.lt_or_ge j i with h3|h3
   · exact HNO.o j h3
   obtain rfl:j=i:=by omega
   exact HNI.o,HR1.o⟩
  simp[intOf];omega
 go_wp2_with fail;go_loopw [18,19,21,22,23,24,65] (fun s1 s2 _ _ _ _ jj wr=>∃k:Nat,i+k≤n∧jj=.int .i64 k∧s1=.string (zA6 (Eq.mid L i k).flatten)∧s2=.string (zA6 ((Eq.mid L i k).flatMap F))∧(∀m,0<m→m≤k→(Eq.mid L i m).flatMap F≠Wt)∧Below r0.heap.size r0 wr) (fun _ _ _ _ _ _ jj _=>n-(intOf jj).toNat)
 case atStart=>exact⟨0,by omega,rfl,by rw[Eq.mid_zero];rfl,by rw[Eq.mid_zero];rfl,fun m h1 h2=>by omega,Below.refl _ _⟩
 obtain⟨k,hk,rfl,rfl,rfl,hnm,hbs⟩:=hrel;obtain⟨s0,rfl⟩:∃q:World,q=wr:=⟨_,rfl⟩;have HNM:=hy' hnm;have HSS:=hy' hbs;have HSB:=hy' (HB4.o.trans ((HRR.o.trans (hbs.mono HRR.o.size)).mono HB4.o.size));clear hnm
 by_cases hlt2:i+k<n
 rotate_left
 · have kI:¬(k:Int)<(n:Int)-i:=by omega
   have kn:¬k<n-i:=by omega
   clear hbs;go_wp2_with fail;go_meet;exact⟨fun m h1 h2=>HNM.o m h1 (by rw[HN.o]at h2;omega),HSS.o⟩
 obtain⟨u,hu⟩:∃u,L[i+k]?=some u:=⟨_,List.getElem?_eq_getElem (by rw[HN.o];exact hlt2)⟩;have hum:=List.mem_of_getElem? hu;have hc:=HAC.o k u hu;rw[←(zAI hbs).1 _ _ HAB.o]at hc;have hab3:=Nat.lt_of_lt_of_le HAB.o hbs.size;have huc:=HLM.o u hum
 have hul:u.length≤32:=by
  obtain⟨a,b,hab⟩:=List.append_of_mem hum;have:=(HLEN.o [u] b ⟨a,hab⟩).1;simpa using this
 have hms:=Eq.mid_succ hu
 have e1:zA6 (Eq.mid L i k).flatten++zA6 u=zA6 (Eq.mid L i (k+1)).flatten:=by
  rw[U.encS_app2 (HMC.o i k).1 huc,hms,List.flatten_append];simp
 have e2:zA6 ((Eq.mid L i k).flatMap F)++zA6 (F u)=zA6 ((Eq.mid L i (k+1)).flatMap F):=by
  rw[U.encS_app2 (HMC.o i k).2 (HFC.o u huc),hms,List.flatMap_append];simp
 have l1:=zCp (HMC.o i k).1;have l2:=zCp (HMC.o i k).2;have l3:=zCp huc;have l4:=zCp (HFC.o u huc);have l5:=HMID.o i k
 have l6:(F u).length≤1024:=by
  have h1:=(HMID.o i (k+1)).2;rw[hms,List.flatMap_append,List.length_append,List.flatMap_cons,List.flatMap_nil,List.append_nil]at h1;omega
 have hod:=HOD.o u s0 HSB.o huc hul;have hhp:=HHP.o i (k+1);have heq:=HEQ.o i (k+1);obtain⟨bq,hbq⟩:∃b,decide ((Eq.mid L i (k+1)).flatMap F=Wt)=b:=⟨_,rfl⟩;rw[hbq]at heq;obtain⟨sx,hsx⟩:∃q,zA6 (Eq.mid L i k).flatten=q:=⟨_,rfl⟩;obtain⟨sa,hsa⟩:∃q,zA6 ((Eq.mid L i k).flatMap F)=q:=⟨_,rfl⟩;obtain⟨su,hsu⟩:∃q,zA6 u=q:=⟨_,rfl⟩;obtain⟨sf,hsf⟩:∃q,zA6 (F u)=q:=⟨_,rfl⟩;rw[hsx,hsa];rw[hsx,hsu]at e1;rw[hsa,hsf]at e2;rw[hsx]at l1;rw[hsa]at l2;rw[hsu]at l3 hc hod;rw[hsf]at l4 hod;rw[←e2]at hhp heq;have n1:¬9223372036854775807<sx.size+su.size:=by omega
 have n2:¬9223372036854775807<sa.size+sf.size:=by omega
 have kI:(k:Int)<(n:Int)-i:=by omega
 have kn:k<n-i:=by omega
 have k00:(0:Int)≤k:=by omega
 have HOU:=hy' hod;have HHU:=hy' hhp;have HE1:=hy' e1;have HE2:=hy' e2;have HBQ:=hy' hbq;have HEQ2:=hy' heq;have hlsz:sx.size+su.size≤1000000:=by omega
 clear hu hum huc hul hms e1 e2 l1 l2 l3 l4 l5 l6 hod hhp heq hbq hsx hsa hsu hsf hbs;go_wp2_with fail;refine HOU.o.mono ?_;rintro e s1 ⟨rfl,hb⟩;have HS1:=hy' (HSS.o.trans (hb.mono HSS.o.size));have HSB1:=hy' (HSB.o.trans (hb.mono HSB.o.size));clear hb hc hab3;go_wp2_with fail;refine (HHU.o s1).mono ?_;rintro e s2 ⟨bp,rfl,hw2,hbp⟩;obtain rfl:s1=s2:=hw2.symm;cases bp
 · have HBP:=hy' (hbp rfl);clear hbp;go_wp2_with fail;go_meet;exact⟨Eq.no_of (k:=k+1) (fun m h1 h2=>HNM.o m h1 (by omega)) HBP.o,HS1.o⟩
 have heq:=HEQ2.o;clear hbp;cases bq
 · go_wp2_with fail;go_roundw
   case rel=>exact⟨k+1,by omega,by first|rfl|go_num,by rw[HE1.o],by rw[HE2.o],fun m h1 h2=>by
    rcases Nat.lt_or_ge m (k+1) with h3|h3
    · exact HNM.o m h1 (by omega)
    obtain rfl:m=k+1:=by omega
    exact of_decide_eq_false HBQ.o,HS1.o⟩
   simp[intOf];omega
 have HSL:=hy' (HS4.o.below (HRR.o.trans (HS1.o.mono HRR.o.size)) (HRR.o.trans (HS1.o.mono HRR.o.size)).size);go_wp2_with fail;refine (HJN.o _ ca i s1 (by omega) hnc HSL.o).mono ?_;rintro e s3 ⟨rfl,hb⟩;have HSB3:=hy' (HSB1.o.trans (hb.mono HSB1.o.size));clear hb;go_wp2_with fail;go_ret3;refine⟨HSB3.o,.inr ⟨HPC.o,.inl ⟨i,k+1,by omega,by rw[HN.o];omega,of_decide_eq_true HBQ.o,HNO.o,?_⟩⟩⟩;rw[←HE1.o];have hsz:(sx++su).size=sx.size+su.size:=ByteArray.size_append;have htk:=HTK.o i;have hwr:wrap64 (((zA6 (L.take i).flatten).size:Int)+((sx.size:Int)+(su.size:Int)))=((zA6 (L.take i).flatten).size:Int)+((sx.size:Int)+(su.size:Int)):=by unfold wrap64;omega
 rw[hsz]
 first|rfl|(simp[hwr];done)
end Go.Proofs.YtddbccflcekdpaaGreatDoor
