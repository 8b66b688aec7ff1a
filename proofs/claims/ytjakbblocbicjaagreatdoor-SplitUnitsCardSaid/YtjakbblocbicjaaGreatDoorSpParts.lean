/- split.Parts, by walking its text. -/
import Derived.Test.YtjakbblocbicjaaGreatDoorSpSafe
import Derived.Test.YtjakbblocbicjaaGreatDoorSpCut
import Derived.Test.YtjakbblocbicjaaGreatDoorDecAt
import Derived.Test.YtjakbblocbicjaaGreatDoorNfLaw
import Derived.Test.YtjakbblocbicjaaGreatDoorRwLines
import Derived.Lib.OthersKept
namespace Go.Proofs.YtjakbblocbicjaaGreatDoor
open Go.RowKit
set_option linter.unusedSimpArgs false
set_option linter.unusedVariables false
def Sp.vs (L:List (List Int)):List Value:=L.map fun u=>Value.string (zAv u)
def Sp.RetParts (L:List (List Int)) (w:World) (e:Ending) (w':World):Prop :=
 ∃A c,e=.returned (.tuple #[.slice A L.length c,.int .i64 0])∧w'.ownsRow w.heap.size 9 1 (.slice A L.length c) L.length (Sp.vs L)∧Below w.heap.size w w'
theorem Sp.own_iter {w:World} {B n k:Nat} {e:TypeId} {v:Value} {xs:List Value} (h:w.ownsRow B e 1 v n xs) (hk:k<B) (s:ByteArray) (pos:Nat):(w.iterAt k s pos).ownsRow B e 1 v n xs:=by
 refine⟨h.1,?_⟩;rcases h.2 with hn|⟨g,cap,cur,hv,hbg,hg,rest⟩
 · exact .inl hn
 exact .inr ⟨g,cap,cur,hv,hbg,(Lib.iterAt_other w k g s pos (by omega)).trans hg,rest⟩
theorem Sp.iter_below {B:Nat} {w w':World} (h:Below B w w') {k:Nat} (hk:k<B) {o:Obj} (hw:w.heap[k]?=some o):w'.heap[k]?=some o:=(h.block k hk).trans hw
section
variable (p:Int→Bool) (z:List Int)
def Sp.st (k:Nat):List (List Int) × List Int:=Sp.run p ([],[]) (z.take k)
def Sp.at (k:Nat):Nat:=(zAd (z.take k)).length
def Sp.fr (k:Nat):Nat:=(zAd (Sp.st p z k).1.flatten).length
theorem Sp.encs_app (a b:List Int):zAd (a++b)=zAd a++zAd b:=List.flatMap_append
theorem Sp.enc_pos (c:Int):0<(zAn c).length:=by
 unfold zAn;split
 · simp
 split
 · simp
 split <;> simp
theorem Sp.st_flat (k:Nat):z.take k=(Sp.st p z k).1.flatten++(Sp.st p z k).2:=by
 unfold Sp.st;rw[Sp.run_flat];simp
theorem Sp.at_eq (k:Nat):Sp.at z k=Sp.fr p z k+(zAd (Sp.st p z k).2).length:=by
 unfold Sp.at Sp.fr;rw[←List.length_append,←Sp.encs_app,←Sp.st_flat]
theorem Sp.at_succ {k:Nat} {c:Int} (h:z[k]?=some c):Sp.at z (k+1)=Sp.at z k+(zAn c).length:=by
 unfold Sp.at;rw[List.take_add_one,h,Option.toList_some,Sp.encs_app,List.length_append];simp[zAd]
theorem Sp.st_succ {k:Nat} {c:Int} (h:z[k]?=some c):Sp.st p z (k+1)=Sp.step p (Sp.st p z k) c:=Sp.run_snoc p h
theorem Sp.st_ne {k:Nat} (h0:0<k) (h:k≤z.length):(Sp.st p z k).2≠[]:=fun e=>by
 have:=Sp.run_nil p e;rw[←List.length_eq_zero_iff,List.length_take]at this;omega
theorem Sp.out_len (s:List (List Int) × List Int):∀l:List Int,(Sp.run p s l).1.length≤s.1.length+l.length
 | []=>Nat.le_refl _
 | c::l=>by
   have h:=Sp.out_len (Sp.step p s c) l;have h2:(Sp.step p s c).1.length≤s.1.length+1:=by unfold Sp.step;split <;> simp
   show (Sp.run p (Sp.step p s c) l).1.length≤_;rw[List.length_cons];omega
theorem Sp.at_pos {k:Nat} (h0:0<k) (h:k≤z.length):0<Sp.at z k:=by
 obtain⟨c,hc⟩:∃c,z[k-1]?=some c:=⟨_,List.getElem?_eq_getElem (by omega)⟩;have:=Sp.at_succ z hc;have h3:=Sp.enc_pos c;rw[show k-1+1=k by omega]at this;omega
end
theorem Sp.cut_str {s:ByteArray} {z:List Int} (hs:s.data.toList=zAd z) (p:Int→Bool) (k:Nat):s.extract (Sp.fr p z k) (Sp.at z k)=⟨(zAd (Sp.st p z k).2).toArray⟩:=by
 apply ByteArray.ext
 apply Array.toList_inj.1
 have h1:=Sp.at_eq p z k
 have h2:zAd z=zAd (Sp.st p z k).1.flatten++(zAd (Sp.st p z k).2++zAd (z.drop k)):=by
  rw[←List.append_assoc,←Sp.encs_app,←Sp.st_flat,←Sp.encs_app,List.take_append_drop]
 rw[Lib.extract_data,hs,h2];show _=zAd (Sp.st p z k).2;rw[show Sp.at z k-Sp.fr p z k=(zAd (Sp.st p z k).2).length by omega];unfold Sp.fr;rw[List.drop_left,List.take_left]
theorem Sp.dec_next {s:ByteArray} {z:List Int} (hs:s.data.toList=zAd z) (hz:∀c∈z,C.isC c=true) {k:Nat} {c:Int} (hc:z[k]?=some c):Utf8.decode s (Sp.at z k)=(c.toNat,(zAn c).length)∧Sp.at z k<s.size∧(c.toNat:Int)=c:=by
 obtain⟨hk,hk2⟩:=List.getElem?_eq_some_iff.1 hc;have hcc:=hz c (List.mem_of_getElem? hc);unfold C.isC at hcc;simp only[decide_eq_true_eq]at hcc
 have h2:zAd z=zAd (z.take k)++(zAn c++zAd (z.drop (k+1))):=by
  conv=>lhs;rw[←List.take_append_drop k z,List.drop_eq_getElem_cons hk,hk2,Sp.encs_app]
  simp[zAd]
 have h3:s.data.toList.length=s.size:=by simp
 have h4:=Sp.enc_pos c;rw[hs,h2,List.length_append,List.length_append]at h3;refine⟨U.dec_at s (zAd (z.take k)) (zAd (z.drop (k+1))) c (hs.trans h2) (by omega) (by omega) (by omega),?_,by omega⟩;unfold Sp.at;omega
set_option maxRecDepth 100000 in
set_option maxHeartbeats 4000000 in
theorem Sp.parts_any (v:Value) (T:List Rw.Row) (S:List Int) (s:ByteArray) (z:List Int) (w:World) (ok:Ud.Ok T S) (h:Ud.Is w v T S) (hH:Heads w) (hs:s.data.toList=zAd z) (hz:∀c∈z,C.isC c=true) (hl:z.length≤100000) :
 Calls Tryz.prog 25 #[v,.string s] w (Sp.RetParts (Sp.cut (zLv T S) z) w):=by
 obtain⟨i0,hi0,hz0,hz1,hz2⟩:=info_parts Rw.infoStr
 have hsz:s.size=Sp.at z z.length:=by
  unfold Sp.at;rw[List.take_length,←hs];simp
 have hszl:s.size≤400000:=by
  have:=zIS z;rw[hsz];unfold Sp.at;rw[List.take_length];omega
 have hV:=zS1 s w (by simp only[maxLen];omega) hH z [] ⟨by simpa using hs,hz,rfl⟩;obtain⟨p,hp⟩:∃p,zLv T S=p:=⟨_,rfl⟩;have HSF:=hy' (fun (c:Int) W (hW:Below w.heap.size w W)=>Sp.safe_any v T S c W ok (h.below hW));rw[hp]at HSF;rw[hp];obtain⟨pb,rfl,hpb⟩:=h.form;have HS:=hy' hs;have HZ:=hy' hz;have HSZ:=hy' hsz;clear hsz hs hz ok h hH hp;go_enter Tryz.func25,Tryz.ntmps25;go_wp2_with fail;refine hV.mono ?_;rintro e w1 ⟨rfl,hb1⟩;have HB1:=hy' hb1;have hvb:U.vB []=true:=rfl;have HWI:Hy (w.heap.size≤w1.heap.size+1):=hy' (Nat.le_succ_of_le HB1.o.size);clear hV hb1;go_wp2_with fail;obtain⟨it,hit⟩:∃it,w1.heap.size=it:=⟨_,rfl⟩;rw[hit]at HWI ⊢;go_loopw [8,9] (fun vo vf wr=>∃k:Nat,k≤z.length∧(∃n,(Sp.st p z k).1.length=n∧wr.ownsRow (it+1) 9 1 vo n (Sp.vs (Sp.st p z k).1))∧vf=.int .i64 (Sp.fr p z k)∧wr.heap[it]?=some (.stringIter s (Sp.at z k))∧Below w.heap.size w wr) (fun _ _ w'=>s.size-w'.iterPos it)
 case atStart=>exact⟨0,Nat.zero_le _,⟨0,rfl,World.ownsRow_nil _ _ _ _⟩,rfl,by rw[←hit];exact heap_alloc_new w1 _,(HB1.o).alloc HB1.o.size _⟩
 obtain⟨k,hk,⟨n,hn,hown⟩,rfl,hit2,hbr⟩:=hrel;obtain⟨w2,rfl⟩:∃w2:World,w2=wr:=⟨_,rfl⟩;obtain⟨A,c0,rfl⟩:=zA3 hown
 have hnk:n≤k:=by
  have:=Sp.out_len p ([],[]) (z.take k);rw[List.length_take]at this;unfold Sp.st at hn;simp only[List.length_nil]at this;omega
 have hfa:=Sp.at_eq p z k;have hcs:=Sp.cut_str HS.o p k;have hitl:it+1≤w2.heap.size:=zDt hit2;have hcur:∀x∈(Sp.st p z k).2,C.isC x=true:=fun x hx=>HZ.o x (List.mem_of_mem_take (by rw[Sp.st_flat p z k];exact List.mem_append_right _ hx))
 have hvs:Sp.vs ((Sp.st p z k).1++[(Sp.st p z k).2])=Sp.vs (Sp.st p z k).1++[.string ⟨(zAd (Sp.st p z k).2).toArray⟩]:=by
  unfold Sp.vs;rw[List.map_append,List.map_singleton,zIT hcur]
 by_cases hlt:k<z.length
 rotate_left
 · obtain rfl:k=z.length:=by omega
   have hcutz:Sp.cut p z=Sp.fin (Sp.st p z z.length):=by unfold Sp.cut Sp.st;rw[List.take_length]
   have hat:=HSZ.o;rw[←hat]at hit2 hfa hcs;have hnx:∀ty,(Instr.next (.pointer (some ⟨it,0,none⟩)) true ty).run Tryz.prog w2=_:=fun ty=>Lib.run_next_end_at w2 it s s.size ty hit2 (Nat.lt_irrefl _)
   obtain⟨f,hf⟩:∃q,Sp.fr p z z.length=q:=⟨_,rfl⟩;rw[hf]at hfa hcs ⊢;obtain⟨st,hst⟩:∃q,Sp.st p z z.length=q:=⟨_,rfl⟩;rw[hst]at hcutz hfa hcs hn hown hvs;have HCZ:=hy' hcutz;have HVS:=hy' hvs;have HN:=hy' hn;have HOWN:=hy' hown;have HBR:=hy' hbr;have HCS:=hy' hcs;have HST:=hy' hst;have hsi:(s.size:Int)=(s.size:Nat):=rfl
   by_cases h0:st.2=[]
   · have hfs:¬(f:Int)<s.size:=by rw[h0]at hfa;simp[zAd]at hfa;omega
     have H0:=hy' h0;clear hcutz hvs hn hown hbr hcs hst hit2 hfa h0 hat hf hcur;go_wp2_with fail;go_ret2;unfold Sp.RetParts;rw[HCZ.o];unfold Sp.fin;rw[if_pos H0.o,HN.o];exact⟨A,c0,rfl,zAR HOWN.o HWI.o,HBR.o⟩
   have hfs:(f:Int)<s.size:=by
    have:(zAd st.2).length≠0:=by
     cases h1:st.2 with
     | nil=>exact absurd h1 h0
     | cons c l =>
       have:=Sp.enc_pos c;rw[zAu,List.length_append];omega
    omega
   have hfs2:f≤s.size:=by omega
   have H0:=hy' h0;clear hcutz hvs hn hown hbr hcs hst hit2 hfa h0 hat hf hcur;go_wp2_with (first|(at_builtin;refine zAa _ rfl _ _ _ rfl (it+1) 9 i0 _ 16 Tryz.underlying45 hi0 hz0 hz1 hz2 rfl _ n _ rfl HOWN.o _ rfl rfl (by simp only[maxLen];omega) (by omega) hitl ?_;intro v1 w5 hown5 hb5)|fail);obtain⟨A5,c5,rfl⟩:=zA3 hown5;go_wp2_with fail;go_ret2;unfold Sp.RetParts;rw[HCZ.o];unfold Sp.fin;rw[if_neg H0.o,HVS.o,List.length_append,HN.o,←HCS.o];exact⟨A5,c5,rfl,zAR hown5 HWI.o,HBR.o.trans (hb5.mono HWI.o)⟩
 obtain⟨c,hc⟩:∃c,z[k]?=some c:=⟨_,List.getElem?_eq_getElem hlt⟩;obtain⟨hdec,hps,hcn⟩:=Sp.dec_next HS.o HZ.o hc;have hnx:∀ty,(Instr.next (.pointer (some ⟨it,0,none⟩)) true ty).run Tryz.prog w2=_:=fun ty=>Lib.run_next_any_at w2 it s (Sp.at z k) ty hit2 hps
 have has:=Sp.at_succ z hc;simp only[hdec,hcn]at hnx;rw[←has]at hnx;have hst:=Sp.st_succ p z hc;have hne:0<k→(Sp.st p z k).2≠[]:=fun h0=>Sp.st_ne p z h0 hk
 have hap:0<k→0<Sp.at z k:=fun h0=>Sp.at_pos z h0 hk
 have ha0:k=0→Sp.at z k=0:=fun h0=>by rw[h0];rfl
 have hmem:C.isC c=true:=HZ.o c (List.mem_of_getElem? hc)
 have hfin:(Sp.st p z k).2≠[]→p c=true→Sp.fr p z (k+1)=Sp.at z k:=fun h1 h2=>by
  unfold Sp.fr Sp.at;rw[hst];unfold Sp.step;rw[if_pos ⟨h1,h2⟩,Sp.st_flat p z k];simp
 have hgo:¬((Sp.st p z k).2≠[]∧p c=true)→Sp.fr p z (k+1)=Sp.fr p z k∧(Sp.st p z (k+1)).1=(Sp.st p z k).1:=fun h1=>by
  unfold Sp.fr;rw[hst];unfold Sp.step;rw[if_neg h1];exact⟨rfl,rfl⟩
 have hcut:(Sp.st p z k).2≠[]→p c=true→(Sp.st p z (k+1)).1=(Sp.st p z k).1++[(Sp.st p z k).2]:=fun h1 h2=>by
  rw[hst];unfold Sp.step;rw[if_pos ⟨h1,h2⟩]
 obtain⟨q,hq⟩:∃q,Sp.at z k=q:=⟨_,rfl⟩;obtain⟨q2,hq2⟩:∃q,Sp.at z (k+1)=q:=⟨_,rfl⟩;obtain⟨f,hf⟩:∃q,Sp.fr p z k=q:=⟨_,rfl⟩;obtain⟨w3,hw3⟩:∃w3,w2.iterAt it s q2=w3:=⟨_,rfl⟩;rw[hq,hq2,hw3]at hnx;rw[hq]at hfin hap ha0 hps hfa hcs;rw[hf]at hfa hcs hgo ⊢;have HP2:Hy (w2.iterPos it=q):=hy' (by unfold World.iterPos;rw[hit2,hq]);have hown3:w3.ownsRow (it+1) 9 1 (.slice A n c0) n (Sp.vs (Sp.st p z k).1):=by rw[←hw3];exact Sp.own_iter hown (Nat.lt_succ_self _) s q2
 have hit3:w3.heap[it]?=some (.stringIter s q2):=by rw[←hw3];exact Lib.iterAt_heap w2 it s _ q2 hit2
 have hbr3:Below w.heap.size w w3:=by rw[←hw3];exact Lib.below_iterAt hbr (by have:=HB1.o.size;omega) s q2
 have hz3:it+1≤w3.heap.size:=zDt hit3;have hpo:w3.iterPos it=q2:=by unfold World.iterPos;rw[hit3]
 have hqq:q<q2:=by have:=Sp.enc_pos c;omega
 have HOWN3:=hy' hown3;have HIT3:=hy' hit3;have HB3:=hy' hbr3;have HFIN:=hy' hfin;have HGO:=hy' hgo;have HCUT:=hy' hcut;have HVS:=hy' hvs;have HNE:=hy' hne;have HCS:=hy' hcs;have HN:=hy' hn;have HQ2:=hy' hq2;have HPS:=hy' hps;have HQQ:=hy' hqq;have hfq:f≤q:=by omega
 have hqs:q≤s.size:=by omega
 clear hown3 hit3 hbr3 hfin hgo hcut hvs hne hcs hn hq2 hq hf hw3 hst has hdec hcn hown hit2 hbr hmem hcur hc hfa hqq hps
 by_cases h0:0<k
 rotate_left
 · obtain rfl:k=0:=by omega
   have gq0:=ha0 rfl;have gq:¬(q:Int) > 0:=by omega
   clear hap ha0 gq0;go_wp2_with fail;go_roundw
   case rel =>
    obtain⟨g1,g2⟩:=HGO.o (fun h=>h.1 rfl);exact⟨0+1,by omega,⟨n,by rw[g2];exact HN.o,by rw[g2];exact HOWN3.o⟩,by rw[g1],by rw[HQ2.o];exact HIT3.o,HB3.o⟩
   show s.size-w3.iterPos it<s.size-w2.iterPos it;rw[HP2.o,hpo];have h2:=HQQ.o;have h3:=HPS.o;omega
 have gq0:=hap h0;have gq:(q:Int) > 0:=by omega
 have HNE0:=hy' (HNE.o h0);clear hap ha0 gq0;go_wp2_with fail;refine (HSF.o c w3 HB3.o).mono ?_;rintro e w4 ⟨rfl,hb4⟩;have HB4:=hy' (HB3.o.trans (hb4.mono HB3.o.size));have HOWN4:=hy' (zA4 HOWN3.o hb4 (Nat.le_refl _));have HIT4:=hy' (Sp.iter_below hb4 (Nat.lt_of_lt_of_le (Nat.lt_succ_self _) hz3) HIT3.o);have hz4:=Nat.le_trans hz3 hb4.size;clear hb4 hnx;rcases hpc:p c with _|_
 · have HPC:=hy' hpc;clear hpc;go_wp2_with fail;go_roundw
   case rel =>
    obtain⟨g1,g2⟩:=HGO.o (fun h=>by have:=HPC.o;rw[h.2]at this;cases this);exact⟨k+1,by omega,⟨n,by rw[g2];exact HN.o,by rw[g2];exact HOWN4.o⟩,by rw[g1],by rw[HQ2.o];exact HIT4.o,HB4.o⟩
   show s.size-w4.iterPos it<s.size-w2.iterPos it;rw[HP2.o,show w4.iterPos it=q2 by unfold World.iterPos;rw[HIT4.o]];have h2:=HQQ.o;have h3:=HPS.o;omega
 have HPC:=hy' hpc;clear hpc;go_wp2_with (first|(at_builtin;refine zAa _ rfl _ _ _ rfl (it+1) 9 i0 _ 16 Tryz.underlying45 hi0 hz0 hz1 hz2 rfl _ n _ rfl HOWN4.o _ rfl rfl (by simp only[maxLen];omega) (by omega) hz4 ?_;intro v1 w5 hown5 hb5)|fail);obtain⟨A5,c5,rfl⟩:=zA3 hown5;have HIT5:=hy' (Sp.iter_below hb5 (Nat.lt_succ_self _) HIT4.o);go_roundw
 case rel =>
  have g2:=HCUT.o HNE0.o HPC.o;exact⟨k+1,by omega,⟨n+1,by rw[g2,List.length_append,HN.o];rfl,by rw[g2,HVS.o,←HCS.o];exact hown5⟩,by rw[HFIN.o HNE0.o HPC.o],by rw[HQ2.o];exact HIT5.o,HB4.o.trans (hb5.mono HWI.o)⟩
 show s.size-w5.iterPos it<s.size-w2.iterPos it;rw[HP2.o,show w5.iterPos it=q2 by unfold World.iterPos;rw[HIT5.o]];have h2:=HQQ.o;have h3:=HPS.o;omega
end Go.Proofs.YtjakbblocbicjaaGreatDoor
