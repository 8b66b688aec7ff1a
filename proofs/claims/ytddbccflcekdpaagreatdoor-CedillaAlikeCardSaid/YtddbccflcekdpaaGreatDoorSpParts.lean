/- split.Parts, by walking its text. -/
import Derived.Test.YtddbccflcekdpaaGreatDoorSpSafe
import Derived.Test.YtddbccflcekdpaaGreatDoorSpCut
import Derived.Test.YtddbccflcekdpaaGreatDoorDecAt
import Derived.Test.YtddbccflcekdpaaGreatDoorFiNum
set_option maxRecDepth 100000
set_option maxHeartbeats 4000000
set_option linter.unusedVariables false
set_option linter.unusedSimpArgs false
namespace Go.Proofs.YtddbccflcekdpaaGreatDoor
open Go.Proofs.Tryz
open Go.RowKit
def Sp.vs (L:List (List Int)):List Value:=L.map fun u=>Value.string (zA6 u)
def Sp.RetParts (L:List (List Int)) (w:World) (e:Ending) (w':World):Prop :=
 ∃A c,e=.returned (.tuple #[.slice A L.length c,.int .i64 0])∧w'.ownsRow w.heap.size 9 1 (.slice A L.length c) L.length (Sp.vs L)∧Below w.heap.size w w'
theorem Sp.own_iter {w:World} {B n k:Nat} {e:TypeId} {v:Value} {xs:List Value} (h:w.ownsRow B e 1 v n xs) (hk:k<B) (s:ByteArray) (pos:Nat):(w.iterAt k s pos).ownsRow B e 1 v n xs:=by
 refine⟨h.1,?_⟩;rcases h.2 with hn|⟨g,cap,aa,hv,ae,hg,rest⟩
 · exact .inl hn
 exact .inr ⟨g,cap,aa,hv,ae,(Lib.iterAt_other w k g s pos (by omega)).trans hg,rest⟩
theorem Sp.iter_below {B:Nat} {w w':World} (h:Below B w w') {k:Nat} (hk:k<B) {o:Obj} (hw:w.heap[k]?=some o):w'.heap[k]?=some o:=(h.block k hk).trans hw
section
variable (p:Int→Bool) (z:List Int)
def Sp.st (k:Nat):List (List Int) × List Int:=Sp.run p ([],[]) (z.take k)
def Sp.at (k:Nat):Nat:=(zA5 (z.take k)).length
def Sp.fr (k:Nat):Nat:=(zA5 (Sp.st p z k).1.flatten).length
theorem Sp.encs_app (a b:List Int):zA5 (a++b)=zA5 a++zA5 b:=Yr
theorem Sp.enc_pos (c:Int):0<(zAl c).length:=by
 unfold zAl;split
 · simp
 split
 · simp
 split <;> simp
theorem Sp.st_flat (k:Nat):z.take k=(Sp.st p z k).1.flatten++(Sp.st p z k).2:=by
 unfold Sp.st;rw[Sp.run_flat];simp
theorem Sp.at_eq (k:Nat):Sp.at z k=Sp.fr p z k+(zA5 (Sp.st p z k).2).length:=by
 unfold Sp.at Sp.fr;rw[←Zd,←Sp.encs_app,←Sp.st_flat]
theorem Sp.at_succ {k:Nat} {c:Int} (h:z[k]?=some c):Sp.at z (k+1)=Sp.at z k+(zAl c).length:=by
 unfold Sp.at;rw[ZB,h,Qb,Sp.encs_app,Zd];simp[zA5]
theorem Sp.st_succ {k:Nat} {c:Int} (h:z[k]?=some c):Sp.st p z (k+1)=Sp.step p (Sp.st p z k) c:=Sp.run_snoc p h
theorem Sp.st_ne {k:Nat} (h0:0<k) (h:k≤z.length):(Sp.st p z k).2≠[]:=fun e=>by
 have:=Sp.run_nil p e;rw[←List.length_eq_zero_iff,Zq]at this;omega
theorem Sp.out_len (s:List (List Int) × List Int):∀l:List Int,(Sp.run p s l).1.length≤s.1.length+l.length
 | []=>Za _
 | c::l=>by
   have h:=Sp.out_len (Sp.step p s c) l;have h2:(Sp.step p s c).1.length≤s.1.length+1:=by unfold Sp.step;split <;> simp
   show (Sp.run p (Sp.step p s c) l).1.length≤_;rw[ZE];omega
theorem Sp.at_pos {k:Nat} (h0:0<k) (h:k≤z.length):0<Sp.at z k:=by
 obtain⟨c,hc⟩:∃c,z[k-1]?=some c:=⟨_,Zb (by omega)⟩;have:=Sp.at_succ z hc;have h3:=Sp.enc_pos c;rw[show k-1+1=k by omega]at this;omega
end
theorem Sp.cut_str {s:ByteArray} {z:List Int} (hs:s.data.toList=zA5 z) (p:Int→Bool) (k:Nat):s.extract (Sp.fr p z k) (Sp.at z k)=⟨(zA5 (Sp.st p z k).2).toArray⟩:=by
 apply Qz
 apply Array.toList_inj.1
 have h1:=Sp.at_eq p z k
 have h2:zA5 z=zA5 (Sp.st p z k).1.flatten++(zA5 (Sp.st p z k).2++zA5 (z.drop k)):=by
  rw[←ZC,←Sp.encs_app,←Sp.st_flat,←Sp.encs_app,ZF]
 rw[Lib.extract_data,hs,h2];show _=zA5 (Sp.st p z k).2;rw[show Sp.at z k-Sp.fr p z k=(zA5 (Sp.st p z k).2).length by omega];unfold Sp.fr;rw[Xv,QS]
theorem Sp.dec_next {s:ByteArray} {z:List Int} (hs:s.data.toList=zA5 z) (hz:∀c∈z,C.isC c=true) {k:Nat} {c:Int} (hc:z[k]?=some c):Utf8.decode s (Sp.at z k)=(c.toNat,(zAl c).length)∧Sp.at z k<s.size∧(c.toNat:Int)=c:=by
 obtain⟨hk,ae⟩:=List.getElem?_eq_some_iff.1 hc;have aa:=hz c (Zn hc);unfold C.isC at aa;simp only[Zp]at aa
 have h2:zA5 z=zA5 (z.take k)++(zAl c++zA5 (z.drop (k+1))):=by
  conv=>lhs;rw[←ZF k z,ZM hk,ae,Sp.encs_app]
  simp[zA5]
 have h3:s.data.toList.length=s.size:=by simp
 have h4:=Sp.enc_pos c;rw[hs,h2,Zd,Zd]at h3;refine⟨U.dec_at s (zA5 (z.take k)) (zA5 (z.drop (k+1))) c (hs.trans h2) (by omega) (by omega) (by omega),?_,by omega⟩;unfold Sp.at;omega
theorem Sp.parts_any (v:Value) (T:List Rw.Row) (S:List Int) (s:ByteArray) (z:List Int) (w:World) (ok:Ud.Ok T S) (h:Ud.Is w v T S) (hH:Heads w) (hs:s.data.toList=zA5 z) (hz:∀c∈z,C.isC c=true) (hl:z.length≤100000) :
 Calls prog 32 #[v,.string s] w (Sp.RetParts (Sp.cut (zEr T S) z) w):=by
 obtain⟨i0,cg,cc,b7,b6⟩:=Z7 Rw.infoStr
 have bw:s.size=Sp.at z z.length:=by
  unfold Sp.at;rw[Qu,←hs];simp
 have cn:s.size≤400000:=by
  have:=zGt z;rw[bw];unfold Sp.at;rw[List.take_length];omega
 have hV:=zNG s w (by simp only[maxLen];omega) hH z [] ⟨by simpa using hs,hz,rfl⟩;obtain⟨p,hp⟩:∃p,zEr T S=p:=⟨_,rfl⟩;have b3:=hy' (fun (c:Int) W (hW:Below w.heap.size w W)=>Sp.safe_any v T S c W ok (h.below hW));rw[hp]at b3;rw[hp];obtain⟨pb,rfl,hpb⟩:=h.form;have HS:=hy' hs;have HZ:=hy' hz;have cr:=hy' bw;clear bw hs hz ok h hH hp;go_enter func32,ntmps32;go_wp2_with fail;refine hV.mono ?_;rintro e w1 ⟨rfl,ch⟩;have bk:=hy' ch;have cx:U.vB []=true:=rfl;have bb:Hy (w.heap.size≤w1.heap.size+1):=hy' (Ka bk.o.size);clear hV ch;go_wp2_with fail;obtain⟨it,hit⟩:∃it,w1.heap.size=it:=⟨_,rfl⟩;rw[hit]at bb ⊢;go_loopw [8,9] (fun vo vf wr=>∃k:Nat,k≤z.length∧(∃n,(Sp.st p z k).1.length=n∧wr.ownsRow (it+1) 9 1 vo n (Sp.vs (Sp.st p z k).1))∧vf=.int .i64 (Sp.fr p z k)∧wr.heap[it]?=some (.stringIter s (Sp.at z k))∧Below w.heap.size w wr) (fun _ _ w'=>s.size-w'.iterPos it)
 case atStart=>exact⟨0,ZG _,⟨0,rfl,ZI _ _ _ _⟩,rfl,by rw[←hit];exact ZS w1 _,(bk.o).alloc bk.o.size _⟩
 obtain⟨k,hk,⟨n,hn,af⟩,rfl,aa,aw⟩:=hrel;obtain⟨w2,rfl⟩:∃w2:World,w2=wr:=⟨_,rfl⟩;obtain⟨A,c0,rfl⟩:=zA2 af
 have cv:n≤k:=by
  have:=Sp.out_len p ([],[]) (z.take k);rw[Zq]at this;unfold Sp.st at hn;simp only[Z2]at this;omega
 have ah:=Sp.at_eq p z k;have hcs:=Sp.cut_str HS.o p k;have b2:it+1≤w2.heap.size:=zCI aa;have aj:∀x∈(Sp.st p z k).2,C.isC x=true:=fun x hx=>HZ.o x (Z5 (by rw[Sp.st_flat p z k];exact XJ _ hx))
 have av:Sp.vs ((Sp.st p z k).1++[(Sp.st p z k).2])=Sp.vs (Sp.st p z k).1++[.string ⟨(zA5 (Sp.st p z k).2).toArray⟩]:=by
  unfold Sp.vs;rw[ZK,Xo,zCe aj]
 by_cases hlt:k<z.length
 rotate_left
 · obtain rfl:k=z.length:=by omega
   have ag:Sp.cut p z=Sp.fin (Sp.st p z z.length):=by unfold Sp.cut Sp.st;rw[List.take_length]
   have br:=cr.o;rw[←br]at aa ah hcs;have a7:∀ty,(Instr.next (.pointer (some ⟨it,0,none⟩)) true ty).run prog w2=_:=fun ty=>Lib.run_next_end_at w2 it s s.size ty aa (Q3 _)
   obtain⟨f,hf⟩:∃q,Sp.fr p z z.length=q:=⟨_,rfl⟩;rw[hf]at ah hcs ⊢;obtain⟨st,ai⟩:∃q,Sp.st p z z.length=q:=⟨_,rfl⟩;rw[ai]at ag ah hcs hn af av;have b4:=hy' ag;have bm:=hy' av;have HN:=hy' hn;have bc:=hy' af;have cb:=hy' aw;have bz:=hy' hcs;have ct:=hy' ai;have cu:(s.size:Int)=(s.size:Nat):=rfl
   by_cases h0:st.2=[]
   · have cp:¬(f:Int)<s.size:=by rw[h0]at ah;simp[zA5]at ah;omega
     have H0:=hy' h0;clear ag av hn af aw hcs ai aa ah h0 br hf aj;go_wp2_with fail;go_ret2;unfold Sp.RetParts;rw[b4.o];unfold Sp.fin;rw[Zo H0.o,HN.o];exact⟨A,c0,rfl,zAw bc.o bb.o,cb.o⟩
   have cp:(f:Int)<s.size:=by
    have:(zA5 st.2).length≠0:=by
     cases h1:st.2 with
     | nil=>exact absurd h1 h0
     | cons c l =>
       have:=Sp.enc_pos c;rw[zAs,Zd];omega
    omega
   have cj:f≤s.size:=by omega
   have H0:=hy' h0;clear ag av hn af aw hcs ai aa ah h0 br hf aj;go_wp2_with (first|(at_builtin;refine zAj _ rfl _ _ _ rfl (it+1) 9 i0 _ 16 underlying55 cg cc b7 b6 rfl _ n _ rfl bc.o _ rfl rfl (by simp only[maxLen];omega) (by omega) b2 ?_;intro v1 w5 ae bg)|fail);obtain⟨A5,c5,rfl⟩:=zA2 ae;go_wp2_with fail;go_ret2;unfold Sp.RetParts;rw[b4.o];unfold Sp.fin;rw[Zl H0.o,bm.o,Zd,HN.o,←bz.o];exact⟨A5,c5,rfl,zAw ae bb.o,cb.o.trans (bg.mono bb.o)⟩
 obtain⟨c,hc⟩:∃c,z[k]?=some c:=⟨_,Zb hlt⟩;obtain⟨a8,bh,cd⟩:=Sp.dec_next HS.o HZ.o hc;have a7:∀ty,(Instr.next (.pointer (some ⟨it,0,none⟩)) true ty).run prog w2=_:=fun ty=>Lib.run_next_any_at w2 it s (Sp.at z k) ty aa bh
 have has:=Sp.at_succ z hc;simp only[a8,cd]at a7;rw[←has]at a7;have ai:=Sp.st_succ p z hc;have hne:0<k→(Sp.st p z k).2≠[]:=fun h0=>Sp.st_ne p z h0 hk
 have bf:0<k→0<Sp.at z k:=fun h0=>Sp.at_pos z h0 hk
 have ha0:k=0→Sp.at z k=0:=fun h0=>by rw[h0];rfl
 have bq:C.isC c=true:=HZ.o c (Zn hc)
 have ar:(Sp.st p z k).2≠[]→p c=true→Sp.fr p z (k+1)=Sp.at z k:=fun h1 h2=>by
  unfold Sp.fr Sp.at;rw[ai];unfold Sp.step;rw[Zo ⟨h1,h2⟩,Sp.st_flat p z k];simp
 have bx:¬((Sp.st p z k).2≠[]∧p c=true)→Sp.fr p z (k+1)=Sp.fr p z k∧(Sp.st p z (k+1)).1=(Sp.st p z k).1:=fun h1=>by
  unfold Sp.fr;rw[ai];unfold Sp.step;rw[Zl h1];exact⟨rfl,rfl⟩
 have hcut:(Sp.st p z k).2≠[]→p c=true→(Sp.st p z (k+1)).1=(Sp.st p z k).1++[(Sp.st p z k).2]:=fun h1 h2=>by
  rw[ai];unfold Sp.step;rw[Zo ⟨h1,h2⟩]
 obtain⟨q,hq⟩:∃q,Sp.at z k=q:=⟨_,rfl⟩;obtain⟨q2,bo⟩:∃q,Sp.at z (k+1)=q:=⟨_,rfl⟩;obtain⟨f,hf⟩:∃q,Sp.fr p z k=q:=⟨_,rfl⟩;obtain⟨w3,ay⟩:∃w3,w2.iterAt it s q2=w3:=⟨_,rfl⟩;rw[hq,bo,ay]at a7;rw[hq]at ar bf ha0 bh ah hcs;rw[hf]at ah hcs bx ⊢;have bl:Hy (w2.iterPos it=q):=hy' (by unfold World.iterPos;rw[aa,hq]);have ap:w3.ownsRow (it+1) 9 1 (.slice A n c0) n (Sp.vs (Sp.st p z k).1):=by rw[←ay];exact Sp.own_iter af (ZP _) s q2
 have ak:w3.heap[it]?=some (.stringIter s q2):=by rw[←ay];exact Lib.iterAt_heap w2 it s _ q2 aa
 have ba:Below w.heap.size w w3:=by rw[←ay];exact Lib.below_iterAt aw (by have:=bk.o.size;omega) s q2
 have cf:it+1≤w3.heap.size:=zCI ak;have ck:w3.iterPos it=q2:=by unfold World.iterPos;rw[ak]
 have b8:q<q2:=by have:=Sp.enc_pos c;omega
 have ao:=hy' ap;have a6:=hy' ak;have bi:=hy' ba;have bn:=hy' ar;have b9:=hy' bx;have bs:=hy' hcut;have bm:=hy' av;have cm:=hy' hne;have bz:=hy' hcs;have HN:=hy' hn;have bu:=hy' bo;have b1:=hy' bh;have bt:=hy' b8;have cy:f≤q:=by omega
 have cw:q≤s.size:=by omega
 clear ap ak ba ar bx hcut av hne hcs hn bo hq hf ay ai has a8 cd af aa aw bq aj hc ah b8 bh
 by_cases h0:0<k
 · have bp:=bf h0;have gq:(q:Int) > 0:=by omega
   have a1:=hy' (cm.o h0);clear bf ha0 bp;go_wp2_with fail;refine (b3.o c w3 bi.o).mono ?_;rintro e w4 ⟨rfl,ax⟩;have b5:=hy' (bi.o.trans (ax.mono bi.o.size));have aq:=hy' (zA4 ao.o ax (Za _));have au:=hy' (Sp.iter_below ax (Zg (ZP _) cf) a6.o);have cq:=Zi cf ax.size;clear ax a7;rcases hpc:p c with _|_
   · have bj:=hy' hpc;clear hpc;go_wp2_with fail;go_roundw
     case rel =>
      obtain⟨g1,g2⟩:=b9.o (fun h=>by have:=bj.o;rw[h.2]at this;cases this);exact⟨k+1,by omega,⟨n,by rw[g2];exact HN.o,by rw[g2];exact aq.o⟩,by rw[g1],by rw[bu.o];exact au.o,b5.o⟩
     show s.size-w4.iterPos it<s.size-w2.iterPos it;rw[bl.o,show w4.iterPos it=q2 by unfold World.iterPos;rw[au.o]];have h2:=bt.o;have h3:=b1.o;omega
   have bj:=hy' hpc;clear hpc;go_wp2_with (first|(at_builtin;refine zAj _ rfl _ _ _ rfl (it+1) 9 i0 _ 16 underlying55 cg cc b7 b6 rfl _ n _ rfl aq.o _ rfl rfl (by simp only[maxLen];omega) (by omega) cq ?_;intro v1 w5 ae bg)|fail);obtain⟨A5,c5,rfl⟩:=zA2 ae;have az:=hy' (Sp.iter_below bg (ZP _) au.o);go_roundw
   case rel =>
    have g2:=bs.o a1.o bj.o;exact⟨k+1,by omega,⟨n+1,by rw[g2,Zd,HN.o];rfl,by rw[g2,bm.o,←bz.o];exact ae⟩,by rw[bn.o a1.o bj.o],by rw[bu.o];exact az.o,b5.o.trans (bg.mono bb.o)⟩
   show s.size-w5.iterPos it<s.size-w2.iterPos it;rw[bl.o,show w5.iterPos it=q2 by unfold World.iterPos;rw[az.o]];have h2:=bt.o;have h3:=b1.o;omega
 obtain rfl:k=0:=by omega
 have bp:=ha0 rfl;have gq:¬(q:Int) > 0:=by omega
 clear bf ha0 bp;go_wp2_with fail;go_roundw
 case rel =>
  obtain⟨g1,g2⟩:=b9.o (fun h=>h.1 rfl);exact⟨0+1,by omega,⟨n,by rw[g2];exact HN.o,by rw[g2];exact ao.o⟩,by rw[g1],by rw[bu.o];exact a6.o,bi.o⟩
 show s.size-w3.iterPos it<s.size-w2.iterPos it;rw[bl.o,ck];have h2:=bt.o;have h3:=b1.o;omega
end Go.Proofs.YtddbccflcekdpaaGreatDoor
