/- The law's pieces: a text cut at places, by walking its text. -/
import Derived.Test.YtdbpjmfflofadaaGreatDoorRwParse
set_option maxRecDepth 100000
set_option maxHeartbeats 2000000
set_option linter.unusedVariables false
set_option linter.unusedSimpArgs false
set_option linter.unusedSectionVars false
namespace Go.Proofs.YtdbpjmfflofadaaGreatDoor
open Go.Proofs.Tryz
open Go.RowKit
theorem zSJ:(prog.info? 4).map (fun i=>(i.zero,i.size,i.bytes))=some (some (.bool false),1,1):=by kernel_rfl
def Sm.vs (P:List (List UInt8)):List Value:=P.map fun q=>Value.string ⟨q.toArray⟩
def zFm (l:List UInt8) (w:World) (e:Ending) (w':World):Prop :=
 ∃(P:List (List UInt8)) (A:Option Addr) (c:Nat),e=.returned (.slice A P.length c)∧P.flatten=l∧P.length≤l.length∧w'.ownsRow w.heap.size 9 1 (.slice A P.length c) P.length (Sm.vs P)∧Below w.heap.size w w'
theorem zNB (s:ByteArray) (a b:Nat):(⟨((s.data.toList.drop a).take (b-a)).toArray⟩:ByteArray)=s.extract a b:=by
 apply Xw
 apply Array.toList_inj.1
 rw[Lib.extract_data]
theorem zNC (m:Nat):∀u∈(madeCells (Value.bool false).cells (m*1)).toList,∃b,u=.bool b:=by
 intro u hu;rw[Y0]at hu;simp[madeCells,Value.cells]at hu;obtain⟨a,_,h⟩:=hu;rw[show a%1=0 by omega]at h;exact⟨false,h.symm⟩
theorem zS5 {w:World} {base g n:Nat} {t:TypeId} {xs:List Value} (h:w.ownsRow base t 1 (.slice (some ⟨g,0,none⟩) n n) n xs):Rw.At w g t xs∧xs.length=n:=by
 rcases h.2 with ⟨hv,_⟩|⟨g',aa,ae,hv,hg,hb,h1,h2,h3,h4⟩
 · cases hv
 simp only[ZX,Zg,YH,Yl,Qc]at hv;obtain⟨rfl,rfl⟩:=hv;refine⟨?_,by rw[h.1,Y0]⟩;unfold Rw.At;rw[←h4,h3.symm,Zi (by rw[Xk];exact Za _)];simpa using hb
theorem zL1 (P:List (List UInt8)) (s:ByteArray) (a b:Nat):Sm.vs P++[.string (s.extract a b)]=Sm.vs (P++[(s.data.toList.drop a).take (b-a)]):=by
 unfold Sm.vs;rw[ZL,←zNB];rfl
theorem zP9 {L:List Value} (h:∀u∈L,∃b,u=.bool b) (m:Nat):∀u∈L.set m (.bool true),∃b,u=.bool b:=fun u hu=>by
 rcases List.mem_or_eq_of_mem_set hu with h1|h1
 · exact h u h1
 exact⟨true,h1⟩
theorem zQK {w w':World} (h:Below w.heap.size w w') (i:Nat) (v:Value):Below w.heap.size w (w'.setCell ⟨w.heap.size,i,none⟩ v):=h.grown (Rw.grown_set _ _ _) h.size (by intro k hk;simp only[Zg]at hk;omega)
theorem Sm.own_grown {w w':World} {base g n c:Nat} {A:Option Addr} {t:TypeId} {xs:List Value} (h:w.ownsRow base t 1 (.slice A n c) n xs) (hg:w.grownBy w' (some g)) (hb:g<base):w'.ownsRow base t 1 (.slice A n c) n xs:=by
 refine⟨h.1,?_⟩;rcases h.2 with h1|⟨b,cap,aa,hv,ae,hh,hr⟩
 · exact .inl h1
 exact .inr ⟨b,cap,aa,hv,ae,(hg.block b (zCF hh) (by intro e;simp only[Zg]at e;omega)).trans hh,hr⟩
theorem zND (l:List UInt8) {P:List (List UInt8)} {a i:Nat} (h:P.flatten=l.take a) (aa:a≤i):(P++[(l.drop a).take (i-a)]).flatten=l.take i:=by
 rw[List.flatten_append,h];simp only[Xi,Ki,ZC];rw[←XQ,show a+(i-a)=i by omega]
theorem zGZ (s:ByteArray) (CA:Option Addr) (cn cc:Nat) (cs:List Int) (w:World) (hs:s.size≤100000) (bz:cs.length=cn) (cd:cn≤maxLen) (hC:Sl w w.heap.size CA (cs.map (Value.int .i64))) :
 Calls prog 16 #[.string s,.slice CA cn cc] w (zFm s.data.toList w):=by
 obtain⟨ib,b6,b4,b3,b7⟩:=Z9 zSJ;obtain⟨i0,bl,bo,bn,bg⟩:=Z9 zHC;obtain⟨n,hn⟩:∃n,s.size=n:=⟨_,rfl⟩;have bh:s.data.toList.length=n:=by rw[←hn];simp
 obtain⟨B,hB⟩:∃B,w.heap.size=B:=⟨_,rfl⟩;have HN:=hy' hn;have bj:=hy' bh;have b8:=hy' bz;have HC:=hy' hC;have ak:=hy' hB;unfold maxLen at cd;have ch:n≤100000:=by rw[←hn];exact hs
 clear hs bz hC bh hB;go_enter func16,ntmps16;go_upto_region 2 with (first|(at_make;refine Kj _ rfl _ _ _ rfl w.heap.size 4 ib _ 1 underlying77 b6 b4 b3 _ _ _ _ (n+1) rfl rfl (by go_num) (by go_num) (by rw[b7];omega) (by simp only[maxLen];omega) (Za _) ?_;intro w1 aa bq)|fail)
 obtain⟨ag,ah⟩:=zS5 aa;have bi:=XF (Zd w.heap.size w) bq (Za _) (by intro k hk;cases hk);have az:=zNC (n+1);obtain⟨L0,bp⟩:∃L,(madeCells (Value.bool false).cells ((n+1)*1)).toList=L:=⟨_,rfl⟩;rw[bp]at ag ah az;have bb:=hy' ag;have bc:=hy' ah;have b1:=hy' bi;have cb:=hy' az;clear aa ag ah az bp bq bi;obtain⟨B,hB⟩:∃B,w.heap.size=B:=⟨_,rfl⟩;have ak:=hy' hB;rw[hB];clear hB;go_wp2_with fail;go_loopw [7,17] (fun _ vi wr=>∃(k:Nat) (L:List Value),k≤cn∧vi=.int .i64 k∧L.length=n+1∧(∀u∈L,∃b,u=.bool b)∧Rw.At wr B 4 L∧Below w.heap.size w wr) (fun _ vi _=>cn-(intOf vi).toNat)
 case atStart=>exact⟨0,L0,Zq _,rfl,bc.o,cb.o,by rw[←ak.o];exact bb.o,b1.o⟩
 obtain⟨k,L,hk,rfl,bk,bt,aq,ap⟩:=hrel;have ar:=hy' bk;have aw:=hy' bt;have ae:=hy' aq;have ao:=hy' ap;clear bk bt aq ap
 by_cases hlt:k<cn
 · have kI:(k:Int)<cn:=by omega
   obtain⟨x,hx⟩:∃x,cs[k]?=some x:=⟨_,Zb (by rw[b8.o];exact hlt)⟩;obtain⟨b,o,rfl,b9,hcell⟩:=Sl.ints (HC.o.below ao.o (Za _)) hx;have cf:b<wr.heap.size:=Zf b9 ao.o.size;have cl:=Rw.At.lt ae.o;clear hx
   by_cases h0:0<x
   · by_cases hn:x<n
     · obtain⟨m,rfl⟩:∃m:Nat,x=m:=⟨x.toNat,by omega⟩;have mI:(m:Int)<(n:Int)+1:=by omega
       have m0:(0:Int)≤m:=by omega
       have hu:∃u,L[m]?=some u:=⟨_,Zb (by rw[ar.o];omega)⟩;obtain⟨u,hu⟩:=hu;have cm:=Rw.At.cell ae.o m hu;have fm:=Rw.At.frozen ae.o m;have au:=Rw.At.set ae.o m (.bool true);have a1:=hy' au;clear au hu;go_wp2_with fail;exact⟨⟨k+1,L.set m (.bool true),by omega,by first|rfl|go_num,by rw[YF];exact ar.o,zP9 aw.o m,a1.o,by rw[←ak.o];exact zQK ao.o m _⟩,by simp[intOf];omega⟩
     go_wp2_with fail;exact⟨⟨k+1,L,by omega,by first|rfl|go_num,ar.o,aw.o,ae.o,ao.o⟩,by simp[intOf];omega⟩
   go_wp2_with fail;exact⟨⟨k+1,L,by omega,by first|rfl|go_num,ar.o,aw.o,ae.o,ao.o⟩,by simp[intOf];omega⟩
 obtain rfl:k=cn:=by omega
 have kI:¬(k:Int)<k:=by omega
 obtain⟨w2,rfl⟩:∃q:World,q=wr:=⟨_,rfl⟩;have ax:Hy (w.heap.size<w2.heap.size):=hy' (by rw[ak.o];exact Rw.At.lt ae.o);go_wp2_with fail;have bs:=hy' ao.o;clear kI;go_loopw [8,9,10] (fun vo vf vi wr=>∃(P:List (List UInt8)) (Ao:Option Addr) (co a i:Nat),vo=.slice Ao P.length co∧vf=.int .i64 a∧vi=.int .i64 i∧a<i∧i≤n+1∧(n<i→a=n)∧P.flatten=s.data.toList.take a∧P.length≤a∧wr.ownsRow w2.heap.size 9 1 (.slice Ao P.length co) P.length (Sm.vs P)∧Below w2.heap.size w2 wr) (fun _ _ vi _=>n+1-(intOf vi).toNat)
 case atStart=>exact⟨[],none,0,0,1,rfl,rfl,rfl,by omega,by omega,fun h=>by omega,by simp,by simp,ZG _ _ _ _,Zd _ _⟩
 obtain⟨P,Ao,co,a,i,rfl,rfl,rfl,b5,cg,ai,ba,bx,aa,ap⟩:=hrel;have a8:=hy' ba;have ay:=hy' ai;have aj:=hy' ap;have bm:=hy' aa;have a0:(0:Int)≤a:=by omega
 by_cases hle:i≤n
 rotate_left
 · have iI:¬(i:Int)≤n:=by omega
   obtain rfl:a=n:=ay.o (by omega);clear aa ba ai ap;go_wp2_with fail;go_ret;exact⟨P,Ao,co,rfl,by rw[a8.o,Zi (by rw[bj.o];exact Za _)],by rw[bj.o];exact bx,zB0 bm.o (by rw[ak.o];exact Z5 (Rw.At.lt ae.o)),by first|(rw[←ak.o];exact bs.o.trans (aj.o.mono (Z5 ax.o)))|exact bs.o.trans (aj.o.mono (Z5 ax.o))⟩
 have iI:(i:Int)≤n:=by omega
 have cj:(0:Int)≤i:=by omega
 have aI:(a:Int)≤i:=by omega
 have iN:(i:Int)<(n:Int)+1:=by omega
 have aq:=Rw.At.below' ae.o aj.o (by rw[←ak.o];exact ax.o);obtain⟨u,hu⟩:∃u,L[i]?=some u:=⟨_,Zb (by rw[ar.o];omega)⟩;obtain⟨bu,rfl⟩:=aw.o u (Zj hu);have ci:=Rw.At.cell aq i hu;have cl:=Rw.At.lt aq;have bw:=aj.o.size;have bf:=zND s.data.toList a8.o (Z5 b5);have br:=hy' bf;clear aq hu ba ai ap bf;cases bu
 · by_cases hie:i=n
   · have b2:(i:Int)=n:=by omega
     clear iN;subst hie;go_wp2_with (at_builtin;refine zAg _ rfl _ _ _ rfl w2.heap.size 9 i0 _ 16 underlying44 bl bo bn bg rfl _ P.length _ rfl aa _ rfl rfl (by simp only[maxLen];omega) (by omega) bw ?_;intro v1 u2 af av;obtain⟨A1,c1,rfl⟩:=zA3 af;rw[zL1]at af;have a7:=hy' (aj.o.trans av);have a6:=hy' af;clear af av);exact⟨⟨P++[(s.data.toList.drop a).take (i-a)],_,_,i,i+1,by first|rfl|(rw[Zc];rfl),rfl,by first|rfl|go_num,by omega,by omega,fun _=>rfl,br.o,(by rw[Zc,Z8];omega),(by rw[Zc];exact a6.o),a7.o⟩,by first|(simp[intOf];done)|(simp[intOf];omega)⟩
   have b2:¬(i:Int)=n:=by omega
   go_wp2_with fail;exact⟨⟨P,Ao,co,a,i+1,rfl,rfl,by first|rfl|go_num,by omega,by omega,fun h=>by omega,a8.o,bx,bm.o,aj.o⟩,by simp[intOf];omega⟩
 go_wp2_with (at_builtin;refine zAg _ rfl _ _ _ rfl w2.heap.size 9 i0 _ 16 underlying44 bl bo bn bg rfl _ P.length _ rfl aa _ rfl rfl (by simp only[maxLen];omega) (by omega) bw ?_;intro v1 u2 af av;obtain⟨A1,c1,rfl⟩:=zA3 af;rw[zL1]at af;have a7:=hy' (aj.o.trans av);have a6:=hy' af;clear af av);exact⟨⟨P++[(s.data.toList.drop a).take (i-a)],_,_,i,i+1,by first|rfl|(rw[Zc];rfl),rfl,by first|rfl|go_num,by omega,by omega,fun _=>by omega,br.o,(by rw[Zc,Z8];omega),(by rw[Zc];exact a6.o),a7.o⟩,by first|(simp[intOf];done)|(simp[intOf];omega)⟩
end Go.Proofs.YtdbpjmfflofadaaGreatDoor
