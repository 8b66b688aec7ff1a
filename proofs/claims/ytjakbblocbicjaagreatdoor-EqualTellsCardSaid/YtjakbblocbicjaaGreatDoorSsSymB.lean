/- The characters whose full decomposition begins so, by walking the text. -/
import Derived.Test.YtjakbblocbicjaaGreatDoorSoOwn
import Derived.Test.YtjakbblocbicjaaGreatDoorStage
set_option maxRecDepth 100000
set_option maxHeartbeats 4000000
set_option linter.unusedVariables false
set_option linter.unusedSimpArgs false
namespace Go.Proofs.YtjakbblocbicjaaGreatDoor
open Go.Proofs.Tryz
section
open Go.RowKit
theorem zAS {T:List Rw.Row} {S:List Int} (ok:Ud.Ok T S) (c:Int):(Ud.full T c).length≤32:=by
 obtain⟨l,hl⟩:=zDf ok.chk c;unfold Ud.full;rw[hl];exact (zCq hl).2.2.1
theorem Ud.full_any (v:Value) (T:List Rw.Row) (S:List Int) (c:Int) (w:World) (ok:Ud.Ok T S) (h:Ud.Is w v T S) (h3 : -2147483648≤c) (h4:c≤2147483647) :
 Calls prog 51 #[v,.int .i32 c] w (RetInts .i32 (Ud.full T c) w):=by
 have hS:=Hg.split_any c w h3 h4;obtain⟨s,hs⟩:∃s,zA6 c=s:=⟨_,rfl⟩;rw[hs]at hS
 by_cases hne:s=[]
 · subst hne;have hF:∀W,Below w.heap.size w W→Calls prog 77 #[v,.int .i32 c] W (Ud.RetFind T S c W):=fun W hW=>Ud.find_any v T S c W ok (h.below hW)
   have hk:=zKG hs;have hle:=zAS ok c;have hA:zEF T c=true→Ud.fl T c=Ud.full T c:=fun hz=>by unfold Ud.fl;rw[if_pos hz]
   have hB:zEF T c=false→Ud.full T c=[c]:=fun hz=>by
    refine zNf ?_ hk;unfold zEF at hz;rw[ZX]at hz;exact ZG (by omega)
   obtain⟨rn,aw⟩:∃z,(zAV T c).length=z:=⟨_,rfl⟩;obtain⟨z,hz⟩:∃z,zEF T c=z:=⟨_,rfl⟩;obtain⟨fl,ap⟩:∃z,Ud.fl T c=z:=⟨_,rfl⟩;obtain⟨pb,hpb⟩:∃z,zJZ T S c=z:=⟨_,rfl⟩;obtain⟨l,hl⟩:∃z,Ud.full T c=z:=⟨_,rfl⟩;unfold Ud.RetFind at hF;rw[hz,ap,aw,hpb]at hF;rw[hl]at hle ⊢;rw[hz,ap,hl]at hA;rw[hz,hl]at hB;have HF:=hy' hF;have HA:=hy' hA;have HB:=hy' hB;clear hF hz ap hl hpb h ok h3 h4 hA hB hs hk aw;go_enter func51,ntmps51;go_wp2_with fail;refine hS.mono ?_;rintro e w0 ⟨A,cc,rfl,_,aa⟩;have au:=HF.o w0 aa;have ag:=hy' aa;clear hS aa HF;go_wp2_with fail;refine au.mono ?_;rintro e w1 ⟨m,mc,f,fc,rfl,_,af,av⟩;have ai:Below w1.heap.size w1 (w1.alloc (.cells #[.slice m rn mc,.slice f fl.length fc,.bool pb] 126)):=(Zc _ _).alloc (Za _) _;have hn:=Rw.At.new w1 126 [.slice m rn mc,.slice f fl.length fc,.bool pb];have y1:=hn.cell 1 rfl;have aq:=hy' (ag.o.trans (av.mono ag.o.size));have ah:=hy' (aq.o.trans (ai.mono aq.o.size));have ak:=hy' (af.below ai ai.size);clear av hn af ai au;cases z
   · have aj:=HB.o rfl;clear HB;subst aj;clear y1 HA;go_wp2_with fail;go_ret;have hh:=ZT (w1.alloc (.cells #[.slice m rn mc,.slice f fl.length fc,.bool pb] 126)) (.cells #[.int .i32 c] 21);rw[show (w1.alloc (.cells #[.slice m rn mc,.slice f fl.length fc,.bool pb] 126)).heap.size=w1.heap.size+1 by simp]at hh;exact⟨_,_,rfl,Sl.lit rfl _ _ hh,ah.o.alloc ah.o.size _⟩
   have aj:=HA.o rfl;subst aj;have hC:=zBY f fl.length fc _ fl _ rfl (by omega) (Za _) ak.o;clear HA HB;go_wp2_with fail;refine hC.mono ?_;rintro e w2 ⟨A',c',rfl,ae,ar⟩;have HO:=hy' (Sl.of_own ae);have ax:=hy' (ah.o.trans (ar.mono ah.o.size));clear ae ar hC y1;go_wp2_with fail;go_ret;exact⟨A',c',rfl,HO.o,ax.o⟩
 have ao:=zKF ok (c:=c) (by rw[hs];exact hne);rw[hs]at ao;rw[ao]
 have hpos:(0:Int)<s.length:=by
  have:=List.length_pos_iff.2 hne;omega
 clear hs hne ao h ok h3 h4;go_enter func51,ntmps51;go_wp2_with fail;refine hS.mono ?_;rintro e w0 ⟨A,cc,rfl,af,aa⟩;have ak:=hy' af;have ag:=hy' aa;clear hS aa af;go_wp2_with fail;go_ret;exact⟨A,cc,rfl,ak.o,ag.o⟩
def Ud.joinK (T:List Rw.Row) (S:List Int) (a b:Int):Int × Bool :=
 if (Hg.joinK a b).2=true then ((Hg.joinK a b).1,true) else ((zCc T (C.mem S) T a b).getD 0,(zCc T (C.mem S) T a b).isSome)
theorem Ud.join_any (v:Value) (T:List Rw.Row) (S:List Int) (a c:Int) (w:World) (ok:Ud.Ok T S) (h:Ud.Is w v T S) (h1 : -2147483648≤a) (h2:a≤2147483647) (h3 : -2147483648≤c) (h4:c≤2147483647) :
 Calls prog 90 #[v,.int .i32 a,.int .i32 c] w fun e w'=>e=.returned (.tuple #[.int .i32 (Ud.joinK T S a c).1,.bool (Ud.joinK T S a c).2])∧Below w.heap.size w w':=by
 have hJ:=Hg.join_any a c w h1 h2 h3 h4;have hj:Ud.joinK T S a c=if (Hg.joinK a c).2=true then ((Hg.joinK a c).1,true) else ((zCc T (C.mem S) T a c).getD 0,(zCc T (C.mem S) T a c).isSome):=rfl
 rcases hjk:Hg.joinK a c with ⟨x,is⟩
 rw[hjk]at hj hJ;cases is
 · rw[Zk (by simp)]at hj;rw[hj];obtain⟨b,A0,c0,XA,xc,pc,pp,A3,c3,mb,jb,A4,c4,A5,c5,A6,c6,es,rfl,ae,_,_,ai,aj,aa,_,af,_⟩:=h.is;obtain⟨F,ag,ah⟩:=af;have hl:=zRh ag ⟨h1,h2⟩ ⟨h3,h4⟩;have e0:F (zEv a c)=(zCc T (C.mem S) T a c).map (Value.int .i32):=ah a c;rw[e0]at hl;have z6:=ae.cell 6 rfl;have ak:=ae.lt;obtain⟨o,ho⟩:∃o,zCc T (C.mem S) T a c=o:=⟨_,rfl⟩;rw[ho]at hl ⊢;have e1:(o.map (Value.int .i32)).getD (.int .i32 0)=.int .i32 (o.getD 0):=by cases o <;> rfl
   have e2:(o.map (Value.int .i32)).isSome=o.isSome:=by cases o <;> rfl
   rw[e1,e2]at hl;obtain⟨u,hu⟩:∃u,o.getD 0=u:=⟨_,rfl⟩;obtain⟨t,ht⟩:∃t,o.isSome=t:=⟨_,rfl⟩;rw[hu,ht]at hl ⊢;clear ag ah e0 e1 e2 ho hu ht aa ai aj ae h ok hj hjk h1 h2 h3 h4;go_enter func90,ntmps90;go_wp2_with fail;refine hJ.mono ?_;rintro e w0 ⟨rfl,rfl⟩;clear hJ;go_wp2_with fail;go_ret2;exact⟨rfl,Zc _ _⟩
 rw[Zm rfl]at hj;rw[hj];clear h ok hj hjk h1 h2 h3 h4;go_enter func90,ntmps90;go_wp2_with fail;refine hJ.mono ?_;rintro e w0 ⟨rfl,rfl⟩;clear hJ;go_wp2_with fail;go_ret2;exact⟨rfl,Zc _ _⟩
theorem zM7 (v:Value) (T:List Rw.Row) (S:List Int) (c:Int) (w:World) (ok:Ud.Ok T S) (hl:(C.chars (Ud.inn T T)).length≤1000000) (h:Ud.Is w v T S) (h3 : -2147483648≤c) (h4:c≤2147483647) :
 Calls prog 24 #[v,.int .i32 c] w fun e w'=>e=.returned (.bool (C.mem (C.chars (Ud.inn T T)) c||decide (zA2 c=2)||decide (zA2 c=3)))∧Below w.heap.size w w':=by
 obtain⟨b,A0,c0,XA,xc,pc,pp,A3,c3,mb,jb,A4,c4,A5,c5,A6,c6,es,rfl,ae,_,_,ah,ai,aa,_,af,hi,_⟩:=h.is;have hH:=zIw A4 c4 _ w.heap.size _ c w rfl hl (zBH _).1.1 (Za _) hi;have hO:=Hg.of_any c w h3 h4;have z7:=ae.cell 7 rfl;have aj:=ae.lt;obtain⟨n,hn⟩:∃n,(C.chars (Ud.inn T T)).length=n:=⟨_,rfl⟩;obtain⟨m,hm⟩:∃m,C.mem (C.chars (Ud.inn T T)) c=m:=⟨_,rfl⟩;obtain⟨k,hk⟩:∃k,zA2 c=k:=⟨_,rfl⟩;rw[hn]at z7 hH;rw[hm]at hH ⊢;rw[hk]at hO ⊢;clear af aa ah ai ae h ok hi hn hm hk h3 h4 hl;go_enter func24,ntmps24;go_wp2_with fail;refine hO.mono ?_;rintro e w0 ⟨rfl,rfl⟩;clear hO;go_wp2_with fail;refine hH.mono ?_;rintro e w1 ⟨rfl,ag⟩;have HB:=hy' ag;clear ag hH z7;cases m
 · by_cases k2:k=2
   · subst k2;go_wp2_with fail;go_ret;exact⟨rfl,HB.o⟩
   have ao:(k == 2)=false:=by simpa using k2
   by_cases k3:k=3
   · subst k3;go_wp2_with fail;go_ret;exact⟨rfl,HB.o⟩
   have ak:(k == 3)=false:=by simpa using k3
   go_wp2_with fail;go_ret;exact⟨by simp[k2,k3],HB.o⟩
 go_wp2_with fail;go_ret;exact⟨rfl,HB.o⟩
theorem zNs {w:World} {base:Nat} {e:TypeId} {size n c g j:Nat} {xs:List Value} (h:w.ownsRow base e size (.slice (some ⟨g,0,none⟩) n c) n xs) (hj:j<xs.length) (u:Value) :
 (w.setCell ⟨g,j,none⟩ u).ownsRow base e size (.slice (some ⟨g,0,none⟩) n c) n (xs.set j u):=by
 obtain⟨h1,h2⟩:=h;refine⟨by rw[Y0];exact h1,?_⟩;rcases h2 with ⟨h2,_⟩|⟨g',cap,aa,hv,hg,hc,hn,hm,hs,ht⟩
 · cases h2
 cases hv
 refine .inr ⟨g,c,aa.set! j u,rfl,hg,?_,hn,hm,by simp[hs],?_⟩
 · simp[World.setCell,YV,hc]
 rw[←ht];apply XK
 intro i;simp only[Yp,Qd,Array.toList_set!,Zr,XV];have hl:n*size≤aa.size:=by rw[hs];exact Qr _ hn
 rw[h1]at hj
 by_cases h3:j=i
 · subst h3;simp[hj,show j<aa.size by omega];omega
 simp[h3]
theorem zFh {w:World} {base:Nat} {e:TypeId} {size n c b o:Nat} {xs:List Value} (h:w.ownsRow base e size (.slice (some ⟨b,o,none⟩) n c) n xs):o=0∧base≤b∧b<w.heap.size∧∀j,w.frozen? ⟨b,j,none⟩=false:=by
 rcases h.2 with ⟨h2,_⟩|⟨g',cap,aa,hv,hg,hc,hn,hm,hs,ht⟩
 · cases h2
 cases hv
 exact⟨rfl,hg,zDt hc,fun j=>by simp[World.frozen?,hc]⟩
def C.run (a:Int) (n:Nat):List Int:=(List.range n).map fun (i:Nat)=>a+(i:Int)
theorem zPl (a:Int) (n:Nat):C.run a (n+1)=C.run a n++[a+(n:Int)]:=by
 unfold C.run;rw[List.range_succ,List.map_append];rfl
theorem C.run_len (a:Int) (n:Nat):(C.run a n).length=n:=by simp[C.run]
def zCA (rs:List (Int × Int)):List Int:=rs.flatMap fun r=>C.run r.1 (r.2-r.1+1).toNat
theorem zIJ {rs:List (Int × Int)} {i:Nat} {r:Int × Int} (h:rs[i]?=some r):zCA (rs.take (i+1))=zCA (rs.take i)++C.run r.1 (r.2-r.1+1).toNat:=by
 unfold zCA;rw[ZA,h,YK];simp
theorem zK2 (S:List Int) (aa:C.ok S):∀i,i≤(zAI S).length→((zCA ((zAI S).take i)).length:Int)=zDh S i
 | 0,_=>by simp[zCA,zRW]
 | i+1,h=>by
   obtain⟨r,hr⟩:∃r,(zAI S)[i]?=some r:=⟨_,Zb (by omega)⟩;obtain⟨b1,b2,b3,b4⟩:=zKE aa hr;rw[zIJ hr,zIt aa hr,Zd,C.run_len];have:=zK2 S aa i (by omega);omega
theorem zQs {w:World} {base:Nat} {e e':TypeId} {size n g:Nat} {v:Value} {xs:List Value} {cs:Array Value} {fr:Nat × Nat} (h:w.ownsRow base e size v n xs) (hb:w.heap[g]?=some (.cells cs e' fr)) (he:e≠e'):some g≠v.ownBlock:=by
 intro hv;rcases h.2 with ⟨rfl,_⟩|⟨g2,cap,ae,rfl,_,aa,_⟩
 · simp[Value.ownBlock]at hv
 simp only[Value.ownBlock,Zg]at hv;subst hv;rw[hb]at aa;simp only[Zg,XE]at aa;exact he aa.2.1.symm
theorem zQt {S:List Int} (aa:C.ok S) {i:Nat} (h:i≤(zAI S).length):(zCA ((zAI S).take i)).length≤1114112:=by
 have h1:=zK2 S aa i h;have h2:=(zLM aa i).2;have h3:=(zJM aa).2;omega
def zK3 (xs:List Int) (w:World) (e:Ending) (w':World):Prop :=
 ∃A c,e=.returned (.slice A xs.length c)∧w'.ownsRow w.heap.size 21 1 (.slice A xs.length c) xs.length (xs.map (Value.int .i32))∧Below w.heap.size w w'
theorem zJs (A:Option Addr) (c n B:Nat) (l:List Int) (w:World) (hn:l.length=n) (bw:n≤1000000) (a6:C.ok l) (hB:B≤w.heap.size) (hA:Sl w B A (l.map (Value.int .i32))) :
 Calls prog 136 #[.agg #[.slice A n c]] w (zK3 (zCA (zAI l)) w):=by
 have HR:=hy' (zLL A c n B l);have HN:=hy' hn;have ay:=hy' a6;have ak:=hy' (fun i=>zQt a6 (i:=i));have ax:=zGL l;rw[hn]at ax;obtain⟨rs,ba⟩:∃rs,zAI l=rs:=⟨_,rfl⟩;have bk:=hy' ba;rw[ba]at HR ax ak ⊢;obtain⟨m,hm⟩:∃m,rs.length=m:=⟨_,rfl⟩;rw[hm]at ax ak;have HM:=hy' hm;have b7:m≤500000:=by omega
 obtain⟨j0,hj0,b3,b5,bm⟩:=Z2 zBL;clear hn a6 ax ba hm;go_enter func136,ntmps136;go_wp2_with fail;have az:Below w.heap.size w (w.alloc (.cells #[.slice A n c] 85)):=(Zc _ _).alloc (Za _) _;refine (HR.o _ HN.o bw (by have:=ay.o.2.2;rw[HN.o]at this;exact this) ay.o.2.1 (by simp;omega) (hA.belowN az hB (Za _))).mono ?_;rintro e w1 ⟨A5,c5,rfl,aa,ar⟩;have hS:=hy' (Sl.of_own aa);have bb:=az.trans (ar.mono (by simp));rw[HM.o]at aa ⊢;clear aa hA ar az;go_wp2;go_loopw [10,3] (fun vi vo wr=>∃(i:Nat) (acc:List Int),i≤m∧vi=.int .i64 i∧acc=zCA (rs.take i)∧wr.ownsRow w1.heap.size 21 1 vo acc.length (acc.map (Value.int .i32))∧Below w1.heap.size w1 wr) (fun vi _ _=>m-(intOf vi).toNat)
 case atStart=>exact⟨0,[],by omega,rfl,rfl,ZE _ _ _ _,Zc _ _⟩
 obtain⟨i,acc,hi,rfl,ag,aa,aq⟩:=hrel;obtain⟨w2,rfl⟩:∃w2:World,w2=wr:=⟨_,rfl⟩;obtain⟨q,hq⟩:∃q,acc.length=q:=⟨_,rfl⟩;rw[hq]at aa;obtain⟨A6,c6,rfl⟩:=zA3 aa;have HQ:=hy' hq;have a7:=hy' ag;have bz:w1.heap.size≤w2.heap.size:=aq.size
 by_cases hlt:(i:Int)<m
 rotate_left
 · obtain rfl:i=m:=by omega
   have e0:acc=zCA rs:=by rw[a7.o,Zi (by rw[HM.o];exact Za _)]
   have E0:=hy' e0;clear e0 ag hq;go_wp2;go_ret;refine⟨A6,c6,(by rw[←E0.o,HQ.o];rfl),?_,bb.trans (aq.mono bb.size)⟩;rw[←E0.o,HQ.o];exact own_base aa bb.size
 obtain⟨⟨x,y⟩,hr⟩:∃r,rs[i]?=some r:=⟨_,Zb (by rw[HM.o];omega)⟩;obtain⟨b,o,rfl,b9,bh,bf⟩:=hS.out.pair hr;rw[←(zAQ aq).1 _ _ (by omega)]at bh bf;have ao:=zIJ hr;have bo:=hr;rw[←bk.o]at hr;obtain⟨r1,r2,r3,r4⟩:=zKE ay.o hr;have hlen:=ak.o (i+1) (by omega);rw[ao,Zd,C.run_len,←ag,hq]at hlen;rw[←ag]at ao;simp only at r1 r2 r3 r4 ao hlen bh bf;obtain⟨N,hN⟩:∃N:Nat,(y-x+1).toNat=N:=⟨_,rfl⟩;rw[hN]at ao hlen;have b6:=hy' ao;have n0:(0:Int)≤(i:Int):=by omega
 have n1:(i:Int)<m:=by omega
 have bj:y=x+(N:Int)-1:=by omega
 subst bj;obtain⟨W,hW⟩:∃W,w2.alloc (.cells #[.int .i32 x,.int .i32 (x+(N:Int)-1)] 258)=W:=⟨_,rfl⟩;have au:W.heap[w2.heap.size]?=some (.cells #[.int .i32 x,.int .i32 (x+(N:Int)-1)] 258):=by rw[←hW];exact ZT w2 _
 have ap:W.ownsRow w1.heap.size 21 1 (.slice A6 q c6) q (acc.map (Value.int .i32)):=by rw[←hW];exact aa.alloc _
 have a1:Below w1.heap.size w1 W:=by rw[←hW];exact aq.alloc bz _
 have b8:W.heap.size=w2.heap.size+1:=by rw[←hW];simp
 have HW:=hy' hW;have a8:=hy' au;clear hr bo ao ag hq hW au aq aa;go_wp2;rw[HW.o];go_loopw [3,6] (fun bn vc aw=>∃k:Nat,k≤N∧vc=.int .i32 (x+(k:Int))∧aw.ownsRow w1.heap.size 21 1 bn (q+k) ((acc++C.run x k).map (Value.int .i32))∧aw.heap[w2.heap.size]?=some (.cells #[.int .i32 x,.int .i32 (x+(N:Int)-1)] 258)∧Below w1.heap.size w1 aw∧W.heap.size≤aw.heap.size) (fun _ vc _=>(x+(N:Int)-intOf vc).toNat)
 case atStart =>
  refine⟨0,by omega,by simp,?_,a8.o,a1,Za _⟩;simpa [C.run] using ap
 obtain⟨k,hk,rfl,af,ae,av,bs⟩:=hrel;obtain⟨w3,rfl⟩:∃w3:World,w3=wr:=⟨_,rfl⟩;obtain⟨A7,c7,rfl⟩:=zA3 af;obtain⟨d0,_⟩:=zI3 ae 0;obtain⟨d1,_⟩:=zI3 ae 1;simp only[Qk,Y4,YN]at d0 d1;have bi:w1.heap.size≤w3.heap.size:=av.size;have bt:w2.heap.size<w3.heap.size:=by omega
 have b1:0≤x+(k:Int):=by omega
 have b2:x+(k:Int)≤1114112:=by omega
 have bu:=hy' ae;clear ae
 by_cases hlt3:x+(k:Int)≤x+(N:Int)-1
 · have hZ:=hy' (Sl.lit (w:=w3.alloc (.cells #[.int .i32 (x+(k:Int))] 21)) (A:=some ⟨w3.heap.size,0,none⟩) (xs:=[.int .i32 (x+(k:Int))]) rfl 21 (0,0) (ZT w3 _));have bc:Below w3.heap.size w3 (w3.alloc (.cells #[.int .i32 (x+(k:Int))] 21)):=(Zc _ _).alloc (Za _) _;have ai:=hy' (zA4 af bc (Za _));have bp:w1.heap.size≤(w3.alloc (.cells #[.int .i32 (x+(k:Int))] 21)).heap.size:=by simp;omega
   have bg:=hy' ((bc.block w2.heap.size bt).trans bu.o);have bq:=av.alloc bi (.cells #[.int .i32 (x+(k:Int))] 21);have b4:w2.heap.size<(w3.alloc (.cells #[.int .i32 (x+(k:Int))] 21)).heap.size:=by simp;omega
   have hne:=zQs ai.out bg.o (by decide);have bl:=hy' (show w3.heap.size≤(w3.alloc (.cells #[.int .i32 (x+(k:Int))] 21)).heap.size by simp);clear af bc av;go_wp2_with (at_builtin;refine zAe _ rfl _ _ _ rfl w1.heap.size 21 j0 _ 1 4 underlying35 hj0 b3 b5 bm rfl (by omega) _ (q+k) _ rfl ai.out _ (some ⟨w3.heap.size,0,none⟩) 1 1 [.int .i32 (x+(k:Int))] rfl rfl hZ.out (by simp[Value.oneCell']) (by simp only[maxLen];omega) (by omega) bp ?_;intro v1 w5 ah br aj;obtain⟨A8,c8,rfl⟩:=zA3 ah);refine⟨⟨k+1,by omega,by go_num,?_,(aj.block _ b4 hne).trans bg.o,bq.trans br,Zh bs (Zh bl.o aj.size)⟩,by simp[intOf];omega⟩;rw[zPl,←ZD,ZL,←Yn];exact ah
 obtain rfl:k=N:=by omega
 have bx:w1.heap.size≤w3.heap.size:=bi;go_wp2;refine⟨⟨i+1,acc++C.run x k,by omega,by go_num,b6.o.symm,?_,av⟩,by simp[intOf];omega⟩;rw[Zd,HQ.o,C.run_len];exact af
end
theorem zM8 {a:Int} {n:Nat} {d:Int}:d∈C.run a n↔a≤d∧d<a+(n:Int):=by
 unfold C.run;rw[Ja];constructor
 · rintro⟨i,hi,rfl⟩;rw[Jm]at hi;omega
 rintro⟨h1,h2⟩;exact⟨(d-a).toNat,by rw[Jm];omega,by omega⟩
theorem zK4 (rs:List (Int × Int)) (d:Int):d∈zCA rs↔zQe rs d=true:=by
 unfold zCA zQe;rw[List.mem_flatMap,YJ];constructor
 · rintro⟨r,hr,hd⟩;rw[zM8]at hd;exact⟨r,hr,by simp;omega⟩
 rintro⟨r,hr,hd⟩;simp at hd;exact⟨r,hr,by rw[zM8];omega⟩
theorem zKP {S:List Int} (aa:C.ok S) (hC:∀d,C.mem S d=true→C.isC d=true):C.chars (zCA (zAI S))=S:=by
 obtain⟨h1,h2⟩:=zBH (zCA (zAI S));refine zQ3 _ _ h1.1 aa.1 fun d=>?_
 rw[h2 d]
 have e:decide (d∈zCA (zAI S))=C.mem S d:=by
  rw[←zGS S aa d,Yf,Yb];exact zK4 _ d
 rw[e];cases hm:C.mem S d
 · rfl
 rw[hC d hm];rfl
theorem zM9:∀(cs acc:List Int),(zEB cs acc).length≤acc.length+2*cs.length
 | [],acc=>by simp[zEB]
 | c::t,acc=>by
   have h:(C.step C.isC acc c (c+1)).length≤acc.length+2:=by
    unfold C.step;split
    · split
      · rw[Zd,List.length_dropLast];simp;omega
      rw[Zd];simp
    omega
   have h2:=zM9 t (C.step C.isC acc c (c+1));show (zEB t (C.step C.isC acc c (c+1))).length≤_;rw[ZB];omega
theorem C.chars_len (l:List Int):(C.chars l).length≤2*l.length:=by
 have h1:=zM9 (zEC l) []
 have h2:(zEC l).length≤l.length:=by
  unfold zEC Lib.compactUpTo;rw[Ze];exact Zh (XG _ _) (by simp)
 unfold C.chars;simp at h1;omega
section
open Go.RowKit
end
theorem zIK {T:List Rw.Row} {S:List Int} (h:Ud.Ok T S) {a:Int} (ha:C.isC a=true):∀y∈Ud.full T a,C.isC y=true:=by
 obtain⟨l,hl⟩:=zDf h.chk a;have hf:Ud.full T a=l:=by unfold Ud.full;rw[hl];rfl
 rw[hf];unfold Md.full at hl;rw[zBx _ _ _ _ (by simp)]at hl;cases hv:Md.lv (Md.mp T) (T.length+3) a with
 | none=>rw[hv]at hl;cases hl
 | some b =>
   rw[hv,ZC]at hl;unfold Md.fit at hl;split at hl
   rotate_left
   · cases hl
   simp only[ZK,Zg]at hl;subst hl;refine zIp (Q:=fun y=>C.isC y=true) (fun c d hd=>?_) _ _ _ hv ha;unfold Md.mp at hd;split at hd
   · rename_i hp;rw[zCr]at hp;simp only[Zn]at hp;have hk:=zFb c;have aa:zA2 c=4∨zA2 c=5:=by omega
     have hs:=zAt c aa;rcases aa with h4|h5
     · rw[zAO c h4]at hd;simp only[Xe,Z7,QT]at hd;unfold C.isC;simp only[Zn];omega
     rw[zAW c h5]at hd;simp only[Xe,Z7,QT]at hd;unfold C.isC;simp only[Zn];omega
   unfold zAV at hd;cases hf:Md.find T c with
   | none=>rw[hf]at hd;simp at hd
   | some r =>
     rw[hf]at hd;exact ((h.good r (zAq hf).1).2.2.2.2.2 d (by simpa using hd)).1
section
open Go.RowKit
theorem zMa (a b:Int):(Hg.joinK a b).2=true→zAh (Hg.joinK a b).1=(a,b,true):=by
 unfold Hg.joinK;split
 · rename_i h;obtain⟨ha,hb⟩:=h;have h1:=zFK a ha;have h2:=zEx b hb;intro _;simp only[];rw[zAO _ (zCT _ (by omega) (by omega) (by omega))];refine Qv ?_ (Qv ?_ rfl) <;> simp only[] <;> omega
 split
 · rename_i h;obtain⟨ha,hb⟩:=h;have h1:=zAt a (.inl ha);have h2:=zHh b hb;have h3:(a-44032)%28=0:=by unfold zA2 at ha;grind
   intro _;simp only[];have h5:zA2 (a+b-4519)=5:=by unfold zA2;grind
   rw[zAW _ h5];refine Qv ?_ (Qv ?_ rfl) <;> simp only[] <;> omega
 intro h;simp at h
theorem zPm (a b:Int):(Hg.joinK a b).2=decide ((zA2 a=1∧zA2 b=2)∨(zA2 a=4∧zA2 b=3)):=by
 unfold Hg.joinK;split
 · rename_i h;simp[h]
 split
 · rename_i h;simp[h]
 rename_i h h';simp[h,h']
theorem zSC {z:Int} {k:Nat} (h:z=k) (hk:k≤4000000):wrap64 z=k:=by
 subst h;unfold wrap64;omega
theorem zRQ {z y:Int} (h:z=y) (hk:0≤y∧y≤4000000):wrap64 z=y:=by
 subst h;unfold wrap64;omega
def Ss.At (w:World) (g sz:Nat) (Z:List Int):Prop:=∃R:List Value,Z.length+R.length=sz∧Rw.At w g 21 (Z.map (Value.int .i32)++R)
theorem Ss.At.cell {w:World} {g sz:Nat} {Z:List Int} (h:Ss.At w g sz Z) {i:Nat} {x:Int} (hx:Z[i]?=some x):w.cell? ⟨g,i,none⟩=some (.int .i32 x):=by
 obtain⟨R,hs,h⟩:=h;refine Rw.At.cell h i ?_;rw[ZS (by rw[Ze];exact (List.getElem?_eq_some_iff.1 hx).1),Zo,hx];rfl
theorem Ss.At.fro {w:World} {g sz:Nat} {Z:List Int} (h:Ss.At w g sz Z) (i:Nat):w.frozen? ⟨g,i,none⟩=false:=by
 obtain⟨R,hs,h⟩:=h;exact Rw.At.frozen h i
theorem Ss.At.lt {w:World} {g sz:Nat} {Z:List Int} (h:Ss.At w g sz Z):g<w.heap.size:=by
 obtain⟨R,hs,h⟩:=h;exact Rw.At.lt h
theorem Ss.At.set {w:World} {g sz:Nat} {Z:List Int} (h:Ss.At w g sz Z) (i:Nat) (hi:i<Z.length) (x:Int):Ss.At (w.setCell ⟨g,i,none⟩ (.int .i32 x)) g sz (Z.set i x):=by
 obtain⟨R,hs,h⟩:=h;refine⟨R,by rw[Y0];exact hs,?_⟩;rw[QF,←Js _ _ (by rw[Ze];exact hi)];exact Rw.At.set h i _
theorem Ss.At.swapA {w:World} {g sz:Nat} {P M Q:List Int} {x y:Int} (h:Ss.At w g sz (P++x::(M++y::Q))):Ss.At ((w.setCell ⟨g,P.length,none⟩ (.int .i32 y)).setCell ⟨g,P.length+1+M.length,none⟩ (.int .i32 x)) g sz (P++y::(M++x::Q)):=by
 have:=(h.set P.length (by simp) y).set (P.length+1+M.length) (by simp;omega) x;rw[zKA]at this;exact this
theorem Ss.At.swapB {w:World} {g sz:Nat} {P M Q:List Int} {x y:Int} (h:Ss.At w g sz (P++x::(M++y::Q))):Ss.At ((w.setCell ⟨g,P.length+1+M.length,none⟩ (.int .i32 x)).setCell ⟨g,P.length,none⟩ (.int .i32 y)) g sz (P++y::(M++x::Q)):=by
 have:=(h.set (P.length+1+M.length) (by simp;omega) x).set P.length (by simp) y;rw[zPX]at this;exact this
theorem Ss.At.below {w w':World} {g sz:Nat} {Z:List Int} (h:Ss.At w g sz Z) (hb:Below w.heap.size w w'):Ss.At w' g sz Z:=by
 obtain⟨R,hs,h⟩:=h;exact⟨R,hs,Rw.At.below h hb⟩
theorem Ss.At.drew {w:World} {g sz:Nat} {Z:List Int} (h:Ss.At w g sz Z):Ss.At w.drew g sz Z:=h
theorem Ss.grown_drew {w w':World} {row:Option Nat} (h:w.grownBy w' row):w.grownBy w'.drew row:=⟨h.os,h.tape,h.output,h.size,h.block⟩
theorem zAP (w:World) (row:Option Nat):w.grownBy w row:=⟨rfl,rfl,rfl,Za _,fun _ _ _=>rfl⟩
theorem Ss.grown_below {w w':World} {row:Option Nat} (h:Below w.heap.size w w'):w.grownBy w' row:=⟨h.os,h.tape,h.output,h.size,fun k hk _=>h.block k hk⟩
theorem Ss.grown_set {w w':World} {g:Nat} (h:w.grownBy w' (some g)) (i:Nat) (v:Value):w.grownBy (w'.setCell ⟨g,i,none⟩ v) (some g):=zA0 h (Rw.grown_set g i v)
theorem zHZ (sz g o n0 cap a b n:Nat) (cv:Value) (P X M Y Q:List Int) (w:World) (hZ:Ss.At w g sz (P++(X++(M++(Y++Q))))) (hP:P.length=o+a) (hX:X.length=n) (hY:Y.length=n) (hM:a+n+M.length=b) (hn:b+n≤n0) (av:n0≤1000000) :
 Calls prog 241 #[.slice (some ⟨g,o,none⟩) n0 cap,.int .i64 a,.int .i64 b,.int .i64 n,cv] w fun e w'=>e=.returned (.tuple #[])∧Ss.At w' g sz (P++(Y++(M++(X++Q))))∧w.grownBy w' (some g):=by
 have ag:=hy' (Ss.mid_all (P:=P) (M:=M) (Q:=Q) hX hY);have HZ:=hy' hZ;have HX:=hy' hX;have HY:=hy' hY;have HP:=hy' hP;have HM:=hy' hM;clear hZ hX hY hP hM;go_enter func241,ntmps241;go_wp2_with fail;go_loopw [10] (fun i wr=>∃t:Nat,t≤n∧i=.int .i64 t∧Ss.At wr g sz (Ss.mid P X M Y Q t)∧w.grownBy wr (some g)) (fun i _=>n-(intOf i).toNat)
 case atStart=>exact⟨0,ZF _,rfl,by rw[zMU];exact HZ.o,zAP _ _⟩
 obtain⟨t,ht,rfl,aa,ae⟩:=hrel;have aj:=hy' ae
 by_cases hlt:t<n
 rotate_left
 · obtain rfl:t=n:=by omega
   have tI:¬(t:Int)<t:=by omega
   rw[ag.o]at aa;have ar:=hy' aa;clear aa ae;go_wp2_with fail;go_end0;exact⟨rfl,ar.o,aj.o⟩
 obtain⟨x,hx⟩:∃x,X[t]?=some x:=⟨_,Zb (by rw[HX.o];exact hlt)⟩;obtain⟨y,hy⟩:∃y,Y[t]?=some y:=⟨_,Zb (by rw[HY.o];exact hlt)⟩;obtain⟨e1,e2⟩:=zMV (P:=P) (M:=M) (Q:=Q) hx hy;obtain⟨l1,l2⟩:=Ss.mid_len (P:=P) (M:=M) HX.o HY.o hlt;rw[HP.o]at l1 l2;have ao:(P++Y.take t).length+1+(X.drop (t+1)++(M++X.take t)).length=o+(b+t):=by have:=HM.o;omega
 have ai:(P++Y.take t).length=o+(a+t):=by omega
 have ak:=hy' ai;have ah:=hy' ao;clear l1 l2 ai ao;rw[e1]at aa;have c1:=aa.cell (zC1 _ _ _);have c2:=aa.cell (zBp _ _ _ _ _);rw[ak.o]at c1;rw[ah.o]at c2;have f1:=aa.fro (o+(a+t));have f2:=aa.fro (o+(b+t));have gl:=aa.lt;have af:=aa.swapA;rw[←e2,ah.o,ak.o]at af;have tI:(t:Int)<n:=by omega
 have a0:(0:Int)≤(a:Int)+t:=by omega
 have a1:(a:Int)+t<n0:=by have:=HM.o;omega
 have b0:(0:Int)≤(b:Int)+t:=by omega
 have b1:(b:Int)+t<n0:=by omega
 have aq:¬a=b:=by have:=HM.o;omega
 have au:¬b=a:=fun h=>aq h.symm
 have wA:wrap64 ((a:Int)+t)=(a:Int)+t:=zRQ (by omega) (by omega);have wB:wrap64 ((b:Int)+t)=(b:Int)+t:=zRQ (by omega) (by omega);have tA:((a:Int)+t).toNat=a+t:=by omega
 have tB:((b:Int)+t).toNat=b+t:=by omega
 have ap:=hy' af;clear hx hy e1 e2 aa ae af;go_wp2;go_region;go_wp2;exact⟨⟨t+1,by omega,by go_num,ap.o,Ss.grown_drew (Ss.grown_set (Ss.grown_set aj.o _ _) _ _)⟩,by simp[intOf];omega⟩
def zCd (a b:Int):Int:=if a<b then -1 else if b<a then 1 else 0
theorem zCY (a b:Int):zCd a b<0↔a<b:=by
 unfold zCd;split
 · simp;assumption
 split
 · constructor
   · intro h;omega
   intro h;omega
 constructor
 · intro h;omega
 intro h;omega
def Ss.Cmp (aa:FuncId) (cd:Option Addr) (k:Int→Int) (g:Nat) (w:World):Prop:=∀W,w.grownBy W (some g)→∀x y:Int,Calls prog aa #[.int .i32 x,.int .i32 y,.pointer cd] W fun e w'=>e=.returned (.int .i64 (zCd (k x) (k y)))∧Below W.heap.size W w'
theorem Ss.Cmp.grown {aa:FuncId} {cd:Option Addr} {k:Int→Int} {g:Nat} {w w':World} (h:Ss.Cmp aa cd k g w) (hg:w.grownBy w' (some g)):Ss.Cmp aa cd k g w':=fun W hW=>h W (zA0 hg hW)
theorem zKQ (sz g o n0 cap a m b:Nat) (cv:Value) (P U V Q:List Int) (w:World) (hZ:Ss.At w g sz (P++(U++(V++Q)))) (hP:P.length=o+a) (hU:a+U.length=m) (hV:m+V.length=b) (hu:a<m) (hv:m<b) (hn:b≤n0) (bj:n0≤1000000) :
 Calls prog 212 #[.slice (some ⟨g,o,none⟩) n0 cap,.int .i64 a,.int .i64 m,.int .i64 b,cv] w fun e w'=>e=.returned (.tuple #[])∧Ss.At w' g sz (P++(V++(U++Q)))∧w.grownBy w' (some g):=by
 have aw:=hy' (fun i k n P X M Y Q W h1 h2 h3 h4 h5 h6=>zHZ sz g o n0 cap i k n cv P X M Y Q W h1 h2 h3 h4 h5 h6 bj);have HZ:=hy' hZ;have HP:=hy' hP;have HU:=hy' hU;have HV:=hy' hV;clear hZ hP hU hV;go_enter func212,ntmps212;go_wp2_with fail;go_loopw [10,11] (fun vi vj wr=>∃(i j:Nat) (X Y Pl Sr:List Int),1≤i∧1≤j∧i≤m∧m+j≤b∧vi=.int .i64 i∧vj=.int .i64 j∧X.length=i∧Y.length=j∧Ss.At wr g sz (Pl++(X++(Y++Sr)))∧Pl.length=o+(m-i)∧Pl++(Y++(X++Sr))=P++(V++(U++Q))∧w.grownBy wr (some g)) (fun vi vj _=>(intOf vi).toNat+(intOf vj).toNat)
 case atStart=>exact⟨m-a,b-m,U,V,P,Q,by omega,by omega,by omega,by omega,Z6 (Value.int .i64) (by omega),Z6 (Value.int .i64) (by omega),by have:=HU.o;omega,by have:=HV.o;omega,HZ.o,by rw[HP.o];omega,rfl,zAP _ _⟩
 obtain⟨i,j,X,Y,Pl,Sr,bm,bf,bk,bn,rfl,rfl,hX,hY,aj,ak,au,ap⟩:=hrel;have ay:=hy' ap;have az:=hy' au;have bc:=hy' ak;have HX:=hy' hX;have HY:=hy' hY;rcases XI i j with hij|hij|hij
 · have ag:Y=Y.take (j-i)++Y.drop (j-i):=(ZI _ _).symm;have bb:(Y.take (j-i)).length=j-i:=by rw[Zr];omega
   have aq:(Y.drop (j-i)).length=i:=by rw[ZN];omega
   obtain⟨Y1,a8⟩:∃l,Y.take (j-i)=l:=⟨_,rfl⟩;obtain⟨Y2,a7⟩:∃l,Y.drop (j-i)=l:=⟨_,rfl⟩;rw[a8,a7]at ag;rw[a8]at bb;rw[a7]at aq;have ae:Ss.At wr g sz (Pl++(X++(Y1++(Y2++Sr)))):=by rw[ag]at aj;simpa using aj
   have hS:=hy' (aw.o (m-i) (m+j-i) i Pl X Y1 Y2 Sr wr ae ak hX aq (by omega) (by omega));have hne:((i:Int) != (j:Int))=true:=by simp;omega
   have hgt:¬((i:Int) > (j:Int)):=by omega
   have a6:=hy' ag;have bg:=hy' bb;have bi:=hy' aq;clear aj ae ag a8 a7 ap au ak hX hY bb aq;go_wp2_with fail;rw[show (m:Int)-i=((m-i:Nat):Int) from by omega,show (m:Int)+j-i=((m+j-i:Nat):Int) from by omega];refine hS.out.mono ?_;rintro e w1 ⟨rfl,aa,ai⟩;have af:=hy' aa;have ao:=hy' (zA0 ay.o ai);clear aa ai hS;go_wp2_with fail;exact⟨⟨i,j-i,Y2,Y1,Pl,X++Sr,bm,by omega,bk,by omega,rfl,Z6 (Value.int .i64) (by omega),bi.o,bg.o,af.o,bc.o,by rw[←az.o,a6.o];simp,ao.o⟩,by simp[intOf];omega⟩
 · subst hij;have ae:Ss.At wr g sz (Pl++(X++([]++(Y++Sr)))):=by simpa using aj
   have hS:=hy' (aw.o (m-i) m i Pl X [] Y Sr wr ae ak hX hY (by simp;omega) (by omega));have hne:((i:Int) != (i:Int))=false:=by simp
   clear aj ae ap au ak hX hY;go_wp2_with fail;rw[show (m:Int)-i=((m-i:Nat):Int) from by omega];refine hS.out.mono ?_;rintro e w1 ⟨rfl,aa,ai⟩;have af:=hy' aa;have ao:=hy' (zA0 ay.o ai);clear aa ai hS;go_wp2_with fail;go_end0;exact⟨rfl,by rw[←az.o];simpa using af.o,ao.o⟩
 have ah:X=X.take j++X.drop j:=(ZI _ _).symm;have ar:(X.take j).length=j:=by rw[Zr];omega
 have ax:(X.drop j).length=i-j:=by rw[ZN];omega
 obtain⟨X1,ba⟩:∃l,X.take j=l:=⟨_,rfl⟩;obtain⟨X2,a1⟩:∃l,X.drop j=l:=⟨_,rfl⟩;rw[ba,a1]at ah;rw[ba]at ar;rw[a1]at ax;have ae:Ss.At wr g sz (Pl++(X1++(X2++(Y++Sr)))):=by rw[ah]at aj;simpa using aj
 have hS:=hy' (aw.o (m-i) m j Pl X1 X2 Y Sr wr ae ak ar hY (by omega) (by omega));have hne:((i:Int) != (j:Int))=true:=by simp;omega
 have hgt:(i:Int) > (j:Int):=by omega
 have av:=hy' ah;have bh:=hy' ar;have bl:=hy' ax;clear aj ae ah ba a1 ap au ak hX hY ar ax;go_wp2_with fail;rw[show (m:Int)-i=((m-i:Nat):Int) from by omega];refine hS.out.mono ?_;rintro e w1 ⟨rfl,aa,ai⟩;have af:=hy' aa;have ao:=hy' (zA0 ay.o ai);clear aa ai hS;go_wp2_with fail;exact⟨⟨i-j,j,X2,X1,Pl++Y,Sr,by omega,bf,by omega,bn,congrArg (Value.int .i64) (by omega),rfl,bl.o,bh.o,by simpa using af.o,by rw[List.length_append,bc.o,HY.o];omega,by rw[←az.o,av.o];simp,ao.o⟩,by simp[intOf];omega⟩
theorem zIL (l:List Int):l=[]∨∃s x,l=s++[x]:=by
 rcases YW l with h|⟨s,x,h⟩
 · exact .inl h
 exact .inr ⟨s,x,by rw[h,YX]⟩
theorem zI0 (au:FuncId) (cd:Option Addr) (k:Int→Int) (aj:∀(args:Array Value) (w:World),(callFunc au args).run prog w=.ok (.enter au args) w)
 (sz g o n0 cap a b:Nat) (P B Q:List Int) (w:World) (hC:Ss.Cmp au cd k g w) (hZ:Ss.At w g sz (P++(B++Q))) (hP:P.length=o+a) (hB:a+B.length=b) (hn:b≤n0) (bu:n0≤1000000) :
 Calls prog 172 #[.slice (some ⟨g,o,none⟩) n0 cap,.int .i64 a,.int .i64 b,.func (.func au) #[] #[.pointer cd]] w fun e w'=>e=.returned (.tuple #[])∧(∃B',Ss.so k B'∧Ss.eqv k B B'∧Ss.At w' g sz (P++(B'++Q)))∧w.grownBy w' (some g):=by
 have bf:=hy' aj;have HC:=hy' hC;have HZ:=hy' hZ;have HP:=hy' hP;have HB:=hy' hB;clear aj hC hZ hP hB;go_enter func172,ntmps172;go_wp2_with fail;go_loopw [8,9] (fun i _ wr=>∃(t:Nat) (S:List Int),1≤t∧t≤B.length+1∧i=.int .i64 ((a+t:Nat):Int)∧Ss.so k S∧Ss.eqv k (B.take t) S∧Ss.At wr g sz (P++(S++(B.drop t++Q)))∧w.grownBy wr (some g)) (fun i _ _=>b+1-(intOf i).toNat)
 case atStart =>
  refine⟨1,B.take 1,Za _,by omega,Z6 (Value.int .i64) (zSC (by omega) (by have:=HB.o;omega)),?_,Ss.eqv.refl _ _,by rw[←ZD (B.take 1),ZI];exact HZ.o,zAP _ _⟩;cases B with
  | nil=>exact zGe k
  | cons x l=>exact zLx k x
 obtain⟨t,S,b2,bt,rfl,av,ao,aa,af⟩:=hrel
 by_cases hlt:t<B.length
 rotate_left
 · have hd:B.drop t=[]:=Yh (by omega);have aq:B.take t=B:=Zi (by omega);rw[hd,ZK]at aa;rw[aq]at ao;have jI:¬((a+t:Nat):Int)<b:=by have:=HB.o;omega
   have F1:=hy' av;have F2:=hy' ao;have F3:=hy' aa;have ar:=hy' af;clear av ao aa af hd aq;go_wp2_with fail;go_end0;exact⟨rfl,⟨S,F1.o,F2.o,F3.o⟩,ar.o⟩
 obtain⟨x,hx⟩:∃x,B[t]?=some x:=⟨_,Zb hlt⟩;obtain⟨a1,b1⟩:=List.getElem?_eq_some_iff.1 hx;have hdr:B.drop t=x::B.drop (t+1):=by rw[ZR a1,b1]
 have aq:B.take (t+1)=B.take t++[x]:=by rw[ZA,hx];rfl
 obtain⟨D,hD⟩:∃D,B.drop (t+1)=D:=⟨_,rfl⟩;rw[hD]at hdr;rw[hdr]at aa;have a8:S.length=t:=by rw[ao.length,Zr];omega
 have jI:((a+t:Nat):Int)<b:=by have:=HB.o;omega
 have bb:=hy' av;have bp:=hy' ao;have ax:=hy' af;have bh:=hy' aq;have HD:=hy' hD;have bq:=hy' aa;have bc:=hy' a8;have bl:=hy' HB.o;clear av ao af aq hD hdr hx aa a8;go_wp2_with fail;obtain⟨w1,rfl⟩:∃w1:World,w1=wr:=⟨_,rfl⟩;go_loopw [9] (fun j wq=>∃(S1 G:List Int) (jj:Nat),S1++G=S∧j=.int .i64 jj∧jj=a+S1.length∧(∀y∈G,k x<k y)∧Ss.At wq g sz (P++(S1++(x::(G++(D++Q)))))∧w1.grownBy wq (some g)) (fun j _=>(intOf j).toNat-a)
 case atStart=>exact⟨S,[],a+t,by simp,rfl,by rw[bc.o],fun y hy=>by simp at hy,bq.o,zAP _ _⟩
 obtain⟨S1,G,jj,ai,rfl,ak,hG,aa,af⟩:=hrel
 have ah:(∀y∈S1,k y≤k x)→Ss.so k (S1++x::G)∧Ss.eqv k (B.take (t+1)) (S1++x::G)∧P++(S1++(x::(G++(D++Q))))=P++((S1++x::G)++(B.drop (t+1)++Q)):=fun bi=>by
  have h1:=bb.o;rw[←ai]at h1;obtain⟨h2,h3⟩:=Ss.insert h1 bi hG;refine⟨h2,?_,by rw[HD.o];simp⟩;rw[bh.o];have h4:=bp.o.app (Ss.eqv.refl k [x]);rw[←ai]at h4;exact h4.trans h3
 rcases zIL S1 with rfl|⟨S2,s,rfl⟩
 · obtain⟨f1,f2,f3⟩:=ah (fun y hy=>by simp at hy);rw[f3]at aa;have F1:=hy' f1;have F2:=hy' f2;have F3:=hy' aa;have ar:=hy' (zA0 ax.o af);have hj:¬(a<jj):=by simp at ak;omega
   have gl:=aa.lt;clear ah f1 f2 f3 aa ai hG af ak;go_wp2_with fail;refine zA7 (by kernel_rfl) (by kernel_rfl) ?_
   repeat (go_big_quiet_step (fail))
   refine wpQuiet_nil ?_;intro xw;have a6:=hy' (F3.o.below xw.below);have ap:=hy' (zA0 ar.o (Ss.grown_below xw.below));go_wp2_with fail;exact⟨⟨t+1,[]++x::G,by omega,by omega,by go_num,F1.o,F2.o,a6.o,ap.o⟩,by simp[intOf];omega⟩
 obtain⟨j1,rfl⟩:∃j1,jj=j1+1:=⟨a+S2.length,by rw[ak,Zd];rfl⟩;have aw:j1=a+S2.length:=by simp at ak;omega
 have e1:P++((S2++[s])++(x::(G++(D++Q))))=(P++S2)++s::([]++x::(G++(D++Q))):=by simp
 have e2:(P++S2)++x::([]++s::(G++(D++Q)))=P++(S2++(x::((s::G)++(D++Q)))):=by simp
 have ae:=aa;rw[e1]at ae;have l1:(P++S2).length=o+j1:=by rw[Zd,HP.o];omega
 have l2:(P++S2).length+1+([]:List Int).length=o+(j1+1):=by rw[l1];rfl
 have L1:=hy' l1;have L2:=hy' l2;clear l1 l2;have c1:=ae.cell (zC1 _ _ _);have c2:=ae.cell (zBp _ _ _ _ _);rw[L1.o]at c1;rw[L2.o]at c2;have gl:=aa.lt;have f1:=aa.fro (o+j1);have f2:=aa.fro (o+(j1+1))
 have b3:j1+1<n0:=by
  have h1:=Z6 List.length ai;have h2:=bc.o;have h3:=bl.o;simp at h1;omega
 have j0:(0:Int)≤j1:=by omega
 have bx:(j1:Int)<n0:=by omega
 have bz:(0:Int)≤(j1:Int)+1:=by omega
 have bo:(j1:Int)+1<n0:=by omega
 have bw:(a:Int)<(j1:Int)+1:=by omega
 have tj:((j1:Int)+1).toNat=j1+1:=by omega
 have ay:=hy' ae;have br:=hy' aa;have ar:=hy' (zA0 ax.o af);have bn:=hy' af;have C1:=hy' (Ext.call (w:=wr) fun W hW=>HC.o W (zA0 (zA0 ax.o af) (Ss.grown_below hW)) x s);have x1:=Ext.cells c1 gl;have x2:=Ext.cells c2 gl
 by_cases hk:k x<k s
 · have hv:zCd (k x) (k s) = -1:=Zm hk;rw[hv]at C1
   have bm:Hy (∀y∈s::G,k x<k y):=hy' fun y hy=>by
    rcases List.mem_cons.1 hy with rfl|hy
    · exact hk
    exact hG y hy
   have bg:Hy (S2++(s::G)=S):=hy' (by rw[←ai];simp);have E2:=hy' e2;have bk:=hy' aw;clear ah aa ae hG ai af ak e1 e2 hv aw;go_wp2_with fail;refine zA7 (by kernel_rfl) (by kernel_rfl) ?_;have aj:=bf.o
   repeat (go_big_quiet_step (with_reducible exact C1.o _))
   clear aj;refine wpQuiet_nil ?_;intro xw;have ag:=ay.o.below xw.below;have az:=ag.swapB;rw[E2.o,L2.o,L1.o]at az;have ba:=hy' az;have ap:=hy' (zA0 bn.o (Ss.grown_below xw.below));have k1:=x1 xw;have k2:=x2 xw;have g1:=ag.fro (o+j1);have g2:=ag.fro (o+(j1+1));have bj:=ag.lt;obtain⟨wx,a7⟩:∃wx,xw.val=wx:=⟨_,rfl⟩;rw[a7]at ba ap k1 k2 g1 g2 bj ⊢;clear x1 x2 c1 c2 f1 f2 gl ag az a7;go_wp2_with fail;go_region;go_wp2;exact⟨⟨S2,s::G,j1,bg.o,rfl,bk.o,bm.o,ba.o,Ss.grown_drew (Ss.grown_set (Ss.grown_set ap.o _ _) _ _)⟩,by simp[intOf];omega⟩
 obtain⟨v,hv⟩:∃v,zCd (k x) (k s)=v:=⟨_,rfl⟩;have bs:¬v<0:=by rw[←hv,zCY];exact hk
 rw[hv]at C1
 have hle:∀y∈S2++[s],k y≤k x:=by
  have h1:=bb.o;rw[←ai]at h1;have h2:=h1.left;intro y hy;rcases List.mem_append.1 hy with hy|hy
  · have:=h2.cross y hy s Zu;omega
  rw[Zt]at hy;rw[hy];omega
 obtain⟨q1,q2,q3⟩:=ah hle;rw[q3]at aa;have F1:=hy' q1;have F2:=hy' q2;have F3:=hy' aa;clear ah aa ae hG ai af ak e1 e2 hv aw q1 q2 q3 hle hk;go_wp2_with fail;refine zA7 (by kernel_rfl) (by kernel_rfl) ?_;have aj:=bf.o
 repeat (go_big_quiet_step (with_reducible exact C1.o _))
 clear aj;refine wpQuiet_nil ?_;intro xw;have a6:=hy' (F3.o.below xw.below);have ap:=hy' (zA0 ar.o (Ss.grown_below xw.below));go_wp2_with fail;exact⟨⟨t+1,(S2++[s])++x::G,by omega,by omega,by go_num,F1.o,F2.o,a6.o,ap.o⟩,by simp[intOf];omega⟩
def zGr (k:Int→Int) (sz g:Nat) (P A B Q:List Int) (w:World) (e:Ending) (w':World):Prop:=e=.returned (.tuple #[])∧(∃C,Ss.so k C∧Ss.eqv k (A++B) C∧Ss.At w' g sz (P++(C++Q)))∧w.grownBy w' (some g)
theorem zEI {P A B Q:List Int} {t:Nat} {y:Int} (h:B[t]?=some y):(P++(A++(B++Q)))[P.length+A.length+t]?=some y:=by
 rw[ZH (by omega),ZH (by omega),ZS (by have:=(List.getElem?_eq_some_iff.1 h).1;omega)];rw[←h];congr 1;omega
theorem zFV {P A R:List Int} {t:Nat} {y:Int} (h:A[t]?=some y):(P++(A++R))[P.length+t]?=some y:=by
 rw[ZH (by omega),ZS (by have:=(List.getElem?_eq_some_iff.1 h).1;omega)];rw[←h];congr 1;omega
theorem zPn (ai:FuncId) (cd:Option Addr) (k:Int→Int) (ah:∀(args:Array Value) (w:World),(callFunc ai args).run prog w=.ok (.enter ai args) w)
 (sz g o n0 cap a m b:Nat) (P:List Int) (x:Int) (B Q:List Int) (w:World) (hC:Ss.Cmp ai cd k g w) (hZ:Ss.At w g sz (P++([x]++(B++Q)))) (hP:P.length=o+a) (hm:a+1=m) (hB:m+B.length=b) (hn:b≤n0) (a8:n0≤1000000) (hs:Ss.so k B) :
 Calls prog 173 #[.slice (some ⟨g,o,none⟩) n0 cap,.int .i64 a,.int .i64 m,.int .i64 b,.func (.func ai) #[] #[.pointer cd]] w (zGr k sz g P [x] B Q w):=by
 have az:=hy' ah;have HC:=hy' hC;have HZ:=hy' hZ;have HP:=hy' hP;have HB:=hy' hB;have HS:=hy' hs;subst hm
 have gz:∀(wr:World),Ss.At wr g sz (P++([x]++(B++Q)))→wr.cell? ⟨g,o+a,none⟩=some (.int .i32 x):=fun wr h=>by
  have:=h.cell (zFV (P:=P) (A:=[x]) (R:=B++Q) (t:=0) rfl);rw[YI,HP.o]at this;exact this
 have GZ:=hy' gz;clear ah hC hZ hP hB hs gz;go_enter func173,ntmps173;go_wp2_with fail;go_loopw [10,11,12] (fun vi vj _ wr=>∃i j:Nat,a+1≤i∧i≤j∧j≤b∧vi=.int .i64 i∧vj=.int .i64 j∧(∀y,a+1<i→B[i-(a+1)-1]?=some y→k y<k x)∧(∀y,B[j-(a+1)]?=some y→k x≤k y)∧Ss.At wr g sz (P++([x]++(B++Q)))∧w.grownBy wr (some g)) (fun vi vj _ _=>(intOf vj).toNat-(intOf vi).toNat)
 case atStart =>
  have:=HB.o;refine⟨a+1,b,Za _,by omega,Za _,rfl,rfl,fun y h=>by omega,fun y h=>?_,HZ.o,zAP _ _⟩;rw[Ys (by omega)]at h;cases h
 obtain⟨i,j,hi,hij,a7,rfl,rfl,h1,h2,aa,ae⟩:=hrel
 by_cases hlt:i<j
 · have ax:=HB.o;obtain⟨y,hy⟩:∃y,B[(i+j)/2-(a+1)]?=some y:=⟨_,Zb (by omega)⟩;have c1:=aa.cell (zEI (P:=P) (A:=[x]) (Q:=Q) hy);rw[HP.o,show o+a+([x]:List Int).length+((i+j)/2-(a+1))=o+(i+j)/2 by simp;omega]at c1;have c2:=GZ.o wr aa;have gl:=aa.lt;have iI:(i:Int)<j:=by omega
   have m0:(0:Int)≤(((i+j)/2:Nat):Int):=by omega
   have m1:(((i+j)/2:Nat):Int)<n0:=by omega
   have a0:(0:Int)≤(a:Int):=by omega
   have a1:(a:Int)<n0:=by omega
   have C1:=hy' (Ext.call (w:=wr) fun W hW=>HC.o W (zA0 ae (Ss.grown_below hW)) y x);have x1:=Ext.cells c1 gl;have x2:=Ext.cells c2 gl;have ap:=hy' aa;have aj:=hy' ae;have H1:=hy' h1;have H2:=hy' h2;have HY:=hy' hy;clear h1 h2 hy aa ae;go_wp2_with fail;refine zA7 (by kernel_rfl) (by kernel_rfl) ?_;have ah:=az.o
   repeat (go_big_quiet_step (with_reducible exact C1.o _))
   clear ah;refine wpQuiet_nil ?_;intro xw;have ag:=hy' (ap.o.below xw.below);have av:=hy' (zA0 aj.o (Ss.grown_below xw.below));clear x1 x2 c1 c2 gl
   by_cases hk:k y<k x
   · have hv:zCd (k y) (k x)<0:=(zCY _ _).2 hk;have HK:=hy' hk;clear hk;go_wp2_with fail;refine⟨⟨(i+j)/2+1,j,by omega,by omega,a7,by go_num,rfl,fun z _ hz=>?_,H2.o,ag.o,av.o⟩,by simp[intOf];omega⟩;rw[show (i+j)/2+1-(a+1)-1=(i+j)/2-(a+1) by omega,HY.o]at hz;cases hz
     exact HK.o
   have hv:¬zCd (k y) (k x)<0:=fun h=>hk ((zCY _ _).1 h)
   have HK:=hy' hk;clear hk;go_wp2_with fail;refine⟨⟨i,(i+j)/2,hi,by omega,by omega,rfl,by go_num,H1.o,fun z hz=>?_,ag.o,av.o⟩,by simp[intOf];omega⟩;rw[HY.o]at hz;cases hz
   have:=HK.o;omega
 obtain rfl:i=j:=by omega
 have iI:¬(i:Int)<i:=by omega
 have ax:=HB.o;obtain⟨s,ay⟩:∃s,i=a+1+s:=⟨i-(a+1),by omega⟩;subst ay
 have aq:∀y∈B.take s,k y<k x:=fun y hy=>by
  obtain⟨q,hq,af⟩:=zDU hy;have aw:=(List.getElem?_eq_some_iff.1 af).1;obtain⟨z,hz⟩:∃z,B[s-1]?=some z:=⟨_,Zb (by omega)⟩;have g1:=h1 z (by omega) (by rw[show a+1+s-(a+1)-1=s-1 by omega];exact hz);have g2:=HS.o.get af hz (by omega);omega
 have au:∀y∈B.drop s,k x≤k y:=fun y hy=>by
  obtain⟨q,hq,af⟩:=zDV hy;have aw:=(List.getElem?_eq_some_iff.1 af).1;obtain⟨z,hz⟩:∃z,B[s]?=some z:=⟨_,Zb (by omega)⟩;have g1:=h2 z (by rw[show a+1+s-(a+1)=s by omega];exact hz);have g2:=HS.o.get hz af hq;omega
 obtain⟨r1,r2⟩:=zKz (x:=x) (b1:=B.take s) (b2:=B.drop s) (by rw[ZI];exact HS.o) aq au;rw[ZI]at r2;have R1:=hy' r1;have R2:=hy' r2;have ap:Hy (Ss.At wr g sz (P++(B.take 0++(x::(B.drop 0++Q))))):=hy' (by simpa using aa);have aj:=hy' ae;clear r1 r2 aq au h1 h2 aa ae hi hij;go_wp2_with fail;obtain⟨w1,rfl⟩:∃w1:World,w1=wr:=⟨_,rfl⟩;go_loopw [13] (fun vk wq=>∃t:Nat,t≤s∧vk=.int .i64 ((a+t:Nat):Int)∧Ss.At wq g sz (P++(B.take t++(x::(B.drop t++Q))))∧w.grownBy wq (some g)) (fun vk _=>a+s+1-(intOf vk).toNat)
 case atStart=>exact⟨0,ZF _,rfl,ap.o,aj.o⟩
 obtain⟨t,ht,rfl,aa,ae⟩:=hrel
 by_cases hts:t<s
 rotate_left
 · obtain rfl:t=s:=by omega
   have tI:¬((a+t:Nat):Int)<((a+t:Nat):Int):=by omega
   have HA:=hy' aa;have ao:=hy' ae;clear aa ae;go_wp2_with fail;go_end0;exact⟨rfl,⟨B.take t++x::B.drop t,R1.o,R2.o,by simpa using HA.o⟩,ao.o⟩
 obtain⟨y,hy⟩:∃y,B[t]?=some y:=⟨_,Zb (by omega)⟩;obtain⟨u1,u2⟩:=List.getElem?_eq_some_iff.1 hy;have hdr:B.drop t=y::B.drop (t+1):=by rw[ZR u1,u2]
 have ar:B.take (t+1)=B.take t++[y]:=by rw[ZA,hy];rfl
 have e1:P++(B.take t++(x::(B.drop t++Q)))=(P++B.take t)++x::([]++y::(B.drop (t+1)++Q)):=by rw[hdr];simp
 have e2:(P++B.take t)++y::([]++x::(B.drop (t+1)++Q))=P++(B.take (t+1)++(x::(B.drop (t+1)++Q))):=by rw[ar];simp
 rw[e1]at aa;have l1:(P++B.take t).length=o+(a+t):=by rw[Zd,HP.o,Zr];omega
 have l2:(P++B.take t).length+1+([]:List Int).length=o+(a+t+1):=by rw[l1];rfl
 have L1:=hy' l1;have L2:=hy' l2;clear l1 l2;have c1:=aa.cell (zC1 _ _ _);have c2:=aa.cell (zBp _ _ _ _ _);rw[L1.o]at c1;rw[L2.o]at c2;have f1:=aa.fro (o+(a+t));have f2:=aa.fro (o+(a+t+1));have gl:=aa.lt;have ak:=aa.swapA;rw[e2,L2.o,L1.o]at ak;have tI:((a+t:Nat):Int)<((a+s:Nat):Int):=by omega
 have k0:(0:Int)≤((a+t:Nat):Int):=by omega
 have k1:((a+t:Nat):Int)<n0:=by omega
 have k2:(0:Int)≤((a+t+1:Nat):Int):=by omega
 have k3:((a+t+1:Nat):Int)<n0:=by omega
 have a6:=hy' ak;have ao:=hy' ae;clear hy u1 u2 hdr ar e1 e2 aa ak ae;go_wp2;go_region;go_wp2;exact⟨⟨t+1,by omega,by go_num,a6.o,Ss.grown_drew (Ss.grown_set (Ss.grown_set ao.o _ _) _ _)⟩,by simp[intOf];omega⟩
theorem zNt (ai:FuncId) (cd:Option Addr) (k:Int→Int) (ah:∀(args:Array Value) (w:World),(callFunc ai args).run prog w=.ok (.enter ai args) w)
 (sz g o n0 cap a m b:Nat) (P A:List Int) (y:Int) (Q:List Int) (w:World) (hC:Ss.Cmp ai cd k g w) (hZ:Ss.At w g sz (P++(A++([y]++Q)))) (hP:P.length=o+a) (hA:a+A.length=m) (hA2:2≤A.length) (hm:m+1=b) (hn:b≤n0) (ba:n0≤1000000) (hs:Ss.so k A) :
 Calls prog 173 #[.slice (some ⟨g,o,none⟩) n0 cap,.int .i64 a,.int .i64 m,.int .i64 b,.func (.func ai) #[] #[.pointer cd]] w (zGr k sz g P A [y] Q w):=by
 have az:=hy' ah;have HC:=hy' hC;have HZ:=hy' hZ;have HP:=hy' hP;have HA:=hy' hA;have HS:=hy' hs;subst hm;have e1:(((m-a:Nat):Int) == 1)=false:=by simp;omega
 have gz:∀(wr:World),Ss.At wr g sz (P++(A++([y]++Q)))→wr.cell? ⟨g,o+m,none⟩=some (.int .i32 y):=fun wr h=>by
  have:=h.cell (zEI (P:=P) (A:=A) (B:=[y]) (Q:=Q) (t:=0) rfl);rw[YI,HP.o,Yn,HA.o]at this;exact this
 have GZ:=hy' gz;clear ah hC hZ hP hs gz;go_enter func173,ntmps173;go_wp2_with fail;clear e1;go_loopw [14,15,16] (fun vi vj _ wr=>∃i j:Nat,a≤i∧i≤j∧j≤m∧vi=.int .i64 i∧vj=.int .i64 j∧(∀z,a<i→A[i-a-1]?=some z→k z≤k y)∧(∀z,A[j-a]?=some z→k y<k z)∧Ss.At wr g sz (P++(A++([y]++Q)))∧w.grownBy wr (some g)) (fun vi vj _ _=>(intOf vj).toNat-(intOf vi).toNat)
 case atStart =>
  refine⟨a,m,Za _,by omega,Za _,rfl,rfl,fun z h=>by omega,fun z h=>?_,HZ.o,zAP _ _⟩;rw[Ys (by omega)]at h;cases h
 obtain⟨i,j,hi,hij,a7,rfl,rfl,h1,h2,aa,ae⟩:=hrel
 by_cases hlt:i<j
 · obtain⟨z,hz⟩:∃z,A[(i+j)/2-a]?=some z:=⟨_,Zb (by omega)⟩;have c1:=aa.cell (zFV (P:=P) (R:=[y]++Q) hz);rw[HP.o,show o+a+((i+j)/2-a)=o+(i+j)/2 by omega]at c1;have c2:=GZ.o wr aa;have gl:=aa.lt;have iI:(i:Int)<j:=by omega
   have m0:(0:Int)≤(((i+j)/2:Nat):Int):=by omega
   have m1:(((i+j)/2:Nat):Int)<n0:=by omega
   have a0:(0:Int)≤(m:Int):=by omega
   have a1:(m:Int)<n0:=by omega
   have C1:=hy' (Ext.call (w:=wr) fun W hW=>HC.o W (zA0 ae (Ss.grown_below hW)) y z);have x1:=Ext.cells c1 gl;have x2:=Ext.cells c2 gl;have ap:=hy' aa;have aj:=hy' ae;have H1:=hy' h1;have H2:=hy' h2;have HY:=hy' hz;clear h1 h2 hz aa ae;go_wp2_with fail;refine zA7 (by kernel_rfl) (by kernel_rfl) ?_;have ah:=az.o
   repeat (go_big_quiet_step (with_reducible exact C1.o _))
   clear ah;refine wpQuiet_nil ?_;intro xw;have ag:=hy' (ap.o.below xw.below);have av:=hy' (zA0 aj.o (Ss.grown_below xw.below));clear x1 x2 c1 c2 gl
   by_cases hk:k y<k z
   · have hv:decide (zCd (k y) (k z)<0)=true:=Zp ((zCY _ _).2 hk);rw[hv,QR];clear hv;have HK:=hy' hk;clear hk;go_wp2_with fail;refine⟨⟨i,(i+j)/2,hi,by omega,by omega,rfl,by go_num,H1.o,fun u hu=>?_,ag.o,av.o⟩,by simp[intOf];omega⟩;rw[HY.o]at hu;cases hu
     exact HK.o
   have hv:decide (zCd (k y) (k z)<0)=false:=Zq fun h=>hk ((zCY _ _).1 h)
   rw[hv,Jt];clear hv;have HK:=hy' hk;clear hk;go_wp2_with fail;refine⟨⟨(i+j)/2+1,j,by omega,by omega,a7,by go_num,rfl,fun u _ hu=>?_,H2.o,ag.o,av.o⟩,by simp[intOf];omega⟩;rw[show (i+j)/2+1-a-1=(i+j)/2-a by omega,HY.o]at hu;cases hu
   have:=HK.o;omega
 obtain rfl:i=j:=by omega
 have iI:¬(i:Int)<i:=by omega
 obtain⟨s,ay⟩:∃s,i=a+s:=⟨i-a,by omega⟩;subst ay
 have aq:∀u∈A.take s,k u≤k y:=fun u hu=>by
  obtain⟨q,hq,af⟩:=zDU hu;have aw:=(List.getElem?_eq_some_iff.1 af).1;obtain⟨z,hz⟩:∃z,A[s-1]?=some z:=⟨_,Zb (by omega)⟩;have g1:=h1 z (by omega) (by rw[show a+s-a-1=s-1 by omega];exact hz);have g2:=HS.o.get af hz (by omega);omega
 have au:∀u∈A.drop s,k y<k u:=fun u hu=>by
  obtain⟨q,hq,af⟩:=zDV hu;have aw:=(List.getElem?_eq_some_iff.1 af).1;obtain⟨z,hz⟩:∃z,A[s]?=some z:=⟨_,Zb (by omega)⟩;have g1:=h2 z (by rw[show a+s-a=s by omega];exact hz);have g2:=HS.o.get hz af hq;omega
 obtain⟨r1,r2⟩:=Ss.insert (x:=y) (s:=A.take s) (g:=A.drop s) (by rw[ZI];exact HS.o) aq au;rw[ZI]at r2;have R1:=hy' r1;have R2:=hy' r2;have ap:Hy (Ss.At wr g sz (P++(A.take A.length++(y::(A.drop A.length++Q))))):=hy' (by simpa using aa);have aj:=hy' ae;clear r1 r2 aq au h1 h2 aa ae hi hij;go_wp2_with fail;obtain⟨w1,rfl⟩:∃w1:World,w1=wr:=⟨_,rfl⟩;go_loopw [17] (fun vk wq=>∃t:Nat,s≤t∧t≤A.length∧vk=.int .i64 ((a+t:Nat):Int)∧Ss.At wq g sz (P++(A.take t++(y::(A.drop t++Q))))∧w.grownBy wq (some g)) (fun vk _=>(intOf vk).toNat)
 case atStart=>exact⟨A.length,by omega,Za _,by rw[hA],ap.o,aj.o⟩
 obtain⟨t,a8,ht,rfl,aa,ae⟩:=hrel
 by_cases hts:s<t
 rotate_left
 · obtain rfl:t=s:=by omega
   have tI:¬((a+t:Nat):Int) > ((a+t:Nat):Int):=by omega
   have ax:=hy' aa;have ao:=hy' ae;clear aa ae;go_wp2_with fail;go_end0;exact⟨rfl,⟨A.take t++y::A.drop t,R1.o,R2.o,by simpa using ax.o⟩,ao.o⟩
 obtain⟨t1,rfl⟩:∃t1,t=t1+1:=⟨t-1,by omega⟩;obtain⟨u,hu⟩:∃u,A[t1]?=some u:=⟨_,Zb (by omega)⟩;obtain⟨u1,u2⟩:=List.getElem?_eq_some_iff.1 hu;have hdr:A.drop t1=u::A.drop (t1+1):=by rw[ZR u1,u2]
 have ar:A.take (t1+1)=A.take t1++[u]:=by rw[ZA,hu];rfl
 have e1:P++(A.take (t1+1)++(y::(A.drop (t1+1)++Q)))=(P++A.take t1)++u::([]++y::(A.drop (t1+1)++Q)):=by rw[ar];simp
 have e2:(P++A.take t1)++y::([]++u::(A.drop (t1+1)++Q))=P++(A.take t1++(y::(A.drop t1++Q))):=by rw[hdr];simp
 rw[e1]at aa;have l1:(P++A.take t1).length=o+(a+t1):=by rw[Zd,HP.o,Zr];omega
 have l2:(P++A.take t1).length+1+([]:List Int).length=o+(a+(t1+1)):=by rw[l1,ZY];omega
 have L1:=hy' l1;have L2:=hy' l2;clear l1 l2;have c1:=aa.cell (zC1 _ _ _);have c2:=aa.cell (zBp _ _ _ _ _);rw[L1.o]at c1;rw[L2.o]at c2;have f1:=aa.fro (o+(a+t1));have f2:=aa.fro (o+(a+(t1+1)));have gl:=aa.lt;have ak:=aa.swapB;rw[e2,L2.o,L1.o]at ak;have tI:((a+(t1+1):Nat):Int) > ((a+s:Nat):Int):=by omega
 have k0:(0:Int)≤((a+(t1+1):Nat):Int):=by omega
 have k1:((a+(t1+1):Nat):Int)<n0:=by omega
 have k2:(0:Int)≤((a+t1:Nat):Int):=by omega
 have k3:((a+t1:Nat):Int)<n0:=by omega
 have a6:=hy' ak;have ao:=hy' ae;clear hu u1 u2 hdr ar e1 e2 aa ak ae;go_wp2;go_region;go_wp2;exact⟨⟨t1,by omega,by omega,by go_num,a6.o,Ss.grown_drew (Ss.grown_set (Ss.grown_set ao.o _ _) _ _)⟩,by simp[intOf];omega⟩
end
end Go.Proofs.YtjakbblocbicjaaGreatDoor
