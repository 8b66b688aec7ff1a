/- The characters whose full decomposition begins so, by walking the text. -/
import Derived.Test.YthngjlllojiacaaGreatDoorSoOwn
import Derived.Test.YthngjlllojiacaaGreatDoorStage
set_option maxRecDepth 100000
set_option maxHeartbeats 4000000
set_option linter.unusedVariables false
set_option linter.unusedSimpArgs false
namespace Go.Proofs.YthngjlllojiacaaGreatDoor
open Go.Proofs.Tryz
section
open Go.RowKit
theorem zBt {T:List Rw.Row} {S:List Int} (ok:Ud.Ok T S) (c:Int):(Ud.full T c).length≤32:=by
 obtain⟨l,hl⟩:=zDg ok.chk c;unfold Ud.full;rw[hl];exact (zCr hl).2.2.1
theorem Ud.full_any (v:Value) (T:List Rw.Row) (S:List Int) (c:Int) (w:World) (ok:Ud.Ok T S) (h:Ud.Is w v T S) (h3 : -2147483648≤c) (h4:c≤2147483647) :
 Calls prog 40 #[v,.int .i32 c] w (zCR .i32 (Ud.full T c) w):=by
 have hS:=Hg.split_any c w h3 h4;obtain⟨s,hs⟩:∃s,zA6 c=s:=⟨_,rfl⟩;rw[hs]at hS
 by_cases hne:s=[]
 · subst hne;have hF:∀W,Below w.heap.size w W→Calls prog 74 #[v,.int .i32 c] W (Ud.RetFind T S c W):=fun W hW=>Ud.find_any v T S c W ok (h.below hW)
   have hk:=zKi hs;have hle:=zBt ok c;have hA:zEB T c=true→Ud.fl T c=Ud.full T c:=fun hz=>by unfold Ud.fl;rw[if_pos hz]
   have hB:zEB T c=false→Ud.full T c=[c]:=fun hz=>by
    refine zMR ?_ hk;unfold zEB at hz;rw[ZY]at hz;exact ZD (by omega)
   obtain⟨rn,aq⟩:∃z,(zAS T c).length=z:=⟨_,rfl⟩;obtain⟨z,hz⟩:∃z,zEB T c=z:=⟨_,rfl⟩;obtain⟨fl,ak⟩:∃z,Ud.fl T c=z:=⟨_,rfl⟩;obtain⟨pb,hpb⟩:∃z,zJF T S c=z:=⟨_,rfl⟩;obtain⟨l,hl⟩:∃z,Ud.full T c=z:=⟨_,rfl⟩;unfold Ud.RetFind at hF;rw[hz,ak,aq,hpb]at hF;rw[hl]at hle ⊢;rw[hz,ak,hl]at hA;rw[hz,hl]at hB;have HF:=hy' hF;have HA:=hy' hA;have HB:=hy' hB;clear hF hz ak hl hpb h ok h3 h4 hA hB hs hk aq;go_enter func40,ntmps40;go_wp2_with fail;refine hS.mono ?_;rintro e w0 ⟨A,cc,rfl,_,aa⟩;have av:=HF.o w0 aa;have ai:=hy' aa;clear hS aa HF;go_wp2_with fail;refine av.mono ?_;rintro e w1 ⟨m,mc,f,fc,rfl,_,af,aw⟩;have ah:Below w1.heap.size w1 (w1.alloc (.cells #[.slice m rn mc,.slice f fl.length fc,.bool pb] 134)):=(Zc _ _).alloc (Za _) _;have hn:=Rw.At.new w1 134 [.slice m rn mc,.slice f fl.length fc,.bool pb];have y1:=hn.cell 1 rfl;have ar:=hy' (ai.o.trans (aw.mono ai.o.size));have ag:=hy' (ar.o.trans (ah.mono ar.o.size));have ao:=hy' (af.below ah ah.size);clear aw hn af ah av;cases z
   · have aj:=HB.o rfl;clear HB;subst aj;clear y1 HA;go_wp2_with fail;go_ret;have hh:=ZV (w1.alloc (.cells #[.slice m rn mc,.slice f fl.length fc,.bool pb] 134)) (.cells #[.int .i32 c] 21);rw[show (w1.alloc (.cells #[.slice m rn mc,.slice f fl.length fc,.bool pb] 134)).heap.size=w1.heap.size+1 by simp]at hh;exact⟨_,_,rfl,zCa rfl _ _ hh,ag.o.alloc ag.o.size _⟩
   have aj:=HA.o rfl;subst aj;have hC:=zBU f fl.length fc _ fl _ rfl (by omega) (Za _) ao.o;clear HA HB;go_wp2_with fail;refine hC.mono ?_;rintro e w2 ⟨A',c',rfl,ae,au⟩;have HO:=hy' (Sl.of_own ae);have ax:=hy' (ag.o.trans (au.mono ag.o.size));clear ae au hC y1;go_wp2_with fail;go_ret;exact⟨A',c',rfl,HO.o,ax.o⟩
 have ap:=zKh ok (c:=c) (by rw[hs];exact hne);rw[hs]at ap;rw[ap]
 have hpos:(0:Int)<s.length:=by
  have:=List.length_pos_iff.2 hne;omega
 clear hs hne ap h ok h3 h4;go_enter func40,ntmps40;go_wp2_with fail;refine hS.mono ?_;rintro e w0 ⟨A,cc,rfl,af,aa⟩;have ao:=hy' af;have ai:=hy' aa;clear hS aa af;go_wp2_with fail;go_ret;exact⟨A,cc,rfl,ao.o,ai.o⟩
def Ud.joinK (T:List Rw.Row) (S:List Int) (a b:Int):Int × Bool :=
 if (Hg.joinK a b).2=true then ((Hg.joinK a b).1,true) else ((zCb T (C.mem S) T a b).getD 0,(zCb T (C.mem S) T a b).isSome)
theorem Ud.join_any (v:Value) (T:List Rw.Row) (S:List Int) (a c:Int) (w:World) (ok:Ud.Ok T S) (h:Ud.Is w v T S) (h1 : -2147483648≤a) (h2:a≤2147483647) (h3 : -2147483648≤c) (h4:c≤2147483647) :
 Calls prog 116 #[v,.int .i32 a,.int .i32 c] w fun e w'=>e=.returned (.tuple #[.int .i32 (Ud.joinK T S a c).1,.bool (Ud.joinK T S a c).2])∧Below w.heap.size w w':=by
 have hJ:=Hg.join_any a c w h1 h2 h3 h4;have hj:Ud.joinK T S a c=if (Hg.joinK a c).2=true then ((Hg.joinK a c).1,true) else ((zCb T (C.mem S) T a c).getD 0,(zCb T (C.mem S) T a c).isSome):=rfl
 rcases hjk:Hg.joinK a c with ⟨x,is⟩
 rw[hjk]at hj hJ;cases is
 · rw[Zj (by simp)]at hj;rw[hj];obtain⟨b,A0,c0,XA,xc,pc,pp,A3,c3,mb,jb,A4,c4,A5,c5,A6,c6,es,rfl,ae,_,_,ai,aj,aa,_,af,_⟩:=h.is;obtain⟨F,ah,ag⟩:=af;have hl:=zQQ ah ⟨h1,h2⟩ ⟨h3,h4⟩;have e0:F (zEo a c)=(zCb T (C.mem S) T a c).map (Value.int .i32):=ag a c;rw[e0]at hl;have z6:=ae.cell 6 rfl;have ak:=ae.lt;obtain⟨o,ho⟩:∃o,zCb T (C.mem S) T a c=o:=⟨_,rfl⟩;rw[ho]at hl ⊢;have e1:(o.map (Value.int .i32)).getD (.int .i32 0)=.int .i32 (o.getD 0):=by cases o <;> rfl
   have e2:(o.map (Value.int .i32)).isSome=o.isSome:=by cases o <;> rfl
   rw[e1,e2]at hl;obtain⟨u,hu⟩:∃u,o.getD 0=u:=⟨_,rfl⟩;obtain⟨t,ht⟩:∃t,o.isSome=t:=⟨_,rfl⟩;rw[hu,ht]at hl ⊢;clear ah ag e0 e1 e2 ho hu ht aa ai aj ae h ok hj hjk h1 h2 h3 h4;go_enter func116,ntmps116;go_wp2_with fail;refine hJ.mono ?_;rintro e w0 ⟨rfl,rfl⟩;clear hJ;go_wp2_with fail;go_ret2;exact⟨rfl,Zc _ _⟩
 rw[Zl rfl]at hj;rw[hj];clear h ok hj hjk h1 h2 h3 h4;go_enter func116,ntmps116;go_wp2_with fail;refine hJ.mono ?_;rintro e w0 ⟨rfl,rfl⟩;clear hJ;go_wp2_with fail;go_ret2;exact⟨rfl,Zc _ _⟩
theorem zN4 {w:World} {base:Nat} {e:TypeId} {size n c g j:Nat} {xs:List Value} (h:w.ownsRow base e size (.slice (some ⟨g,0,none⟩) n c) n xs) (hj:j<xs.length) (u:Value) :
 (w.setCell ⟨g,j,none⟩ u).ownsRow base e size (.slice (some ⟨g,0,none⟩) n c) n (xs.set j u):=by
 obtain⟨h1,h2⟩:=h;refine⟨by rw[Y3];exact h1,?_⟩;rcases h2 with ⟨h2,_⟩|⟨g',cap,aa,hv,hg,hc,hn,hm,hs,ht⟩
 · cases h2
 cases hv
 refine .inr ⟨g,c,aa.set! j u,rfl,hg,?_,hn,hm,by simp[hs],?_⟩
 · simp[World.setCell,YY,hc]
 rw[←ht];apply XL
 intro i;simp only[Yk,Qa,Array.toList_set!,Zr,XW];have hl:n*size≤aa.size:=by rw[hs];exact Qo _ hn
 rw[h1]at hj
 by_cases h3:j=i
 · subst h3;simp[hj,show j<aa.size by omega];omega
 simp[h3]
theorem zF9 {w:World} {base:Nat} {e:TypeId} {size n c b o:Nat} {xs:List Value} (h:w.ownsRow base e size (.slice (some ⟨b,o,none⟩) n c) n xs):o=0∧base≤b∧b<w.heap.size∧∀j,w.frozen? ⟨b,j,none⟩=false:=by
 rcases h.2 with ⟨h2,_⟩|⟨g',cap,aa,hv,hg,hc,hn,hm,hs,ht⟩
 · cases h2
 cases hv
 exact⟨rfl,hg,zDq hc,fun j=>by simp[World.frozen?,hc]⟩
def C.run (a:Int) (n:Nat):List Int:=(List.range n).map fun (i:Nat)=>a+(i:Int)
theorem zOV (a:Int) (n:Nat):C.run a (n+1)=C.run a n++[a+(n:Int)]:=by
 unfold C.run;rw[List.range_succ,List.map_append];rfl
theorem C.run_len (a:Int) (n:Nat):(C.run a n).length=n:=by simp[C.run]
def zCA (rs:List (Int × Int)):List Int:=rs.flatMap fun r=>C.run r.1 (r.2-r.1+1).toNat
theorem zIt {rs:List (Int × Int)} {i:Nat} {r:Int × Int} (h:rs[i]?=some r):zCA (rs.take (i+1))=zCA (rs.take i)++C.run r.1 (r.2-r.1+1).toNat:=by
 unfold zCA;rw[ZA,h,YG];simp
theorem zJI (S:List Int) (aa:C.ok S):∀i,i≤(zAH S).length→((zCA ((zAH S).take i)).length:Int)=C.part S i
 | 0,_=>by simp[zCA,zRr]
 | i+1,h=>by
   obtain⟨r,hr⟩:∃r,(zAH S)[i]?=some r:=⟨_,Zb (by omega)⟩;obtain⟨b1,b2,b3,b4⟩:=zKg aa hr;rw[zIt hr,zIe aa hr,Zd,C.run_len];have:=zJI S aa i (by omega);omega
theorem zQ7 {w:World} {base:Nat} {e e':TypeId} {size n g:Nat} {v:Value} {xs:List Value} {cs:Array Value} {fr:Nat × Nat} (h:w.ownsRow base e size v n xs) (hb:w.heap[g]?=some (.cells cs e' fr)) (he:e≠e'):some g≠v.ownBlock:=by
 intro hv;rcases h.2 with ⟨rfl,_⟩|⟨g2,cap,ae,rfl,_,aa,_⟩
 · simp[Value.ownBlock]at hv
 simp only[Value.ownBlock,Zg]at hv;subst hv;rw[hb]at aa;simp only[Zg,XE]at aa;exact he aa.2.1.symm
theorem zQ8 {S:List Int} (aa:C.ok S) {i:Nat} (h:i≤(zAH S).length):(zCA ((zAH S).take i)).length≤1114112:=by
 have h1:=zJI S aa i h;have h2:=(zLs aa i).2;have h3:=(zJs aa).2;omega
def zJJ (xs:List Int) (w:World) (e:Ending) (w':World):Prop :=
 ∃A c,e=.returned (.slice A xs.length c)∧w'.ownsRow w.heap.size 21 1 (.slice A xs.length c) xs.length (xs.map (Value.int .i32))∧Below w.heap.size w w'
theorem zJ8 (A:Option Addr) (c n B:Nat) (l:List Int) (w:World) (hn:l.length=n) (b3:n≤1000000) (a1:C.ok l) (hB:B≤w.heap.size) (hA:Sl w B A (l.map (Value.int .i32))) :
 Calls prog 97 #[.agg #[.slice A n c]] w (zJJ (zCA (zAH l)) w):=by
 have HR:=hy' (zLr A c n B l);have HN:=hy' hn;have bb:=hy' a1;have ak:=hy' (fun i=>zQ8 a1 (i:=i));have ax:=zGy l;rw[hn]at ax;obtain⟨rs,az⟩:∃rs,zAH l=rs:=⟨_,rfl⟩;have bz:=hy' az;rw[az]at HR ax ak ⊢;obtain⟨m,hm⟩:∃m,rs.length=m:=⟨_,rfl⟩;rw[hm]at ax ak;have HM:=hy' hm;have b9:m≤500000:=by omega
 obtain⟨j0,hj0,bo,bt,bp⟩:=Z7 zCl;clear hn a1 ax az hm;go_enter func97,ntmps97;go_wp2_with fail;have a8:Below w.heap.size w (w.alloc (.cells #[.slice A n c] 96)):=(Zc _ _).alloc (Za _) _;refine (HR.o _ HN.o b3 (by have:=bb.o.2.2;rw[HN.o]at this;exact this) bb.o.2.1 (by simp;omega) (hA.belowN a8 hB (Za _))).mono ?_;rintro e w1 ⟨A5,c5,rfl,aa,aq⟩;have hS:=hy' (Sl.of_own aa);have a6:=a8.trans (aq.mono (by simp));rw[HM.o]at aa ⊢;clear aa hA aq a8;go_wp2;go_loopw [10,3] (fun vi vo wr=>∃(i:Nat) (acc:List Int),i≤m∧vi=.int .i64 i∧acc=zCA (rs.take i)∧wr.ownsRow w1.heap.size 21 1 vo acc.length (acc.map (Value.int .i32))∧Below w1.heap.size w1 wr) (fun vi _ _=>m-(intOf vi).toNat)
 case atStart=>exact⟨0,[],by omega,rfl,rfl,ZI _ _ _ _,Zc _ _⟩
 obtain⟨i,acc,hi,rfl,ag,aa,ap⟩:=hrel;obtain⟨w2,rfl⟩:∃w2:World,w2=wr:=⟨_,rfl⟩;obtain⟨q,hq⟩:∃q,acc.length=q:=⟨_,rfl⟩;rw[hq]at aa;obtain⟨A6,c6,rfl⟩:=zA3 aa;have HQ:=hy' hq;have ay:=hy' ag;have bw:w1.heap.size≤w2.heap.size:=ap.size
 by_cases hlt:(i:Int)<m
 rotate_left
 · obtain rfl:i=m:=by omega
   have e0:acc=zCA rs:=by rw[ay.o,Zi (by rw[HM.o];exact Za _)]
   have E0:=hy' e0;clear e0 ag hq;go_wp2;go_ret;refine⟨A6,c6,(by rw[←E0.o,HQ.o];rfl),?_,a6.trans (ap.mono a6.size)⟩;rw[←E0.o,HQ.o];exact own_base aa a6.size
 obtain⟨⟨x,y⟩,hr⟩:∃r,rs[i]?=some r:=⟨_,Zb (by rw[HM.o];omega)⟩;obtain⟨b,o,rfl,b8,bg,bh⟩:=hS.out.pair hr;rw[←(zAP ap).1 _ _ (by omega)]at bg bh;have ao:=zIt hr;have b4:=hr;rw[←bz.o]at hr;obtain⟨r1,r2,r3,r4⟩:=zKg bb.o hr;have hlen:=ak.o (i+1) (by omega);rw[ao,Zd,C.run_len,←ag,hq]at hlen;rw[←ag]at ao;simp only at r1 r2 r3 r4 ao hlen bg bh;obtain⟨N,hN⟩:∃N:Nat,(y-x+1).toNat=N:=⟨_,rfl⟩;rw[hN]at ao hlen;have b6:=hy' ao;have n0:(0:Int)≤(i:Int):=by omega
 have n1:(i:Int)<m:=by omega
 have bm:y=x+(N:Int)-1:=by omega
 subst bm;obtain⟨W,hW⟩:∃W,w2.alloc (.cells #[.int .i32 x,.int .i32 (x+(N:Int)-1)] 242)=W:=⟨_,rfl⟩;have ar:W.heap[w2.heap.size]?=some (.cells #[.int .i32 x,.int .i32 (x+(N:Int)-1)] 242):=by rw[←hW];exact ZV w2 _
 have au:W.ownsRow w1.heap.size 21 1 (.slice A6 q c6) q (acc.map (Value.int .i32)):=by rw[←hW];exact aa.alloc _
 have a7:Below w1.heap.size w1 W:=by rw[←hW];exact ap.alloc bw _
 have b7:W.heap.size=w2.heap.size+1:=by rw[←hW];simp
 have HW:=hy' hW;have ba:=hy' ar;clear hr b4 ao ag hq hW ar ap aa;go_wp2;rw[HW.o];go_loopw [3,6] (fun bk vc av=>∃k:Nat,k≤N∧vc=.int .i32 (x+(k:Int))∧av.ownsRow w1.heap.size 21 1 bk (q+k) ((acc++C.run x k).map (Value.int .i32))∧av.heap[w2.heap.size]?=some (.cells #[.int .i32 x,.int .i32 (x+(N:Int)-1)] 242)∧Below w1.heap.size w1 av∧W.heap.size≤av.heap.size) (fun _ vc _=>(x+(N:Int)-intOf vc).toNat)
 case atStart =>
  refine⟨0,by omega,by simp,?_,ba.o,a7,Za _⟩;simpa [C.run] using au
 obtain⟨k,hk,rfl,ae,af,aw,bj⟩:=hrel;obtain⟨w3,rfl⟩:∃w3:World,w3=wr:=⟨_,rfl⟩;obtain⟨A7,c7,rfl⟩:=zA3 ae;obtain⟨d0,_⟩:=zHP af 0;obtain⟨d1,_⟩:=zHP af 1;simp only[Qg,Y4,YM]at d0 d1;have bi:w1.heap.size≤w3.heap.size:=aw.size;have bs:w2.heap.size<w3.heap.size:=by omega
 have b1:0≤x+(k:Int):=by omega
 have b2:x+(k:Int)≤1114112:=by omega
 have bx:=hy' af;clear af
 by_cases hlt3:x+(k:Int)≤x+(N:Int)-1
 · have hZ:=hy' (zCa (w:=w3.alloc (.cells #[.int .i32 (x+(k:Int))] 21)) (A:=some ⟨w3.heap.size,0,none⟩) (xs:=[.int .i32 (x+(k:Int))]) rfl 21 (0,0) (ZV w3 _));have bc:Below w3.heap.size w3 (w3.alloc (.cells #[.int .i32 (x+(k:Int))] 21)):=(Zc _ _).alloc (Za _) _;have aj:=hy' (zA4 ae bc (Za _));have br:w1.heap.size≤(w3.alloc (.cells #[.int .i32 (x+(k:Int))] 21)).heap.size:=by simp;omega
   have bf:=hy' ((bc.block w2.heap.size bs).trans bx.o);have bn:=aw.alloc bi (.cells #[.int .i32 (x+(k:Int))] 21);have bu:w2.heap.size<(w3.alloc (.cells #[.int .i32 (x+(k:Int))] 21)).heap.size:=by simp;omega
   have hne:=zQ7 aj.out bf.o (by decide);have bl:=hy' (show w3.heap.size≤(w3.alloc (.cells #[.int .i32 (x+(k:Int))] 21)).heap.size by simp);clear ae bc aw;go_wp2_with (at_builtin;refine zAd _ rfl _ _ _ rfl w1.heap.size 21 j0 _ 1 4 underlying80 hj0 bo bt bp rfl (by omega) _ (q+k) _ rfl aj.out _ (some ⟨w3.heap.size,0,none⟩) 1 1 [.int .i32 (x+(k:Int))] rfl rfl hZ.out (by simp[Value.oneCell']) (by simp only[maxLen];omega) (by omega) br ?_;intro v1 w5 ah b5 ai;obtain⟨A8,c8,rfl⟩:=zA3 ah);refine⟨⟨k+1,by omega,by go_num,?_,(ai.block _ bu hne).trans bf.o,bn.trans b5,Zh bj (Zh bl.o ai.size)⟩,by simp[intOf];omega⟩;rw[zOV,←Zz,ZO,←Yi];exact ah
 obtain rfl:k=N:=by omega
 have bq:w1.heap.size≤w3.heap.size:=bi;go_wp2;refine⟨⟨i+1,acc++C.run x k,by omega,by go_num,b6.o.symm,?_,aw⟩,by simp[intOf];omega⟩;rw[Zd,HQ.o,C.run_len];exact ae
end
theorem zLO {a:Int} {n:Nat} {d:Int}:d∈C.run a n↔a≤d∧d<a+(n:Int):=by
 unfold C.run;rw[Q4];constructor
 · rintro⟨i,hi,rfl⟩;rw[Jk]at hi;omega
 rintro⟨h1,h2⟩;exact⟨(d-a).toNat,by rw[Jk];omega,by omega⟩
theorem zJK (rs:List (Int × Int)) (d:Int):d∈zCA rs↔zPT rs d=true:=by
 unfold zCA zPT;rw[List.mem_flatMap,Yo];constructor
 · rintro⟨r,hr,hd⟩;rw[zLO]at hd;exact⟨r,hr,by simp;omega⟩
 rintro⟨r,hr,hd⟩;simp at hd;exact⟨r,hr,by rw[zLO];omega⟩
theorem zKs {S:List Int} (aa:C.ok S) (hC:∀d,C.mem S d=true→C.isC d=true):C.chars (zCA (zAH S))=S:=by
 obtain⟨h1,h2⟩:=zC0 (zCA (zAH S));refine zPI _ _ h1.1 aa.1 fun d=>?_
 rw[h2 d]
 have e:decide (d∈zCA (zAH S))=C.mem S d:=by
  rw[←zGF S aa d,Yg,Yu];exact zJK _ d
 rw[e];cases hm:C.mem S d
 · rfl
 rw[hC d hm];rfl
theorem zLP:∀(cs acc:List Int),(zEx cs acc).length≤acc.length+2*cs.length
 | [],acc=>by simp[zEx]
 | c::t,acc=>by
   have h:(C.step C.isC acc c (c+1)).length≤acc.length+2:=by
    unfold C.step;split
    · split
      · rw[Zd,List.length_dropLast];simp;omega
      rw[Zd];simp
    omega
   have h2:=zLP t (C.step C.isC acc c (c+1));show (zEx t (C.step C.isC acc c (c+1))).length≤_;rw[ZF];omega
theorem C.chars_len (l:List Int):(C.chars l).length≤2*l.length:=by
 have h1:=zLP (zEy l) []
 have h2:(zEy l).length≤l.length:=by
  unfold zEy Lib.compactUpTo;rw[Ze];exact Zh (XH _ _) (by simp)
 unfold C.chars;simp at h1;omega
section
open Go.RowKit
end
theorem zIu {T:List Rw.Row} {S:List Int} (h:Ud.Ok T S) {a:Int} (ha:C.isC a=true):∀y∈Ud.full T a,C.isC y=true:=by
 obtain⟨l,hl⟩:=zDg h.chk a;have hf:Ud.full T a=l:=by unfold Ud.full;rw[hl];rfl
 rw[hf];unfold Md.full at hl;rw[zBv _ _ _ _ (by simp)]at hl;cases hv:Md.lv (Md.mp T) (T.length+3) a with
 | none=>rw[hv]at hl;cases hl
 | some b =>
   rw[hv,Zy]at hl;unfold Md.fit at hl;split at hl
   rotate_left
   · cases hl
   simp only[ZH,Zg]at hl;subst hl;refine zIa (Q:=fun y=>C.isC y=true) (fun c d hd=>?_) _ _ _ hv ha;unfold Md.mp at hd;split at hd
   · rename_i hp;rw[zCs]at hp;simp only[Zm]at hp;have hk:=zF3 c;have aa:zA2 c=4∨zA2 c=5:=by omega
     have hs:=zAt c aa;rcases aa with h4|h5
     · rw[zAN c h4]at hd;simp only[Xd,Z6,QP]at hd;unfold C.isC;simp only[Zm];omega
     rw[zAT c h5]at hd;simp only[Xd,Z6,QP]at hd;unfold C.isC;simp only[Zm];omega
   unfold zAS at hd;cases hf:Md.find T c with
   | none=>rw[hf]at hd;simp at hd
   | some r =>
     rw[hf]at hd;exact ((h.good r (zAq hf).1).2.2.2.2.2 d (by simpa using hd)).1
section
open Go.RowKit
theorem zLQ (a b:Int):(Hg.joinK a b).2=true→zAg (Hg.joinK a b).1=(a,b,true):=by
 unfold Hg.joinK;split
 · rename_i h;obtain⟨ha,hb⟩:=h;have h1:=zFB a ha;have h2:=zEt b hb;intro _;simp only[];rw[zAN _ (zCU _ (by omega) (by omega) (by omega))];refine QA ?_ (QA ?_ rfl) <;> simp only[] <;> omega
 split
 · rename_i h;obtain⟨ha,hb⟩:=h;have h1:=zAt a (.inl ha);have h2:=zH4 b hb;have h3:(a-44032)%28=0:=by unfold zA2 at ha;grind
   intro _;simp only[];have h5:zA2 (a+b-4519)=5:=by unfold zA2;grind
   rw[zAT _ h5];refine QA ?_ (QA ?_ rfl) <;> simp only[] <;> omega
 intro h;simp at h
theorem zOW (a b:Int):(Hg.joinK a b).2=decide ((zA2 a=1∧zA2 b=2)∨(zA2 a=4∧zA2 b=3)):=by
 unfold Hg.joinK;split
 · rename_i h;simp[h]
 split
 · rename_i h;simp[h]
 rename_i h h';simp[h,h']
theorem zSc {z:Int} {k:Nat} (h:z=k) (hk:k≤4000000):wrap64 z=k:=by
 subst h;unfold wrap64;omega
theorem zRi {z y:Int} (h:z=y) (hk:0≤y∧y≤4000000):wrap64 z=y:=by
 subst h;unfold wrap64;omega
def Ss.At (w:World) (g sz:Nat) (Z:List Int):Prop:=∃R:List Value,Z.length+R.length=sz∧Rw.At w g 21 (Z.map (Value.int .i32)++R)
theorem Ss.At.cell {w:World} {g sz:Nat} {Z:List Int} (h:Ss.At w g sz Z) {i:Nat} {x:Int} (hx:Z[i]?=some x):w.cell? ⟨g,i,none⟩=some (.int .i32 x):=by
 obtain⟨R,hs,h⟩:=h;refine Rw.At.cell h i ?_;rw[ZS (by rw[Ze];exact (List.getElem?_eq_some_iff.1 hx).1),Zw,hx];rfl
theorem Ss.At.fro {w:World} {g sz:Nat} {Z:List Int} (h:Ss.At w g sz Z) (i:Nat):w.frozen? ⟨g,i,none⟩=false:=by
 obtain⟨R,hs,h⟩:=h;exact Rw.At.frozen h i
theorem Ss.At.lt {w:World} {g sz:Nat} {Z:List Int} (h:Ss.At w g sz Z):g<w.heap.size:=by
 obtain⟨R,hs,h⟩:=h;exact Rw.At.lt h
theorem Ss.At.set {w:World} {g sz:Nat} {Z:List Int} (h:Ss.At w g sz Z) (i:Nat) (hi:i<Z.length) (x:Int):Ss.At (w.setCell ⟨g,i,none⟩ (.int .i32 x)) g sz (Z.set i x):=by
 obtain⟨R,hs,h⟩:=h;refine⟨R,by rw[Y3];exact hs,?_⟩;rw[Qz,←Jq _ _ (by rw[Ze];exact hi)];exact Rw.At.set h i _
theorem Ss.At.swapA {w:World} {g sz:Nat} {P M Q:List Int} {x y:Int} (h:Ss.At w g sz (P++x::(M++y::Q))):Ss.At ((w.setCell ⟨g,P.length,none⟩ (.int .i32 y)).setCell ⟨g,P.length+1+M.length,none⟩ (.int .i32 x)) g sz (P++y::(M++x::Q)):=by
 have:=(h.set P.length (by simp) y).set (P.length+1+M.length) (by simp;omega) x;rw[zKc]at this;exact this
theorem Ss.At.swapB {w:World} {g sz:Nat} {P M Q:List Int} {x y:Int} (h:Ss.At w g sz (P++x::(M++y::Q))):Ss.At ((w.setCell ⟨g,P.length+1+M.length,none⟩ (.int .i32 x)).setCell ⟨g,P.length,none⟩ (.int .i32 y)) g sz (P++y::(M++x::Q)):=by
 have:=(h.set (P.length+1+M.length) (by simp;omega) x).set P.length (by simp) y;rw[zPC]at this;exact this
theorem Ss.At.below {w w':World} {g sz:Nat} {Z:List Int} (h:Ss.At w g sz Z) (hb:Below w.heap.size w w'):Ss.At w' g sz Z:=by
 obtain⟨R,hs,h⟩:=h;exact⟨R,hs,Rw.At.below h hb⟩
theorem Ss.At.drew {w:World} {g sz:Nat} {Z:List Int} (h:Ss.At w g sz Z):Ss.At w.drew g sz Z:=h
theorem Ss.grown_drew {w w':World} {row:Option Nat} (h:w.grownBy w' row):w.grownBy w'.drew row:=⟨h.os,h.tape,h.output,h.size,h.block⟩
theorem zAO (w:World) (row:Option Nat):w.grownBy w row:=⟨rfl,rfl,rfl,Za _,fun _ _ _=>rfl⟩
theorem Ss.grown_below {w w':World} {row:Option Nat} (h:Below w.heap.size w w'):w.grownBy w' row:=⟨h.os,h.tape,h.output,h.size,fun k hk _=>h.block k hk⟩
theorem Ss.grown_set {w w':World} {g:Nat} (h:w.grownBy w' (some g)) (i:Nat) (v:Value):w.grownBy (w'.setCell ⟨g,i,none⟩ v) (some g):=zA0 h (Rw.grown_set g i v)
theorem zHI (sz g o n0 cap a b n:Nat) (cv:Value) (P X M Y Q:List Int) (w:World) (hZ:Ss.At w g sz (P++(X++(M++(Y++Q))))) (hP:P.length=o+a) (hX:X.length=n) (hY:Y.length=n) (hM:a+n+M.length=b) (hn:b+n≤n0) (av:n0≤1000000) :
 Calls prog 259 #[.slice (some ⟨g,o,none⟩) n0 cap,.int .i64 a,.int .i64 b,.int .i64 n,cv] w fun e w'=>e=.returned (.tuple #[])∧Ss.At w' g sz (P++(Y++(M++(X++Q))))∧w.grownBy w' (some g):=by
 have ae:=hy' (Ss.mid_all (P:=P) (M:=M) (Q:=Q) hX hY);have HZ:=hy' hZ;have HX:=hy' hX;have HY:=hy' hY;have HP:=hy' hP;have HM:=hy' hM;clear hZ hX hY hP hM;go_enter func259,ntmps259;go_wp2_with fail;go_loopw [10] (fun i wr=>∃t:Nat,t≤n∧i=.int .i64 t∧Ss.At wr g sz (Ss.mid P X M Y Q t)∧w.grownBy wr (some g)) (fun i _=>n-(intOf i).toNat)
 case atStart=>exact⟨0,ZG _,rfl,by rw[zMw];exact HZ.o,zAO _ _⟩
 obtain⟨t,ht,rfl,aa,af⟩:=hrel;have ak:=hy' af
 by_cases hlt:t<n
 rotate_left
 · obtain rfl:t=n:=by omega
   have tI:¬(t:Int)<t:=by omega
   rw[ae.o]at aa;have ap:=hy' aa;clear aa af;go_wp2_with fail;go_end0;exact⟨rfl,ap.o,ak.o⟩
 obtain⟨x,hx⟩:∃x,X[t]?=some x:=⟨_,Zb (by rw[HX.o];exact hlt)⟩;obtain⟨y,hy⟩:∃y,Y[t]?=some y:=⟨_,Zb (by rw[HY.o];exact hlt)⟩;obtain⟨e1,e2⟩:=zMx (P:=P) (M:=M) (Q:=Q) hx hy;obtain⟨l1,l2⟩:=Ss.mid_len (P:=P) (M:=M) HX.o HY.o hlt;rw[HP.o]at l1 l2;have ah:(P++Y.take t).length+1+(X.drop (t+1)++(M++X.take t)).length=o+(b+t):=by have:=HM.o;omega
 have ao:(P++Y.take t).length=o+(a+t):=by omega
 have ai:=hy' ao;have aj:=hy' ah;clear l1 l2 ao ah;rw[e1]at aa;have c1:=aa.cell (zBY _ _ _);have c2:=aa.cell (zBm _ _ _ _ _);rw[ai.o]at c1;rw[aj.o]at c2;have f1:=aa.fro (o+(a+t));have f2:=aa.fro (o+(b+t));have gl:=aa.lt;have ag:=aa.swapA;rw[←e2,aj.o,ai.o]at ag;have tI:(t:Int)<n:=by omega
 have a0:(0:Int)≤(a:Int)+t:=by omega
 have a1:(a:Int)+t<n0:=by have:=HM.o;omega
 have b0:(0:Int)≤(b:Int)+t:=by omega
 have b1:(b:Int)+t<n0:=by omega
 have ar:¬a=b:=by have:=HM.o;omega
 have au:¬b=a:=fun h=>ar h.symm
 have wA:wrap64 ((a:Int)+t)=(a:Int)+t:=zRi (by omega) (by omega);have wB:wrap64 ((b:Int)+t)=(b:Int)+t:=zRi (by omega) (by omega);have tA:((a:Int)+t).toNat=a+t:=by omega
 have tB:((b:Int)+t).toNat=b+t:=by omega
 have aq:=hy' ag;clear hx hy e1 e2 aa af ag;go_wp2;go_region;go_wp2;exact⟨⟨t+1,by omega,by go_num,aq.o,Ss.grown_drew (Ss.grown_set (Ss.grown_set ak.o _ _) _ _)⟩,by simp[intOf];omega⟩
def zCc (a b:Int):Int:=if a<b then -1 else if b<a then 1 else 0
theorem zCZ (a b:Int):zCc a b<0↔a<b:=by
 unfold zCc;split
 · simp;assumption
 split
 · constructor
   · intro h;omega
   intro h;omega
 constructor
 · intro h;omega
 intro h;omega
def Ss.Cmp (aa:FuncId) (cd:Option Addr) (k:Int→Int) (g:Nat) (w:World):Prop:=∀W,w.grownBy W (some g)→∀x y:Int,Calls prog aa #[.int .i32 x,.int .i32 y,.pointer cd] W fun e w'=>e=.returned (.int .i64 (zCc (k x) (k y)))∧Below W.heap.size W w'
theorem Ss.Cmp.grown {aa:FuncId} {cd:Option Addr} {k:Int→Int} {g:Nat} {w w':World} (h:Ss.Cmp aa cd k g w) (hg:w.grownBy w' (some g)):Ss.Cmp aa cd k g w':=fun W hW=>h W (zA0 hg hW)
theorem zKt (sz g o n0 cap a m b:Nat) (cv:Value) (P U V Q:List Int) (w:World) (hZ:Ss.At w g sz (P++(U++(V++Q)))) (hP:P.length=o+a) (hU:a+U.length=m) (hV:m+V.length=b) (hu:a<m) (hv:m<b) (hn:b≤n0) (bg:n0≤1000000) :
 Calls prog 243 #[.slice (some ⟨g,o,none⟩) n0 cap,.int .i64 a,.int .i64 m,.int .i64 b,cv] w fun e w'=>e=.returned (.tuple #[])∧Ss.At w' g sz (P++(V++(U++Q)))∧w.grownBy w' (some g):=by
 have aw:=hy' (fun i k n P X M Y Q W h1 h2 h3 h4 h5 h6=>zHI sz g o n0 cap i k n cv P X M Y Q W h1 h2 h3 h4 h5 h6 bg);have HZ:=hy' hZ;have HP:=hy' hP;have HU:=hy' hU;have HV:=hy' hV;clear hZ hP hU hV;go_enter func243,ntmps243;go_wp2_with fail;go_loopw [10,11] (fun vi vj wr=>∃(i j:Nat) (X Y Pl Sr:List Int),1≤i∧1≤j∧i≤m∧m+j≤b∧vi=.int .i64 i∧vj=.int .i64 j∧X.length=i∧Y.length=j∧Ss.At wr g sz (Pl++(X++(Y++Sr)))∧Pl.length=o+(m-i)∧Pl++(Y++(X++Sr))=P++(V++(U++Q))∧w.grownBy wr (some g)) (fun vi vj _=>(intOf vi).toNat+(intOf vj).toNat)
 case atStart=>exact⟨m-a,b-m,U,V,P,Q,by omega,by omega,by omega,by omega,ZT (Value.int .i64) (by omega),ZT (Value.int .i64) (by omega),by have:=HU.o;omega,by have:=HV.o;omega,HZ.o,by rw[HP.o];omega,rfl,zAO _ _⟩
 obtain⟨i,j,X,Y,Pl,Sr,bn,bf,bk,bj,rfl,rfl,hX,hY,ai,ak,aq,ar⟩:=hrel;have a6:=hy' ar;have a8:=hy' aq;have bc:=hy' ak;have HX:=hy' hX;have HY:=hy' hY;rcases XJ i j with hij|hij|hij
 · have ah:Y=Y.take (j-i)++Y.drop (j-i):=(ZE _ _).symm;have az:(Y.take (j-i)).length=j-i:=by rw[Zr];omega
   have ap:(Y.drop (j-i)).length=i:=by rw[ZM];omega
   obtain⟨Y1,a7⟩:∃l,Y.take (j-i)=l:=⟨_,rfl⟩;obtain⟨Y2,ax⟩:∃l,Y.drop (j-i)=l:=⟨_,rfl⟩;rw[a7,ax]at ah;rw[a7]at az;rw[ax]at ap;have aa:Ss.At wr g sz (Pl++(X++(Y1++(Y2++Sr)))):=by rw[ah]at ai;simpa using ai
   have hS:=hy' (aw.o (m-i) (m+j-i) i Pl X Y1 Y2 Sr wr aa ak hX ap (by omega) (by omega));have hne:((i:Int) != (j:Int))=true:=by simp;omega
   have hgt:¬((i:Int) > (j:Int)):=by omega
   have a1:=hy' ah;have bh:=hy' az;have bm:=hy' ap;clear ai aa ah a7 ax ar aq ak hX hY az ap;go_wp2_with fail;rw[show (m:Int)-i=((m-i:Nat):Int) from by omega,show (m:Int)+j-i=((m+j-i:Nat):Int) from by omega];refine hS.out.mono ?_;rintro e w1 ⟨rfl,ae,aj⟩;have af:=hy' ae;have ao:=hy' (zA0 a6.o aj);clear ae aj hS;go_wp2_with fail;exact⟨⟨i,j-i,Y2,Y1,Pl,X++Sr,bn,by omega,bk,by omega,rfl,ZT (Value.int .i64) (by omega),bm.o,bh.o,af.o,bc.o,by rw[←a8.o,a1.o];simp,ao.o⟩,by simp[intOf];omega⟩
 · subst hij;have aa:Ss.At wr g sz (Pl++(X++([]++(Y++Sr)))):=by simpa using ai
   have hS:=hy' (aw.o (m-i) m i Pl X [] Y Sr wr aa ak hX hY (by simp;omega) (by omega));have hne:((i:Int) != (i:Int))=false:=by simp
   clear ai aa ar aq ak hX hY;go_wp2_with fail;rw[show (m:Int)-i=((m-i:Nat):Int) from by omega];refine hS.out.mono ?_;rintro e w1 ⟨rfl,ae,aj⟩;have af:=hy' ae;have ao:=hy' (zA0 a6.o aj);clear ae aj hS;go_wp2_with fail;go_end0;exact⟨rfl,by rw[←a8.o];simpa using af.o,ao.o⟩
 have ag:X=X.take j++X.drop j:=(ZE _ _).symm;have au:(X.take j).length=j:=by rw[Zr];omega
 have ay:(X.drop j).length=i-j:=by rw[ZM];omega
 obtain⟨X1,bb⟩:∃l,X.take j=l:=⟨_,rfl⟩;obtain⟨X2,av⟩:∃l,X.drop j=l:=⟨_,rfl⟩;rw[bb,av]at ag;rw[bb]at au;rw[av]at ay;have aa:Ss.At wr g sz (Pl++(X1++(X2++(Y++Sr)))):=by rw[ag]at ai;simpa using ai
 have hS:=hy' (aw.o (m-i) m j Pl X1 X2 Y Sr wr aa ak au hY (by omega) (by omega));have hne:((i:Int) != (j:Int))=true:=by simp;omega
 have hgt:(i:Int) > (j:Int):=by omega
 have ba:=hy' ag;have bl:=hy' au;have bi:=hy' ay;clear ai aa ag bb av ar aq ak hX hY au ay;go_wp2_with fail;rw[show (m:Int)-i=((m-i:Nat):Int) from by omega];refine hS.out.mono ?_;rintro e w1 ⟨rfl,ae,aj⟩;have af:=hy' ae;have ao:=hy' (zA0 a6.o aj);clear ae aj hS;go_wp2_with fail;exact⟨⟨i-j,j,X2,X1,Pl++Y,Sr,by omega,bf,by omega,bj,congrArg (Value.int .i64) (by omega),rfl,bi.o,bl.o,by simpa using af.o,by rw[List.length_append,bc.o,HY.o];omega,by rw[←a8.o,ba.o];simp,ao.o⟩,by simp[intOf];omega⟩
theorem zIv (l:List Int):l=[]∨∃s x,l=s++[x]:=by
 rcases YZ l with h|⟨s,x,h⟩
 · exact .inl h
 exact .inr ⟨s,x,by rw[h,Y0]⟩
theorem zHJ (au:FuncId) (cd:Option Addr) (k:Int→Int) (ak:∀(args:Array Value) (w:World),(callFunc au args).run prog w=.ok (.enter au args) w)
 (sz g o n0 cap a b:Nat) (P B Q:List Int) (w:World) (hC:Ss.Cmp au cd k g w) (hZ:Ss.At w g sz (P++(B++Q))) (hP:P.length=o+a) (hB:a+B.length=b) (hn:b≤n0) (bu:n0≤1000000) :
 Calls prog 221 #[.slice (some ⟨g,o,none⟩) n0 cap,.int .i64 a,.int .i64 b,.func (.func au) #[] #[.pointer cd]] w fun e w'=>e=.returned (.tuple #[])∧(∃B',Ss.so k B'∧Ss.eqv k B B'∧Ss.At w' g sz (P++(B'++Q)))∧w.grownBy w' (some g):=by
 have a7:=hy' ak;have HC:=hy' hC;have HZ:=hy' hZ;have HP:=hy' hP;have HB:=hy' hB;clear ak hC hZ hP hB;go_enter func221,ntmps221;go_wp2_with fail;go_loopw [8,9] (fun i _ wr=>∃(t:Nat) (S:List Int),1≤t∧t≤B.length+1∧i=.int .i64 ((a+t:Nat):Int)∧Ss.so k S∧Ss.eqv k (B.take t) S∧Ss.At wr g sz (P++(S++(B.drop t++Q)))∧w.grownBy wr (some g)) (fun i _ _=>b+1-(intOf i).toNat)
 case atStart =>
  refine⟨1,B.take 1,Za _,by omega,ZT (Value.int .i64) (zSc (by omega) (by have:=HB.o;omega)),?_,Ss.eqv.refl _ _,by rw[←Zz (B.take 1),ZE];exact HZ.o,zAO _ _⟩;cases B with
  | nil=>exact zG3 k
  | cons x l=>exact zLc k x
 obtain⟨t,S,bt,bx,rfl,av,aj,aa,af⟩:=hrel
 by_cases hlt:t<B.length
 rotate_left
 · have hd:B.drop t=[]:=YD (by omega);have ar:B.take t=B:=Zi (by omega);rw[hd,ZH]at aa;rw[ar]at aj;have jI:¬((a+t:Nat):Int)<b:=by have:=HB.o;omega
   have F1:=hy' av;have F2:=hy' aj;have F3:=hy' aa;have aq:=hy' af;clear av aj aa af hd ar;go_wp2_with fail;go_end0;exact⟨rfl,⟨S,F1.o,F2.o,F3.o⟩,aq.o⟩
 obtain⟨x,hx⟩:∃x,B[t]?=some x:=⟨_,Zb hlt⟩;obtain⟨a1,b1⟩:=List.getElem?_eq_some_iff.1 hx;have hdr:B.drop t=x::B.drop (t+1):=by rw[ZR a1,b1]
 have ar:B.take (t+1)=B.take t++[x]:=by rw[ZA,hx];rfl
 obtain⟨D,hD⟩:∃D,B.drop (t+1)=D:=⟨_,rfl⟩;rw[hD]at hdr;rw[hdr]at aa;have bb:S.length=t:=by rw[aj.length,Zr];omega
 have jI:((a+t:Nat):Int)<b:=by have:=HB.o;omega
 have bf:=hy' av;have bn:=hy' aj;have az:=hy' af;have br:=hy' ar;have HD:=hy' hD;have bl:=hy' aa;have a8:=hy' bb;have bp:=hy' HB.o;clear av aj af ar hD hdr hx aa bb;go_wp2_with fail;obtain⟨w1,rfl⟩:∃w1:World,w1=wr:=⟨_,rfl⟩;go_loopw [9] (fun j wq=>∃(S1 G:List Int) (jj:Nat),S1++G=S∧j=.int .i64 jj∧jj=a+S1.length∧(∀y∈G,k x<k y)∧Ss.At wq g sz (P++(S1++(x::(G++(D++Q)))))∧w1.grownBy wq (some g)) (fun j _=>(intOf j).toNat-a)
 case atStart=>exact⟨S,[],a+t,by simp,rfl,by rw[a8.o],fun y hy=>by simp at hy,bl.o,zAO _ _⟩
 obtain⟨S1,G,jj,ai,rfl,ao,hG,aa,af⟩:=hrel
 have ag:(∀y∈S1,k y≤k x)→Ss.so k (S1++x::G)∧Ss.eqv k (B.take (t+1)) (S1++x::G)∧P++(S1++(x::(G++(D++Q))))=P++((S1++x::G)++(B.drop (t+1)++Q)):=fun bi=>by
  have h1:=bf.o;rw[←ai]at h1;obtain⟨h2,h3⟩:=Ss.insert h1 bi hG;refine⟨h2,?_,by rw[HD.o];simp⟩;rw[br.o];have h4:=bn.o.app (Ss.eqv.refl k [x]);rw[←ai]at h4;exact h4.trans h3
 rcases zIv S1 with rfl|⟨S2,s,rfl⟩
 · obtain⟨f1,f2,f3⟩:=ag (fun y hy=>by simp at hy);rw[f3]at aa;have F1:=hy' f1;have F2:=hy' f2;have F3:=hy' aa;have aq:=hy' (zA0 az.o af);have hj:¬(a<jj):=by simp at ao;omega
   have gl:=aa.lt;clear ag f1 f2 f3 aa ai hG af ao;go_wp2_with fail;refine zA7 (by kernel_rfl) (by kernel_rfl) ?_
   repeat (go_big_quiet_step (fail))
   refine wpQuiet_nil ?_;intro xw;have ay:=hy' (F3.o.below xw.below);have ap:=hy' (zA0 aq.o (Ss.grown_below xw.below));go_wp2_with fail;exact⟨⟨t+1,[]++x::G,by omega,by omega,by go_num,F1.o,F2.o,ay.o,ap.o⟩,by simp[intOf];omega⟩
 obtain⟨j1,rfl⟩:∃j1,jj=j1+1:=⟨a+S2.length,by rw[ao,Zd];rfl⟩;have aw:j1=a+S2.length:=by simp at ao;omega
 have e1:P++((S2++[s])++(x::(G++(D++Q))))=(P++S2)++s::([]++x::(G++(D++Q))):=by simp
 have e2:(P++S2)++x::([]++s::(G++(D++Q)))=P++(S2++(x::((s::G)++(D++Q)))):=by simp
 have ae:=aa;rw[e1]at ae;have l1:(P++S2).length=o+j1:=by rw[Zd,HP.o];omega
 have l2:(P++S2).length+1+([]:List Int).length=o+(j1+1):=by rw[l1];rfl
 have L1:=hy' l1;have L2:=hy' l2;clear l1 l2;have c1:=ae.cell (zBY _ _ _);have c2:=ae.cell (zBm _ _ _ _ _);rw[L1.o]at c1;rw[L2.o]at c2;have gl:=aa.lt;have f1:=aa.fro (o+j1);have f2:=aa.fro (o+(j1+1))
 have bw:j1+1<n0:=by
  have h1:=ZT List.length ai;have h2:=a8.o;have h3:=bp.o;simp at h1;omega
 have j0:(0:Int)≤j1:=by omega
 have bz:(j1:Int)<n0:=by omega
 have b3:(0:Int)≤(j1:Int)+1:=by omega
 have bo:(j1:Int)+1<n0:=by omega
 have b2:(a:Int)<(j1:Int)+1:=by omega
 have tj:((j1:Int)+1).toNat=j1+1:=by omega
 have a6:=hy' ae;have bm:=hy' aa;have aq:=hy' (zA0 az.o af);have bq:=hy' af;have C1:=hy' (Ext.call (w:=wr) fun W hW=>HC.o W (zA0 (zA0 az.o af) (Ss.grown_below hW)) x s);have x1:=Ext.cells c1 gl;have x2:=Ext.cells c2 gl
 by_cases hk:k x<k s
 · have hv:zCc (k x) (k s) = -1:=Zl hk;rw[hv]at C1
   have bk:Hy (∀y∈s::G,k x<k y):=hy' fun y hy=>by
    rcases List.mem_cons.1 hy with rfl|hy
    · exact hk
    exact hG y hy
   have bj:Hy (S2++(s::G)=S):=hy' (by rw[←ai];simp);have E2:=hy' e2;have bg:=hy' aw;clear ag aa ae hG ai af ao e1 e2 hv aw;go_wp2_with fail;refine zA7 (by kernel_rfl) (by kernel_rfl) ?_;have ak:=a7.o
   repeat (go_big_quiet_step (with_reducible exact C1.o _))
   clear ak;refine wpQuiet_nil ?_;intro xw;have ah:=a6.o.below xw.below;have ax:=ah.swapB;rw[E2.o,L2.o,L1.o]at ax;have ba:=hy' ax;have ap:=hy' (zA0 bq.o (Ss.grown_below xw.below));have k1:=x1 xw;have k2:=x2 xw;have g1:=ah.fro (o+j1);have g2:=ah.fro (o+(j1+1));have bh:=ah.lt;obtain⟨wx,bc⟩:∃wx,xw.val=wx:=⟨_,rfl⟩;rw[bc]at ba ap k1 k2 g1 g2 bh ⊢;clear x1 x2 c1 c2 f1 f2 gl ah ax bc;go_wp2_with fail;go_region;go_wp2;exact⟨⟨S2,s::G,j1,bj.o,rfl,bg.o,bk.o,ba.o,Ss.grown_drew (Ss.grown_set (Ss.grown_set ap.o _ _) _ _)⟩,by simp[intOf];omega⟩
 obtain⟨v,hv⟩:∃v,zCc (k x) (k s)=v:=⟨_,rfl⟩;have bs:¬v<0:=by rw[←hv,zCZ];exact hk
 rw[hv]at C1
 have hle:∀y∈S2++[s],k y≤k x:=by
  have h1:=bf.o;rw[←ai]at h1;have h2:=h1.left;intro y hy;rcases List.mem_append.1 hy with hy|hy
  · have:=h2.cross y hy s Zq;omega
  rw[Zp]at hy;rw[hy];omega
 obtain⟨q1,q2,q3⟩:=ag hle;rw[q3]at aa;have F1:=hy' q1;have F2:=hy' q2;have F3:=hy' aa;clear ag aa ae hG ai af ao e1 e2 hv aw q1 q2 q3 hle hk;go_wp2_with fail;refine zA7 (by kernel_rfl) (by kernel_rfl) ?_;have ak:=a7.o
 repeat (go_big_quiet_step (with_reducible exact C1.o _))
 clear ak;refine wpQuiet_nil ?_;intro xw;have ay:=hy' (F3.o.below xw.below);have ap:=hy' (zA0 aq.o (Ss.grown_below xw.below));go_wp2_with fail;exact⟨⟨t+1,(S2++[s])++x::G,by omega,by omega,by go_num,F1.o,F2.o,ay.o,ap.o⟩,by simp[intOf];omega⟩
def zGg (k:Int→Int) (sz g:Nat) (P A B Q:List Int) (w:World) (e:Ending) (w':World):Prop:=e=.returned (.tuple #[])∧(∃C,Ss.so k C∧Ss.eqv k (A++B) C∧Ss.At w' g sz (P++(C++Q)))∧w.grownBy w' (some g)
theorem zEE {P A B Q:List Int} {t:Nat} {y:Int} (h:B[t]?=some y):(P++(A++(B++Q)))[P.length+A.length+t]?=some y:=by
 rw[ZJ (by omega),ZJ (by omega),ZS (by have:=(List.getElem?_eq_some_iff.1 h).1;omega)];rw[←h];congr 1;omega
theorem zFM {P A R:List Int} {t:Nat} {y:Int} (h:A[t]?=some y):(P++(A++R))[P.length+t]?=some y:=by
 rw[ZJ (by omega),ZS (by have:=(List.getElem?_eq_some_iff.1 h).1;omega)];rw[←h];congr 1;omega
theorem zOX (ai:FuncId) (cd:Option Addr) (k:Int→Int) (ah:∀(args:Array Value) (w:World),(callFunc ai args).run prog w=.ok (.enter ai args) w)
 (sz g o n0 cap a m b:Nat) (P:List Int) (x:Int) (B Q:List Int) (w:World) (hC:Ss.Cmp ai cd k g w) (hZ:Ss.At w g sz (P++([x]++(B++Q)))) (hP:P.length=o+a) (hm:a+1=m) (hB:m+B.length=b) (hn:b≤n0) (a8:n0≤1000000) (hs:Ss.so k B) :
 Calls prog 222 #[.slice (some ⟨g,o,none⟩) n0 cap,.int .i64 a,.int .i64 m,.int .i64 b,.func (.func ai) #[] #[.pointer cd]] w (zGg k sz g P [x] B Q w):=by
 have aw:=hy' ah;have HC:=hy' hC;have HZ:=hy' hZ;have HP:=hy' hP;have HB:=hy' hB;have HS:=hy' hs;subst hm
 have gz:∀(wr:World),Ss.At wr g sz (P++([x]++(B++Q)))→wr.cell? ⟨g,o+a,none⟩=some (.int .i32 x):=fun wr h=>by
  have:=h.cell (zFM (P:=P) (A:=[x]) (R:=B++Q) (t:=0) rfl);rw[YT,HP.o]at this;exact this
 have GZ:=hy' gz;clear ah hC hZ hP hB hs gz;go_enter func222,ntmps222;go_wp2_with fail;go_loopw [10,11,12] (fun vi vj _ wr=>∃i j:Nat,a+1≤i∧i≤j∧j≤b∧vi=.int .i64 i∧vj=.int .i64 j∧(∀y,a+1<i→B[i-(a+1)-1]?=some y→k y<k x)∧(∀y,B[j-(a+1)]?=some y→k x≤k y)∧Ss.At wr g sz (P++([x]++(B++Q)))∧w.grownBy wr (some g)) (fun vi vj _ _=>(intOf vj).toNat-(intOf vi).toNat)
 case atStart =>
  have:=HB.o;refine⟨a+1,b,Za _,by omega,Za _,rfl,rfl,fun y h=>by omega,fun y h=>?_,HZ.o,zAO _ _⟩;rw[Yn (by omega)]at h;cases h
 obtain⟨i,j,hi,hij,ay,rfl,rfl,h1,h2,aa,ae⟩:=hrel
 by_cases hlt:i<j
 · have a7:=HB.o;obtain⟨y,hy⟩:∃y,B[(i+j)/2-(a+1)]?=some y:=⟨_,Zb (by omega)⟩;have c1:=aa.cell (zEE (P:=P) (A:=[x]) (Q:=Q) hy);rw[HP.o,show o+a+([x]:List Int).length+((i+j)/2-(a+1))=o+(i+j)/2 by simp;omega]at c1;have c2:=GZ.o wr aa;have gl:=aa.lt;have iI:(i:Int)<j:=by omega
   have m0:(0:Int)≤(((i+j)/2:Nat):Int):=by omega
   have m1:(((i+j)/2:Nat):Int)<n0:=by omega
   have a0:(0:Int)≤(a:Int):=by omega
   have a1:(a:Int)<n0:=by omega
   have C1:=hy' (Ext.call (w:=wr) fun W hW=>HC.o W (zA0 ae (Ss.grown_below hW)) y x);have x1:=Ext.cells c1 gl;have x2:=Ext.cells c2 gl;have ao:=hy' aa;have ap:=hy' ae;have H1:=hy' h1;have H2:=hy' h2;have HY:=hy' hy;clear h1 h2 hy aa ae;go_wp2_with fail;refine zA7 (by kernel_rfl) (by kernel_rfl) ?_;have ah:=aw.o
   repeat (go_big_quiet_step (with_reducible exact C1.o _))
   clear ah;refine wpQuiet_nil ?_;intro xw;have af:=hy' (ao.o.below xw.below);have av:=hy' (zA0 ap.o (Ss.grown_below xw.below));clear x1 x2 c1 c2 gl
   by_cases hk:k y<k x
   · have hv:zCc (k y) (k x)<0:=(zCZ _ _).2 hk;have HK:=hy' hk;clear hk;go_wp2_with fail;refine⟨⟨(i+j)/2+1,j,by omega,by omega,ay,by go_num,rfl,fun z _ hz=>?_,H2.o,af.o,av.o⟩,by simp[intOf];omega⟩;rw[show (i+j)/2+1-(a+1)-1=(i+j)/2-(a+1) by omega,HY.o]at hz;cases hz
     exact HK.o
   have hv:¬zCc (k y) (k x)<0:=fun h=>hk ((zCZ _ _).1 h)
   have HK:=hy' hk;clear hk;go_wp2_with fail;refine⟨⟨i,(i+j)/2,hi,by omega,by omega,rfl,by go_num,H1.o,fun z hz=>?_,af.o,av.o⟩,by simp[intOf];omega⟩;rw[HY.o]at hz;cases hz
   have:=HK.o;omega
 obtain rfl:i=j:=by omega
 have iI:¬(i:Int)<i:=by omega
 have a7:=HB.o;obtain⟨s,ax⟩:∃s,i=a+1+s:=⟨i-(a+1),by omega⟩;subst ax
 have ar:∀y∈B.take s,k y<k x:=fun y hy=>by
  obtain⟨q,hq,ag⟩:=zDU hy;have a6:=(List.getElem?_eq_some_iff.1 ag).1;obtain⟨z,hz⟩:∃z,B[s-1]?=some z:=⟨_,Zb (by omega)⟩;have g1:=h1 z (by omega) (by rw[show a+1+s-(a+1)-1=s-1 by omega];exact hz);have g2:=HS.o.get ag hz (by omega);omega
 have aq:∀y∈B.drop s,k x≤k y:=fun y hy=>by
  obtain⟨q,hq,ag⟩:=zDV hy;have a6:=(List.getElem?_eq_some_iff.1 ag).1;obtain⟨z,hz⟩:∃z,B[s]?=some z:=⟨_,Zb (by omega)⟩;have g1:=h2 z (by rw[show a+1+s-(a+1)=s by omega];exact hz);have g2:=HS.o.get hz ag hq;omega
 obtain⟨r1,r2⟩:=zKb (x:=x) (b1:=B.take s) (b2:=B.drop s) (by rw[ZE];exact HS.o) ar aq;rw[ZE]at r2;have R1:=hy' r1;have R2:=hy' r2;have ao:Hy (Ss.At wr g sz (P++(B.take 0++(x::(B.drop 0++Q))))):=hy' (by simpa using aa);have ap:=hy' ae;clear r1 r2 ar aq h1 h2 aa ae hi hij;go_wp2_with fail;obtain⟨w1,rfl⟩:∃w1:World,w1=wr:=⟨_,rfl⟩;go_loopw [13] (fun vk wq=>∃t:Nat,t≤s∧vk=.int .i64 ((a+t:Nat):Int)∧Ss.At wq g sz (P++(B.take t++(x::(B.drop t++Q))))∧w.grownBy wq (some g)) (fun vk _=>a+s+1-(intOf vk).toNat)
 case atStart=>exact⟨0,ZG _,rfl,ao.o,ap.o⟩
 obtain⟨t,ht,rfl,aa,ae⟩:=hrel
 by_cases hts:t<s
 rotate_left
 · obtain rfl:t=s:=by omega
   have tI:¬((a+t:Nat):Int)<((a+t:Nat):Int):=by omega
   have HA:=hy' aa;have ak:=hy' ae;clear aa ae;go_wp2_with fail;go_end0;exact⟨rfl,⟨B.take t++x::B.drop t,R1.o,R2.o,by simpa using HA.o⟩,ak.o⟩
 obtain⟨y,hy⟩:∃y,B[t]?=some y:=⟨_,Zb (by omega)⟩;obtain⟨u1,u2⟩:=List.getElem?_eq_some_iff.1 hy;have hdr:B.drop t=y::B.drop (t+1):=by rw[ZR u1,u2]
 have au:B.take (t+1)=B.take t++[y]:=by rw[ZA,hy];rfl
 have e1:P++(B.take t++(x::(B.drop t++Q)))=(P++B.take t)++x::([]++y::(B.drop (t+1)++Q)):=by rw[hdr];simp
 have e2:(P++B.take t)++y::([]++x::(B.drop (t+1)++Q))=P++(B.take (t+1)++(x::(B.drop (t+1)++Q))):=by rw[au];simp
 rw[e1]at aa;have l1:(P++B.take t).length=o+(a+t):=by rw[Zd,HP.o,Zr];omega
 have l2:(P++B.take t).length+1+([]:List Int).length=o+(a+t+1):=by rw[l1];rfl
 have L1:=hy' l1;have L2:=hy' l2;clear l1 l2;have c1:=aa.cell (zBY _ _ _);have c2:=aa.cell (zBm _ _ _ _ _);rw[L1.o]at c1;rw[L2.o]at c2;have f1:=aa.fro (o+(a+t));have f2:=aa.fro (o+(a+t+1));have gl:=aa.lt;have aj:=aa.swapA;rw[e2,L2.o,L1.o]at aj;have tI:((a+t:Nat):Int)<((a+s:Nat):Int):=by omega
 have k0:(0:Int)≤((a+t:Nat):Int):=by omega
 have k1:((a+t:Nat):Int)<n0:=by omega
 have k2:(0:Int)≤((a+t+1:Nat):Int):=by omega
 have k3:((a+t+1:Nat):Int)<n0:=by omega
 have az:=hy' aj;have ak:=hy' ae;clear hy u1 u2 hdr au e1 e2 aa aj ae;go_wp2;go_region;go_wp2;exact⟨⟨t+1,by omega,by go_num,az.o,Ss.grown_drew (Ss.grown_set (Ss.grown_set ak.o _ _) _ _)⟩,by simp[intOf];omega⟩
theorem zN5 (ai:FuncId) (cd:Option Addr) (k:Int→Int) (ah:∀(args:Array Value) (w:World),(callFunc ai args).run prog w=.ok (.enter ai args) w)
 (sz g o n0 cap a m b:Nat) (P A:List Int) (y:Int) (Q:List Int) (w:World) (hC:Ss.Cmp ai cd k g w) (hZ:Ss.At w g sz (P++(A++([y]++Q)))) (hP:P.length=o+a) (hA:a+A.length=m) (hA2:2≤A.length) (hm:m+1=b) (hn:b≤n0) (a8:n0≤1000000) (hs:Ss.so k A) :
 Calls prog 222 #[.slice (some ⟨g,o,none⟩) n0 cap,.int .i64 a,.int .i64 m,.int .i64 b,.func (.func ai) #[] #[.pointer cd]] w (zGg k sz g P A [y] Q w):=by
 have aw:=hy' ah;have HC:=hy' hC;have HZ:=hy' hZ;have HP:=hy' hP;have HA:=hy' hA;have HS:=hy' hs;subst hm;have e1:(((m-a:Nat):Int) == 1)=false:=by simp;omega
 have gz:∀(wr:World),Ss.At wr g sz (P++(A++([y]++Q)))→wr.cell? ⟨g,o+m,none⟩=some (.int .i32 y):=fun wr h=>by
  have:=h.cell (zEE (P:=P) (A:=A) (B:=[y]) (Q:=Q) (t:=0) rfl);rw[YT,HP.o,Yi,HA.o]at this;exact this
 have GZ:=hy' gz;clear ah hC hZ hP hs gz;go_enter func222,ntmps222;go_wp2_with fail;clear e1;go_loopw [14,15,16] (fun vi vj _ wr=>∃i j:Nat,a≤i∧i≤j∧j≤m∧vi=.int .i64 i∧vj=.int .i64 j∧(∀z,a<i→A[i-a-1]?=some z→k z≤k y)∧(∀z,A[j-a]?=some z→k y<k z)∧Ss.At wr g sz (P++(A++([y]++Q)))∧w.grownBy wr (some g)) (fun vi vj _ _=>(intOf vj).toNat-(intOf vi).toNat)
 case atStart =>
  refine⟨a,m,Za _,by omega,Za _,rfl,rfl,fun z h=>by omega,fun z h=>?_,HZ.o,zAO _ _⟩;rw[Yn (by omega)]at h;cases h
 obtain⟨i,j,hi,hij,ay,rfl,rfl,h1,h2,aa,ae⟩:=hrel
 by_cases hlt:i<j
 · obtain⟨z,hz⟩:∃z,A[(i+j)/2-a]?=some z:=⟨_,Zb (by omega)⟩;have c1:=aa.cell (zFM (P:=P) (R:=[y]++Q) hz);rw[HP.o,show o+a+((i+j)/2-a)=o+(i+j)/2 by omega]at c1;have c2:=GZ.o wr aa;have gl:=aa.lt;have iI:(i:Int)<j:=by omega
   have m0:(0:Int)≤(((i+j)/2:Nat):Int):=by omega
   have m1:(((i+j)/2:Nat):Int)<n0:=by omega
   have a0:(0:Int)≤(m:Int):=by omega
   have a1:(m:Int)<n0:=by omega
   have C1:=hy' (Ext.call (w:=wr) fun W hW=>HC.o W (zA0 ae (Ss.grown_below hW)) y z);have x1:=Ext.cells c1 gl;have x2:=Ext.cells c2 gl;have ao:=hy' aa;have ap:=hy' ae;have H1:=hy' h1;have H2:=hy' h2;have HY:=hy' hz;clear h1 h2 hz aa ae;go_wp2_with fail;refine zA7 (by kernel_rfl) (by kernel_rfl) ?_;have ah:=aw.o
   repeat (go_big_quiet_step (with_reducible exact C1.o _))
   clear ah;refine wpQuiet_nil ?_;intro xw;have af:=hy' (ao.o.below xw.below);have av:=hy' (zA0 ap.o (Ss.grown_below xw.below));clear x1 x2 c1 c2 gl
   by_cases hk:k y<k z
   · have hv:decide (zCc (k y) (k z)<0)=true:=Zu ((zCZ _ _).2 hk);rw[hv,QN];clear hv;have HK:=hy' hk;clear hk;go_wp2_with fail;refine⟨⟨i,(i+j)/2,hi,by omega,by omega,rfl,by go_num,H1.o,fun u hu=>?_,af.o,av.o⟩,by simp[intOf];omega⟩;rw[HY.o]at hu;cases hu
     exact HK.o
   have hv:decide (zCc (k y) (k z)<0)=false:=Zt fun h=>hk ((zCZ _ _).1 h)
   rw[hv,Jr];clear hv;have HK:=hy' hk;clear hk;go_wp2_with fail;refine⟨⟨(i+j)/2+1,j,by omega,by omega,ay,by go_num,rfl,fun u _ hu=>?_,H2.o,af.o,av.o⟩,by simp[intOf];omega⟩;rw[show (i+j)/2+1-a-1=(i+j)/2-a by omega,HY.o]at hu;cases hu
   have:=HK.o;omega
 obtain rfl:i=j:=by omega
 have iI:¬(i:Int)<i:=by omega
 obtain⟨s,ax⟩:∃s,i=a+s:=⟨i-a,by omega⟩;subst ax
 have ar:∀u∈A.take s,k u≤k y:=fun u hu=>by
  obtain⟨q,hq,ag⟩:=zDU hu;have a7:=(List.getElem?_eq_some_iff.1 ag).1;obtain⟨z,hz⟩:∃z,A[s-1]?=some z:=⟨_,Zb (by omega)⟩;have g1:=h1 z (by omega) (by rw[show a+s-a-1=s-1 by omega];exact hz);have g2:=HS.o.get ag hz (by omega);omega
 have aq:∀u∈A.drop s,k y<k u:=fun u hu=>by
  obtain⟨q,hq,ag⟩:=zDV hu;have a7:=(List.getElem?_eq_some_iff.1 ag).1;obtain⟨z,hz⟩:∃z,A[s]?=some z:=⟨_,Zb (by omega)⟩;have g1:=h2 z (by rw[show a+s-a=s by omega];exact hz);have g2:=HS.o.get hz ag hq;omega
 obtain⟨r1,r2⟩:=Ss.insert (x:=y) (s:=A.take s) (g:=A.drop s) (by rw[ZE];exact HS.o) ar aq;rw[ZE]at r2;have R1:=hy' r1;have R2:=hy' r2;have ao:Hy (Ss.At wr g sz (P++(A.take A.length++(y::(A.drop A.length++Q))))):=hy' (by simpa using aa);have ap:=hy' ae;clear r1 r2 ar aq h1 h2 aa ae hi hij;go_wp2_with fail;obtain⟨w1,rfl⟩:∃w1:World,w1=wr:=⟨_,rfl⟩;go_loopw [17] (fun vk wq=>∃t:Nat,s≤t∧t≤A.length∧vk=.int .i64 ((a+t:Nat):Int)∧Ss.At wq g sz (P++(A.take t++(y::(A.drop t++Q))))∧w.grownBy wq (some g)) (fun vk _=>(intOf vk).toNat)
 case atStart=>exact⟨A.length,by omega,Za _,by rw[hA],ao.o,ap.o⟩
 obtain⟨t,ba,ht,rfl,aa,ae⟩:=hrel
 by_cases hts:s<t
 rotate_left
 · obtain rfl:t=s:=by omega
   have tI:¬((a+t:Nat):Int) > ((a+t:Nat):Int):=by omega
   have a6:=hy' aa;have ak:=hy' ae;clear aa ae;go_wp2_with fail;go_end0;exact⟨rfl,⟨A.take t++y::A.drop t,R1.o,R2.o,by simpa using a6.o⟩,ak.o⟩
 obtain⟨t1,rfl⟩:∃t1,t=t1+1:=⟨t-1,by omega⟩;obtain⟨u,hu⟩:∃u,A[t1]?=some u:=⟨_,Zb (by omega)⟩;obtain⟨u1,u2⟩:=List.getElem?_eq_some_iff.1 hu;have hdr:A.drop t1=u::A.drop (t1+1):=by rw[ZR u1,u2]
 have au:A.take (t1+1)=A.take t1++[u]:=by rw[ZA,hu];rfl
 have e1:P++(A.take (t1+1)++(y::(A.drop (t1+1)++Q)))=(P++A.take t1)++u::([]++y::(A.drop (t1+1)++Q)):=by rw[au];simp
 have e2:(P++A.take t1)++y::([]++u::(A.drop (t1+1)++Q))=P++(A.take t1++(y::(A.drop t1++Q))):=by rw[hdr];simp
 rw[e1]at aa;have l1:(P++A.take t1).length=o+(a+t1):=by rw[Zd,HP.o,Zr];omega
 have l2:(P++A.take t1).length+1+([]:List Int).length=o+(a+(t1+1)):=by rw[l1,Z0];omega
 have L1:=hy' l1;have L2:=hy' l2;clear l1 l2;have c1:=aa.cell (zBY _ _ _);have c2:=aa.cell (zBm _ _ _ _ _);rw[L1.o]at c1;rw[L2.o]at c2;have f1:=aa.fro (o+(a+t1));have f2:=aa.fro (o+(a+(t1+1)));have gl:=aa.lt;have aj:=aa.swapB;rw[e2,L2.o,L1.o]at aj;have tI:((a+(t1+1):Nat):Int) > ((a+s:Nat):Int):=by omega
 have k0:(0:Int)≤((a+(t1+1):Nat):Int):=by omega
 have k1:((a+(t1+1):Nat):Int)<n0:=by omega
 have k2:(0:Int)≤((a+t1:Nat):Int):=by omega
 have k3:((a+t1:Nat):Int)<n0:=by omega
 have az:=hy' aj;have ak:=hy' ae;clear hu u1 u2 hdr au e1 e2 aa aj ae;go_wp2;go_region;go_wp2;exact⟨⟨t1,by omega,by omega,by go_num,az.o,Ss.grown_drew (Ss.grown_set (Ss.grown_set ak.o _ _) _ _)⟩,by simp[intOf];omega⟩
end
end Go.Proofs.YthngjlllojiacaaGreatDoor
