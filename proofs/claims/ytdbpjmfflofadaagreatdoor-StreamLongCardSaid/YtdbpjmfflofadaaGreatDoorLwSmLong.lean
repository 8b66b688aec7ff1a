/- The law StreamLong, by walking its text. -/
import Derived.Test.YtdbpjmfflofadaaGreatDoorSmLong
import Derived.Test.YtdbpjmfflofadaaGreatDoorSmAwake
import Derived.Test.YtdbpjmfflofadaaGreatDoorSlCut
import Derived.Test.YtdbpjmfflofadaaGreatDoorUtfJ
set_option maxRecDepth 100000
set_option maxHeartbeats 4000000
set_option linter.unusedVariables false
set_option linter.unusedSimpArgs false
set_option linter.unusedSectionVars false
namespace Go.Proofs.YtdbpjmfflofadaaGreatDoor
open Go.Proofs.Tryz
open Go.RowKit
theorem Sm.and8 (n:Int):∃c:Nat,bits .and .i64 n 255=(c:Int)∧c<256:=by
 have hm:(BitVec.ofInt 64 255).toNat=2 ^ 8-1:=by decide
 have key:(BitVec.ofInt 64 n &&& BitVec.ofInt 64 255).toNat=(n%((2 ^ 64:Nat):Int)).toNat%2 ^ 8:=by
  rw[XC,Xo,hm,Yj]
 refine⟨(n%((2 ^ 64:Nat):Int)).toNat%2 ^ 8,?_,?_⟩
 · show IntKind.i64.wrap ((BitVec.ofInt 64 n &&& BitVec.ofInt 64 255).toNat:Nat)=_;rw[key,Ya];omega
 have:(2:Nat) ^ 8=256:=by decide
 omega
theorem Sm.xf:Ud.full Xt.T 97=[97]:=by decide +kernel
theorem Sm.xc:Md.cls Xt.T 97=0:=by decide +kernel
theorem Sm.infoByte:(prog.info? 5).map (fun i=>(i.zero,i.size,i.bytes))=some (some (.int .u8 0),1,1):=by kernel_rfl
theorem Sm.own_at8 {w:World} {base g n:Nat} {t:TypeId} {xs:List Value} (h:w.ownsRow base t 1 (.slice (some ⟨g,0,none⟩) n n) n xs):Rw.At w g t xs∧xs.length=n:=by
 rcases h.2 with ⟨hv,_⟩|⟨g',aa,ae,hv,hg,hb,h1,h2,h3,h4⟩
 · cases hv
 simp only[ZX,Zg,YH,Yl,Qc]at hv;obtain⟨rfl,rfl⟩:=hv;refine⟨?_,by rw[h.1,Y0]⟩;unfold Rw.At;rw[←h4,h3.symm,Zi (by rw[Xk];exact Za _)];simpa using hb
theorem Sm.conv_at {w:World} {B m:Nat} {L:List Value} (h:Rw.At w B 5 L) (hl:L.length=m) (hL:∀j,j<m→L[j]?=some (.int .u8 97)):(convert 30 9 (.slice (some ⟨B,0,none⟩) m m)).run prog w=.ok (.string ⟨(zEP m).toArray⟩) w:=by
 have hn:(zEP m).length=m:=Yh
 have:=Jj (P:=prog) w 30 9 5 ⟨B,0,none⟩ m (zEP m) underlying30 underlying5 underlying9 (fun j hj=>by
  rw[hn]at hj;rw[Lib.add_plain,Z4,Rw.At.cell h j (hL j hj)];congr 2;have:(zEP m)[j]=97:=List.getElem_replicate _;rw[this];rfl)
 rw[hn]at this;exact this
theorem Sm.streamLong_any (w:World) (n k:Int) (hL:Nf.Laid w):Calls prog 3 #[.int .i64 n,.int .i64 k] w fun e w'=>e=.returned (.bool true)∧Below w.heap.size w w':=by
 have bi:=zFM w hL;have HD:=hy' (fun W (hW:Below w.heap.size w W)=>zJW W (hL.next hW).1);have HH:=hy' (fun W (hW:Below w.heap.size w W)=>(hL.next hW).2);obtain⟨q,hq,cj⟩:=Sm.and8 k;obtain⟨m,hm,cg⟩:∃m:Nat,max 0 (min n 1030)=(m:Int)∧m≤1030:=⟨(max 0 (min n 1030)).toNat,by omega,by omega⟩;have b5:=hy' zQO;have b6:=hy' zSL;have a6:=hy' Sm.xf;have bh:=hy' Sm.xc;have ba:=hy' Xt.ok;have ai:Hy (∀pb W,Calls prog 10 #[.pointer (some ⟨pb,0,none⟩),.int .i64 1] W fun e w'=>e=.returned (.tuple #[.pointer (some ⟨W.heap.size,0,none⟩),.int .i64 0])∧Below W.heap.size W w'∧Sm.At w' W.heap.size (Sm.v pb) (Sm.fv false) (zEN Xt.T zDQ 0)):=hy' fun pb W=>zE4 pb false W
 obtain⟨T,hT⟩:∃T,Xt.T=T:=⟨_,rfl⟩;obtain⟨S,hS⟩:∃S,zDQ=S:=⟨_,rfl⟩;rw[hT,hS]at HD ai ba;rw[hT]at a6 bh;obtain⟨ib,b8,b1,bz,cc⟩:=Z9 Sm.infoByte;clear hT hS hL;go_enter func3,ntmps3;go_wp2_with fail;refine bi.mono ?_;rintro e w1 ⟨rfl,aq⟩;have ay:=hy' aq;clear aq bi;go_wp2_with fail;refine (HD.o w1 ay.o).mono ?_;rintro e w2 ⟨p,rfl,bb,hb⟩;obtain⟨pb,rfl,cd⟩:=bb.form;have au:=hy' (ay.o.trans (hb.mono ay.o.size));have bx:=hy' bb;have bu:=hy' (HH.o w2 au.o);clear bb hb cd HD HH;go_wp2_with fail;refine (ai.o pb w2).mono ?_;rintro e q5 ⟨rfl,hb,af⟩;obtain⟨g,hg⟩:∃g,w2.heap.size=g:=⟨_,rfl⟩;have HG:Hy (w2.heap.size≤g):=hy' (Qm hg);have b2:=hy' hb;rw[hg]at af;have cb:=hy' af;rw[hg];clear hb af hg ai;go_wp2_with fail;go_loopw [8,9,10,11,12,13,14] (fun vs vo _ _ _ _ _ wr=>∃(s o:Nat),s≤m∧vs=.int .i64 s∧vo=.int .i64 o∧o≤5000*s∧(s≤1024→o=zDP T S s)∧Sm.At wr g (Sm.v pb) (Sm.fv false) (zEN T S s)∧Below w2.heap.size w2 wr) (fun vs _ _ _ _ _ _ _=>m-(intOf vs).toNat)
 case atStart=>exact⟨0,0,Nat.zero_le _,rfl,rfl,by omega,fun _=>by unfold zDP;rw[show zAb T S (zB6 0)=[] from rfl,zDF];rfl,cb.o,b2.o⟩
 obtain⟨s,o,hs,rfl,rfl,ho,bp,af,bt⟩:=hrel;obtain⟨r0,rfl⟩:∃q:World,q=wr:=⟨_,rfl⟩;have bq:=hy' bp;have a8:=hy' af;have ar:=hy' bt;clear bp af bt
 by_cases hsm:s<m
 rotate_left
 · obtain rfl:s=m:=by omega
   have sI:¬(s:Int)<s:=by omega
   have ao:=b6.o pb T S w2 g ba.o bx.o bu.o HG.o a6.o bh.o s r0 ar.o a8.o;have bk:(o:Int)≤5000*s:=by omega
   by_cases h24:s≤1024
   · rw[Zl h24]at ao;have nI:¬(1024:Int)<(s:Int):=by omega
     go_wp2_with fail;refine ao.mono ?_;rintro e x1 ⟨ae,y,rfl,_,ag⟩;have aa:=hy' (zBT ar.o HG.o ae);have cf:o+y.size=s:=by rw[bq.o h24];exact ag h24
     have cm:(o:Int)+y.size=s:=by omega
     clear ae ag ao;go_wp2_with fail;go_ret;exact⟨by first|rfl|(simp;done),au.o.trans (aa.o.mono au.o.size)⟩
   rw[Zk h24]at ao;have nI:(1024:Int)<(s:Int):=by omega
   go_wp2_with fail;refine ao.mono ?_;rintro e x1 ⟨ae,y,rfl,bw,_⟩;obtain rfl:=bw (by omega);have aa:=hy' (zBT ar.o HG.o ae);clear ae bw ao;go_wp2_with fail;go_ret;exact⟨by first|rfl|(simp;done),au.o.trans (aa.o.mono au.o.size)⟩
 have sI:(s:Int)<m:=by omega
 obtain⟨mm,cq,cp,cn,ch⟩:∃mm:Nat,min (1+(q:Int)) ((m:Int)-s)=mm∧1≤mm∧s+mm≤m∧mm≤256:=⟨(min (1+(q:Int)) ((m:Int)-s)).toNat,by omega,by omega,by omega,by omega⟩;have ck:Hy (∀W:World,W.heap.size≤W.heap.size):=hy' fun W=>Za _
 go_upto_region 12 with (first|(at_make;refine Kj _ rfl _ _ _ rfl r0.heap.size 5 ib _ 1 underlying30 b8 b1 bz _ _ _ _ mm rfl rfl (by go_num) (by go_num) (by rw[cc];omega) (by simp only[maxLen];omega) (Za _) ?_;intro r1 ap ae)|fail)
 obtain⟨ah,aj⟩:=Sm.own_at8 ap;have aq:=XF (Zd r0.heap.size r0) ae (Za _) (by intro k hk;cases hk);obtain⟨L0,bs⟩:∃L,(madeCells (Value.int .u8 0).cells (mm*1)).toList=L:=⟨_,rfl⟩;rw[bs]at ah aj;have a7:=hy' ah;have bg:=hy' aj;have ax:=hy' aq;clear ap ah aj bs ae aq;obtain⟨B,hB⟩:∃B,r0.heap.size=B:=⟨_,rfl⟩;have bl:=hy' hB;rw[hB];clear hB;go_wp2_with fail;go_loopw [12,49] (fun _ vi wr=>∃(i:Nat) (L:List Value),i≤mm∧vi=.int .i64 i∧L.length=mm∧(∀j,j<i→L[j]?=some (.int .u8 97))∧Rw.At wr B 5 L∧Below r0.heap.size r0 wr) (fun _ vi _=>mm-(intOf vi).toNat)
 case atStart=>exact⟨0,L0,Zq _,rfl,bg.o,fun j h=>by omega,by rw[←bl.o];exact a7.o,ax.o⟩
 obtain⟨i,L,hi,rfl,bo,bn,af,br⟩:=hrel;have av:=hy' bo;have bj:=hy' bn;have HX:=hy' af;have aw:=hy' br;clear bo bn af br
 by_cases him:i<mm
 · have iI:(i:Int)<mm:=by omega
   obtain⟨u,hu⟩:∃u,L[i]?=some u:=⟨_,Zb (by rw[av.o];exact him)⟩;have ci:=Rw.At.cell HX.o i hu;have fi:=Rw.At.frozen HX.o i;have cl:=Rw.At.lt HX.o;have b9:=hy' (Rw.At.set HX.o i (.int .u8 97))
   have a1:Hy (∀j,j<i+1→(L.set i (.int .u8 97))[j]?=some (.int .u8 97)):=hy' fun j hj=>by
    rw[XV]
    by_cases hij:i=j
    · rw[Zl hij,Zl (by rw[av.o];omega)]
    rw[Zk hij];exact bj.o j (by omega)
   clear hu;go_wp2_with fail;exact⟨⟨i+1,L.set i (.int .u8 97),by omega,by first|rfl|go_num,by rw[YF];exact av.o,a1.o,b9.o,by rw[←bl.o];exact XF aw.o (Rw.grown_set _ _ _) aw.o.size (by intro k hk;simp only[Zg]at hk;omega)⟩,by simp[intOf];omega⟩
 obtain rfl:i=mm:=by omega
 have iI:¬(i:Int)<i:=by omega
 obtain⟨x0,rfl⟩:∃q:World,q=wr:=⟨_,rfl⟩;have hcv:=Sm.conv_at HX.o av.o bj.o;have bm:g<r0.heap.size:=Rw.At.lt a8.o;have bf:=hy' (Rw.At.below' a8.o aw.o bm);have bc:=hy' (ar.o.trans (aw.o.mono ar.o.size));have ak:=b5.o pb T S w2 g ba.o bx.o bu.o HG.o a6.o bh.o s i (by omega) x0 bc.o bf.o;clear bm
 by_cases h24:s+i≤1024
 · rw[Zl h24]at ak;have nI:¬(1024:Int)<(s:Int)+i:=by omega
   go_wp2_with fail;refine ak.mono ?_;rintro e x1 ⟨ae,hA,y,rfl,b4,ag⟩;have aa:=hy' (zBT bc.o HG.o ae);have az:=hy' hA;have b7:=hy' ag;have b3:(y.size:Int)≤5000:=by omega
   have bk:(o:Int)≤5000*s:=by omega
   clear ae hA ag hcv ak;go_wp2_with fail;exact⟨⟨s+i,o+y.size,by omega,by first|rfl|go_num,by first|rfl|go_num,by omega,fun h=>by rw[bq.o (by omega)];exact b7.o h,az.o,aa.o⟩,by simp[intOf];omega⟩
 rw[Zk h24]at ak;have nI:(1024:Int)<(s:Int)+i:=by omega
 go_wp2_with fail;refine ak.mono ?_;rintro e x1 ⟨ae,hA,y,rfl,b4,ag⟩;have aa:=hy' (zBT bc.o HG.o ae);have az:=hy' hA;have b3:(y.size:Int)≤5000:=by omega
 have bk:(o:Int)≤5000*s:=by omega
 clear ae hA ag hcv ak;go_wp2_with fail;exact⟨⟨s+i,o+y.size,by omega,by first|rfl|go_num,by first|rfl|go_num,by omega,fun h=>by omega,az.o,aa.o⟩,by simp[intOf];omega⟩
end Go.Proofs.YtdbpjmfflofadaaGreatDoor
