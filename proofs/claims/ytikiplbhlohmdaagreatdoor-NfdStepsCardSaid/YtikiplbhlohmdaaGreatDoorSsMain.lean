/- Merging two sorted blocks in place (symMerge): a block of one, by walking. -/
import Derived.Test.YtikiplbhlohmdaaGreatDoorSsIns
import Derived.Deep.DeepCutAuto
set_option linter.unusedVariables false
set_option linter.unusedSimpArgs false
namespace Go.Proofs.YtikiplbhlohmdaaGreatDoor
open Go.RowKit
def Ss.RetSym (k:Int→Int) (sz g:Nat) (P A B Q:List Int) (w:World) (e:Ending) (w':World):Prop:=e=.returned (.tuple #[])∧(∃C,Ss.so k C∧Ss.eqv k (A++B) C∧Ss.At w' g sz (P++(C++Q)))∧w.grownBy w' (some g)
theorem Ss.get_right {P A B Q:List Int} {t:Nat} {y:Int} (h:B[t]?=some y):(P++(A++(B++Q)))[P.length+A.length+t]?=some y:=by
 rw[ZL (by omega),ZL (by omega),ZW (by have:=(List.getElem?_eq_some_iff.1 h).1;omega)]
 rw[←h]
 congr 1
 omega
theorem Ss.get_left {P A R:List Int} {t:Nat} {y:Int} (h:A[t]?=some y):(P++(A++R))[P.length+t]?=some y:=by
 rw[ZL (by omega),ZW (by have:=(List.getElem?_eq_some_iff.1 h).1;omega)]
 rw[←h]
 congr 1
 omega
section
set_option maxRecDepth 100000
set_option maxHeartbeats 4000000
theorem Ss.sym_one (ah:FuncId) (cd:Option Addr) (k:Int→Int) (ai:∀(args:Array Value) (w:World),(callFunc ah args).run Tryz.prog w=.ok (.enter ah args) w)
 (sz g o n0 cap a m b:Nat) (P:List Int) (x:Int) (B Q:List Int) (w:World) (hC:Ss.Cmp ah cd k g w) (hZ:Ss.At w g sz (P++([x]++(B++Q)))) (hP:P.length=o+a) (hm:a+1=m) (hB:m+B.length=b) (hn:b≤n0) (a8:n0≤1000000) (hs:Ss.so k B) :
 Calls Tryz.prog 133 #[.slice (some ⟨g,o,none⟩) n0 cap,.int .i64 a,.int .i64 m,.int .i64 b,.func (.func ah) #[] #[.pointer cd]] w (Ss.RetSym k sz g P [x] B Q w):=by
 have aw:=Za ai
 have HC:=Za hC
 have HZ:=Za hZ
 have HP:=Za hP
 have HB:=Za hB
 have HS:=Za hs
 subst hm
 have gz:∀(wr:World),Ss.At wr g sz (P++([x]++(B++Q)))→wr.cell? ⟨g,o+a,none⟩=some (.int .i32 x):=fun wr h=>by
  have:=h.cell (Ss.get_left (P:=P) (A:=[x]) (R:=B++Q) (t:=0) rfl)
  rw[YW,HP.out]at this
  exact this
 have GZ:=Za gz
 clear ai hC hZ hP hB hs gz
 go_enter Tryz.func133,Tryz.ntmps133
 go_wp2_with fail
 go_loopw [10,11,12] (fun vi vj _ wr=>∃i j:Nat,a+1≤i∧i≤j∧j≤b∧vi=.int .i64 i∧vj=.int .i64 j∧(∀y,a+1<i→B[i-(a+1)-1]?=some y→k y<k x)∧(∀y,B[j-(a+1)]?=some y→k x≤k y)∧Ss.At wr g sz (P++([x]++(B++Q)))∧w.grownBy wr (some g)) (fun vi vj _ _=>(intOf vj).toNat-(intOf vi).toNat)
 case atStart =>
  have:=HB.out
  refine⟨a+1,b,Zb _,by omega,Zb _,rfl,rfl,fun y h=>by omega,fun y h=>?_,HZ.out,Ss.grown_refl _ _⟩
  rw[Yn (by omega)]at h
  cases h
 case round =>
  obtain⟨i,j,hi,hij,a6,rfl,rfl,h1,h2,aa,ae⟩:=hrel
  by_cases hlt:i<j
  · have ax:=HB.out
    obtain⟨y,hy⟩:∃y,B[(i+j)/2-(a+1)]?=some y:=⟨_,Zc (by omega)⟩
    have c1:=aa.cell (Ss.get_right (P:=P) (A:=[x]) (Q:=Q) hy)
    rw[HP.out,show o+a+([x]:List Int).length+((i+j)/2-(a+1))=o+(i+j)/2 by simp;omega]at c1
    have c2:=GZ.out wr aa
    have gl:=aa.lt
    have iI:(i:Int)<j:=by omega
    have m0:(0:Int)≤(((i+j)/2:Nat):Int):=by omega
    have m1:(((i+j)/2:Nat):Int)<n0:=by omega
    have a0:(0:Int)≤(a:Int):=by omega
    have a1:(a:Int)<n0:=by omega
    have C1:=Za (Ext.call (w:=wr) fun W hW=>HC.out W (Rw.grown_trans ae (Ss.grown_below hW)) y x)
    have x1:=Ext.cells c1 gl
    have x2:=Ext.cells c2 gl
    have ap:=Za aa
    have ao:=Za ae
    have H1:=Za h1
    have H2:=Za h2
    have HY:=Za hy
    clear h1 h2 hy aa ae
    go_wp2_with fail
    refine wp_region_ext (by kernel_rfl) (by kernel_rfl) ?_
    have ai:=aw.out
    repeat (go_big_quiet_step (with_reducible exact C1.out _))
    clear ai
    refine wpQuiet_nil ?_
    intro xw
    have af:=Za (ap.out.below xw.below)
    have au:=Za (Rw.grown_trans ao.out (Ss.grown_below xw.below))
    clear x1 x2 c1 c2 gl
    by_cases hk:k y<k x
    · have hv:Ss.cmp (k y) (k x)<0:=(Ss.cmp_lt _ _).2 hk
      have HK:=Za hk
      clear hk
      go_wp2_with fail
      refine⟨⟨(i+j)/2+1,j,by omega,by omega,a6,by go_num,rfl,fun z _ hz=>?_,H2.out,af.out,au.out⟩,by simp[intOf];omega⟩
      rw[show (i+j)/2+1-(a+1)-1=(i+j)/2-(a+1) by omega,HY.out]at hz
      cases hz
      exact HK.out
    · have hv:¬Ss.cmp (k y) (k x)<0:=fun h=>hk ((Ss.cmp_lt _ _).1 h)
      have HK:=Za hk
      clear hk
      go_wp2_with fail
      refine⟨⟨i,(i+j)/2,hi,by omega,by omega,rfl,by go_num,H1.out,fun z hz=>?_,af.out,au.out⟩,by simp[intOf];omega⟩
      rw[HY.out]at hz
      cases hz
      have:=HK.out
      omega
  · obtain rfl:i=j:=by omega
    have iI:¬(i:Int)<i:=by omega
    have ax:=HB.out
    obtain⟨s,az⟩:∃s,i=a+1+s:=⟨i-(a+1),by omega⟩
    subst az
    have av:∀y∈B.take s,k y<k x:=fun y hy=>by
     obtain⟨q,hq,ag⟩:=Ss.mem_take hy
     have ay:=(List.getElem?_eq_some_iff.1 ag).1
     obtain⟨z,hz⟩:∃z,B[s-1]?=some z:=⟨_,Zc (by omega)⟩
     have g1:=h1 z (by omega) (by rw[show a+1+s-(a+1)-1=s-1 by omega];exact hz)
     have g2:=HS.out.get ag hz (by omega)
     omega
    have aq:∀y∈B.drop s,k x≤k y:=fun y hy=>by
     obtain⟨q,hq,ag⟩:=Ss.mem_drop hy
     have ay:=(List.getElem?_eq_some_iff.1 ag).1
     obtain⟨z,hz⟩:∃z,B[s]?=some z:=⟨_,Zc (by omega)⟩
     have g1:=h2 z (by rw[show a+1+s-(a+1)=s by omega];exact hz)
     have g2:=HS.out.get hz ag hq
     omega
    obtain⟨r1,r2⟩:=Ss.merge_left (x:=x) (b1:=B.take s) (b2:=B.drop s) (by rw[ZG];exact HS.out) av aq
    rw[ZG]at r2
    have R1:=Za r1
    have R2:=Za r2
    have ap:Hid (Ss.At wr g sz (P++(B.take 0++(x::(B.drop 0++Q))))):=Lib.hid (by simpa using aa)
    have ao:=Za ae
    clear r1 r2 av aq h1 h2 aa ae hi hij
    go_wp2_with fail
    obtain⟨w1,rfl⟩:∃w1:World,w1=wr:=⟨_,rfl⟩
    go_loopw [13] (fun vk wq=>∃t:Nat,t≤s∧vk=.int .i64 ((a+t:Nat):Int)∧Ss.At wq g sz (P++(B.take t++(x::(B.drop t++Q))))∧w.grownBy wq (some g)) (fun vk _=>a+s+1-(intOf vk).toNat)
    case atStart=>exact⟨0,ZE _,rfl,ap.out,ao.out⟩
    case round =>
     obtain⟨t,ht,rfl,aa,ae⟩:=hrel
     by_cases hts:t<s
     · obtain⟨y,hy⟩:∃y,B[t]?=some y:=⟨_,Zc (by omega)⟩
       obtain⟨u1,u2⟩:=List.getElem?_eq_some_iff.1 hy
       have hdr:B.drop t=y::B.drop (t+1):=by rw[ZV u1,u2]
       have ar:B.take (t+1)=B.take t++[y]:=by rw[Zw,hy];rfl
       have e1:P++(B.take t++(x::(B.drop t++Q)))=(P++B.take t)++x::([]++y::(B.drop (t+1)++Q)):=by rw[hdr];simp
       have e2:(P++B.take t)++y::([]++x::(B.drop (t+1)++Q))=P++(B.take (t+1)++(x::(B.drop (t+1)++Q))):=by rw[ar];simp
       rw[e1]at aa
       have l1:(P++B.take t).length=o+(a+t):=by rw[Ze,HP.out,Zq];omega
       have l2:(P++B.take t).length+1+([]:List Int).length=o+(a+t+1):=by rw[l1];rfl
       have L1:=Za l1
       have L2:=Za l2
       clear l1 l2
       have c1:=aa.cell (Ss.get_first _ _ _)
       have c2:=aa.cell (Ss.get_second _ _ _ _ _)
       rw[L1.out]at c1
       rw[L2.out]at c2
       have f1:=aa.fro (o+(a+t))
       have f2:=aa.fro (o+(a+t+1))
       have gl:=aa.lt
       have aj:=aa.swapA
       rw[e2,L2.out,L1.out]at aj
       have tI:((a+t:Nat):Int)<((a+s:Nat):Int):=by omega
       have k0:(0:Int)≤((a+t:Nat):Int):=by omega
       have k1:((a+t:Nat):Int)<n0:=by omega
       have k2:(0:Int)≤((a+t+1:Nat):Int):=by omega
       have k3:((a+t+1:Nat):Int)<n0:=by omega
       have a7:=Za aj
       have ak:=Za ae
       clear hy u1 u2 hdr ar e1 e2 aa aj ae
       go_wp2
       go_region
       go_wp2
       exact⟨⟨t+1,by omega,by go_num,a7.out,Ss.grown_drew (Ss.grown_set (Ss.grown_set ak.out _ _) _ _)⟩,by simp[intOf];omega⟩
     · obtain rfl:t=s:=by omega
       have tI:¬((a+t:Nat):Int)<((a+t:Nat):Int):=by omega
       have HA:=Za aa
       have ak:=Za ae
       clear aa ae
       go_wp2_with fail
       go_end0
       exact⟨rfl,⟨B.take t++x::B.drop t,R1.out,R2.out,by simpa using HA.out⟩,ak.out⟩
theorem Ss.sym_last (ah:FuncId) (cd:Option Addr) (k:Int→Int) (ai:∀(args:Array Value) (w:World),(callFunc ah args).run Tryz.prog w=.ok (.enter ah args) w)
 (sz g o n0 cap a m b:Nat) (P A:List Int) (y:Int) (Q:List Int) (w:World) (hC:Ss.Cmp ah cd k g w) (hZ:Ss.At w g sz (P++(A++([y]++Q)))) (hP:P.length=o+a) (hA:a+A.length=m) (hA2:2≤A.length) (hm:m+1=b) (hn:b≤n0) (a8:n0≤1000000) (hs:Ss.so k A) :
 Calls Tryz.prog 133 #[.slice (some ⟨g,o,none⟩) n0 cap,.int .i64 a,.int .i64 m,.int .i64 b,.func (.func ah) #[] #[.pointer cd]] w (Ss.RetSym k sz g P A [y] Q w):=by
 have aw:=Za ai
 have HC:=Za hC
 have HZ:=Za hZ
 have HP:=Za hP
 have HA:=Za hA
 have HS:=Za hs
 subst hm
 have e1:(((m-a:Nat):Int) == 1)=false:=by simp;omega
 have gz:∀(wr:World),Ss.At wr g sz (P++(A++([y]++Q)))→wr.cell? ⟨g,o+m,none⟩=some (.int .i32 y):=fun wr h=>by
  have:=h.cell (Ss.get_right (P:=P) (A:=A) (B:=[y]) (Q:=Q) (t:=0) rfl)
  rw[YW,HP.out,Yi,HA.out]at this
  exact this
 have GZ:=Za gz
 clear ai hC hZ hP hs gz
 go_enter Tryz.func133,Tryz.ntmps133
 go_wp2_with fail
 clear e1
 go_loopw [14,15,16] (fun vi vj _ wr=>∃i j:Nat,a≤i∧i≤j∧j≤m∧vi=.int .i64 i∧vj=.int .i64 j∧(∀z,a<i→A[i-a-1]?=some z→k z≤k y)∧(∀z,A[j-a]?=some z→k y<k z)∧Ss.At wr g sz (P++(A++([y]++Q)))∧w.grownBy wr (some g)) (fun vi vj _ _=>(intOf vj).toNat-(intOf vi).toNat)
 case atStart =>
  refine⟨a,m,Zb _,by omega,Zb _,rfl,rfl,fun z h=>by omega,fun z h=>?_,HZ.out,Ss.grown_refl _ _⟩
  rw[Yn (by omega)]at h
  cases h
 case round =>
  obtain⟨i,j,hi,hij,a6,rfl,rfl,h1,h2,aa,ae⟩:=hrel
  by_cases hlt:i<j
  · obtain⟨z,hz⟩:∃z,A[(i+j)/2-a]?=some z:=⟨_,Zc (by omega)⟩
    have c1:=aa.cell (Ss.get_left (P:=P) (R:=[y]++Q) hz)
    rw[HP.out,show o+a+((i+j)/2-a)=o+(i+j)/2 by omega]at c1
    have c2:=GZ.out wr aa
    have gl:=aa.lt
    have iI:(i:Int)<j:=by omega
    have m0:(0:Int)≤(((i+j)/2:Nat):Int):=by omega
    have m1:(((i+j)/2:Nat):Int)<n0:=by omega
    have a0:(0:Int)≤(m:Int):=by omega
    have a1:(m:Int)<n0:=by omega
    have C1:=Za (Ext.call (w:=wr) fun W hW=>HC.out W (Rw.grown_trans ae (Ss.grown_below hW)) y z)
    have x1:=Ext.cells c1 gl
    have x2:=Ext.cells c2 gl
    have ap:=Za aa
    have ao:=Za ae
    have H1:=Za h1
    have H2:=Za h2
    have HY:=Za hz
    clear h1 h2 hz aa ae
    go_wp2_with fail
    refine wp_region_ext (by kernel_rfl) (by kernel_rfl) ?_
    have ai:=aw.out
    repeat (go_big_quiet_step (with_reducible exact C1.out _))
    clear ai
    refine wpQuiet_nil ?_
    intro xw
    have af:=Za (ap.out.below xw.below)
    have au:=Za (Rw.grown_trans ao.out (Ss.grown_below xw.below))
    clear x1 x2 c1 c2 gl
    by_cases hk:k y<k z
    · have hv:decide (Ss.cmp (k y) (k z)<0)=true:=Zn ((Ss.cmp_lt _ _).2 hk)
      rw[hv,Bool.not_true]
      clear hv
      have HK:=Za hk
      clear hk
      go_wp2_with fail
      refine⟨⟨i,(i+j)/2,hi,by omega,by omega,rfl,by go_num,H1.out,fun u hu=>?_,af.out,au.out⟩,by simp[intOf];omega⟩
      rw[HY.out]at hu
      cases hu
      exact HK.out
    · have hv:decide (Ss.cmp (k y) (k z)<0)=false:=Zo fun h=>hk ((Ss.cmp_lt _ _).1 h)
      rw[hv,Bool.not_false]
      clear hv
      have HK:=Za hk
      clear hk
      go_wp2_with fail
      refine⟨⟨(i+j)/2+1,j,by omega,by omega,a6,by go_num,rfl,fun u _ hu=>?_,H2.out,af.out,au.out⟩,by simp[intOf];omega⟩
      rw[show (i+j)/2+1-a-1=(i+j)/2-a by omega,HY.out]at hu
      cases hu
      have:=HK.out
      omega
  · obtain rfl:i=j:=by omega
    have iI:¬(i:Int)<i:=by omega
    obtain⟨s,az⟩:∃s,i=a+s:=⟨i-a,by omega⟩
    subst az
    have av:∀u∈A.take s,k u≤k y:=fun u hu=>by
     obtain⟨q,hq,ag⟩:=Ss.mem_take hu
     have ay:=(List.getElem?_eq_some_iff.1 ag).1
     obtain⟨z,hz⟩:∃z,A[s-1]?=some z:=⟨_,Zc (by omega)⟩
     have g1:=h1 z (by omega) (by rw[show a+s-a-1=s-1 by omega];exact hz)
     have g2:=HS.out.get ag hz (by omega)
     omega
    have aq:∀u∈A.drop s,k y<k u:=fun u hu=>by
     obtain⟨q,hq,ag⟩:=Ss.mem_drop hu
     have ay:=(List.getElem?_eq_some_iff.1 ag).1
     obtain⟨z,hz⟩:∃z,A[s]?=some z:=⟨_,Zc (by omega)⟩
     have g1:=h2 z (by rw[show a+s-a=s by omega];exact hz)
     have g2:=HS.out.get hz ag hq
     omega
    obtain⟨r1,r2⟩:=Ss.insert (x:=y) (s:=A.take s) (g:=A.drop s) (by rw[ZG];exact HS.out) av aq
    rw[ZG]at r2
    have R1:=Za r1
    have R2:=Za r2
    have ap:Hid (Ss.At wr g sz (P++(A.take A.length++(y::(A.drop A.length++Q))))):=Lib.hid (by simpa using aa)
    have ao:=Za ae
    clear r1 r2 av aq h1 h2 aa ae hi hij
    go_wp2_with fail
    obtain⟨w1,rfl⟩:∃w1:World,w1=wr:=⟨_,rfl⟩
    go_loopw [17] (fun vk wq=>∃t:Nat,s≤t∧t≤A.length∧vk=.int .i64 ((a+t:Nat):Int)∧Ss.At wq g sz (P++(A.take t++(y::(A.drop t++Q))))∧w.grownBy wq (some g)) (fun vk _=>(intOf vk).toNat)
    case atStart=>exact⟨A.length,by omega,Zb _,by rw[hA],ap.out,ao.out⟩
    case round =>
     obtain⟨t,ba,ht,rfl,aa,ae⟩:=hrel
     by_cases hts:s<t
     · obtain⟨t1,rfl⟩:∃t1,t=t1+1:=⟨t-1,by omega⟩
       obtain⟨u,hu⟩:∃u,A[t1]?=some u:=⟨_,Zc (by omega)⟩
       obtain⟨u1,u2⟩:=List.getElem?_eq_some_iff.1 hu
       have hdr:A.drop t1=u::A.drop (t1+1):=by rw[ZV u1,u2]
       have ar:A.take (t1+1)=A.take t1++[u]:=by rw[Zw,hu];rfl
       have e1:P++(A.take (t1+1)++(y::(A.drop (t1+1)++Q)))=(P++A.take t1)++u::([]++y::(A.drop (t1+1)++Q)):=by rw[ar];simp
       have e2:(P++A.take t1)++y::([]++u::(A.drop (t1+1)++Q))=P++(A.take t1++(y::(A.drop t1++Q))):=by rw[hdr];simp
       rw[e1]at aa
       have l1:(P++A.take t1).length=o+(a+t1):=by rw[Ze,HP.out,Zq];omega
       have l2:(P++A.take t1).length+1+([]:List Int).length=o+(a+(t1+1)):=by rw[l1,Z6];omega
       have L1:=Za l1
       have L2:=Za l2
       clear l1 l2
       have c1:=aa.cell (Ss.get_first _ _ _)
       have c2:=aa.cell (Ss.get_second _ _ _ _ _)
       rw[L1.out]at c1
       rw[L2.out]at c2
       have f1:=aa.fro (o+(a+t1))
       have f2:=aa.fro (o+(a+(t1+1)))
       have gl:=aa.lt
       have aj:=aa.swapB
       rw[e2,L2.out,L1.out]at aj
       have tI:((a+(t1+1):Nat):Int) > ((a+s:Nat):Int):=by omega
       have k0:(0:Int)≤((a+(t1+1):Nat):Int):=by omega
       have k1:((a+(t1+1):Nat):Int)<n0:=by omega
       have k2:(0:Int)≤((a+t1:Nat):Int):=by omega
       have k3:((a+t1:Nat):Int)<n0:=by omega
       have a7:=Za aj
       have ak:=Za ae
       clear hu u1 u2 hdr ar e1 e2 aa aj ae
       go_wp2
       go_region
       go_wp2
       exact⟨⟨t1,by omega,by omega,by go_num,a7.out,Ss.grown_drew (Ss.grown_set (Ss.grown_set ak.out _ _) _ _)⟩,by simp[intOf];omega⟩
     · obtain rfl:t=s:=by omega
       have tI:¬((a+t:Nat):Int) > ((a+t:Nat):Int):=by omega
       have ax:=Za aa
       have ak:=Za ae
       clear aa ae
       go_wp2_with fail
       go_end0
       exact⟨rfl,⟨A.take t++y::A.drop t,R1.out,R2.out,by simpa using ax.out⟩,ak.out⟩
end
def Ss.SymOk (aa:FuncId) (cd:Option Addr) (k:Int→Int) (N:Nat):Prop:=∀(sz g o n0 cap a m b:Nat) (P A B Q:List Int) (w:World),Ss.Cmp aa cd k g w→Ss.At w g sz (P++(A++(B++Q)))→P.length=o+a→a+A.length=m→m+B.length=b→a<m→m<b→b≤n0→n0≤1000000→b≤a+N→Ss.so k A→Ss.so k B →
 Calls Tryz.prog 133 #[.slice (some ⟨g,o,none⟩) n0 cap,.int .i64 a,.int .i64 m,.int .i64 b,.func (.func aa) #[] #[.pointer cd]] w (Ss.RetSym k sz g P A B Q w)
set_option maxRecDepth 100000 in
set_option maxHeartbeats 8000000 in
theorem Ss.sym_main (ak:FuncId) (cd:Option Addr) (k:Int→Int) (ao:∀(args:Array Value) (w:World),(callFunc ak args).run Tryz.prog w=.ok (.enter ak args) w) (N:Nat) (IH:Ss.SymOk ak cd k N)
 (sz g o n0 cap a m b:Nat) (P A B Q:List Int) (w:World) (hC:Ss.Cmp ak cd k g w) (hZ:Ss.At w g sz (P++(A++(B++Q)))) (hP:P.length=o+a) (hA:a+A.length=m) (hB:m+B.length=b) (hA2:2≤A.length) (hB2:2≤B.length) (hn:b≤n0) (b1:n0≤1000000) (hN:b≤a+N+1) (dr:Ss.so k A) (dp:Ss.so k B) :
 Calls Tryz.prog 133 #[.slice (some ⟨g,o,none⟩) n0 cap,.int .i64 a,.int .i64 m,.int .i64 b,.func (.func ak) #[] #[.pointer cd]] w (Ss.RetSym k sz g P A B Q w):=by
 have dy:=Za ao
 have HC:=Za hC
 have HZ:=Za hZ
 have HP:=Za hP
 have HA:=Za hA
 have HB:=Za hB
 have dh:=Za dr
 have ct:=Za dp
 have dw:=Za IH
 have dx:=Za (fun s e P U V Q W h1 h2 h3 h4 h5 h6 h7=>Ss.rotate_any sz g o n0 cap s m e (.func (.func ak) #[] #[.pointer cd]) P U V Q W h1 h2 h3 h4 h5 h6 h7 b1)
 have e1:((m:Int)-a == 1)=false:=by simp;omega
 have e3:((b:Int)-m == 1)=false:=by simp;omega
 obtain⟨md,cr⟩:∃md,(a+b)/2=md:=⟨_,rfl⟩
 have ar:((a:Int)+b)/2=md:=by omega
 have eh:a+2≤md:=by omega
 have eg:md+2≤b:=by omega
 have bw:md≤a+N:=by omega
 have cc:b≤md+N:=by omega
 obtain⟨lo,hi,cu⟩:∃lo hi:Nat,(md<m∧lo=md+m-b∧hi=md)∨(¬md<m∧lo=a∧hi=m):=by
  by_cases h:md<m
  · exact⟨_,_,.inl ⟨h,rfl,rfl⟩⟩
  · exact⟨_,_,.inr ⟨h,rfl,rfl⟩⟩
 have b7:a≤lo:=by omega
 have b8:lo≤hi:=by omega
 have dz:md+m≤lo+b:=by omega
 have b3:hi≤m:=by omega
 have bz:hi≤md:=by omega
 have bi:lo=a∨lo+b=md+m:=by omega
 have br:hi=m∨hi=md:=by omega
 have ec:=Za cu
 have ei:=Za cr
 have b4:=Za ar
 have ck:=Za bi
 have cb:=Za br
 have et:a<m:=by omega
 have hmb:m<b:=by omega
 have ef:=Za hA2
 have ep:=Za hB2
 clear ao hC hZ hP dr dp IH hA hB cu cr ar bi br hA2 hB2
 go_enter Tryz.func133,Tryz.ntmps133
 go_upto_region 24 with (fail)
 clear e1 e3
 go_cut [18] (fun v wx=>v=.int .i64 md∧wx=w)
 case first=>as_aux_lemma =>
  go_wp2_with fail
  go_meet
  exact⟨Z4 (Value.int .i64) b4.out,rfl⟩
 case rest=>as_aux_lemma =>
  obtain⟨rfl,aa⟩:=hcut
  replace aa:=aa.symm
  subst aa
  go_upto_if 140 with (fail)
  go_cut [20,21] (fun u v wx=>u=.int .i64 lo∧v=.int .i64 hi∧wx=w)
  case first=>as_aux_lemma =>
   rcases ec.out with ⟨h1,h2,h3⟩|⟨h1,h2,h3⟩
   · have HL:=Za h2
     have HH:=Za h3
     have cx:(md:Int)+m-b=lo:=by have:=ei.out;omega
     have ej:=Za cx
     clear h2 h3 cx
     go_wp2_with fail
     go_meet
     exact⟨Z4 (Value.int .i64) ej.out,Z4 (fun x:Nat=>Value.int .i64 (x:Int)) HH.out.symm,rfl⟩
   · have HL:=Za h2
     have HH:=Za h3
     clear h2 h3
     go_wp2_with fail
     go_meet
     exact⟨Z4 (fun x:Nat=>Value.int .i64 (x:Int)) HL.out.symm,Z4 (fun x:Nat=>Value.int .i64 (x:Int)) HH.out.symm,rfl⟩
  case rest=>as_aux_lemma =>
   obtain⟨rfl,rfl,aa⟩:=hcut
   replace aa:=aa.symm
   subst aa
   go_wp2_with fail
   go_loopw [20,21,23] (fun vi vj _ wr=>∃i j:Nat,lo≤i∧i≤j∧j≤hi∧vi=.int .i64 i∧vj=.int .i64 j∧(∀x y,lo<i→A[i-1-a]?=some x→B[md-i]?=some y→k x≤k y)∧(∀x y,j<hi→A[j-a]?=some x→B[md-1-j]?=some y→k y<k x)∧Ss.At wr g sz (P++(A++(B++Q)))∧w.grownBy wr (some g)) (fun vi vj _ _=>(intOf vj).toNat-(intOf vi).toNat)
   case atStart=>exact⟨lo,hi,Zb _,b8,Zb _,rfl,rfl,fun x y h=>absurd h (Nat.lt_irrefl _),fun x y h=>absurd h (Nat.lt_irrefl _),HZ.out,Ss.grown_refl _ _⟩
   case round =>
    obtain⟨i,j,cq,hij,cj,rfl,rfl,h1,h2,aj,bo⟩:=hrel
    by_cases hlt:i<j
    · as_aux_lemma =>
      have bu:=HB.out
      have b6:=HA.out
      obtain⟨x,hx⟩:∃x,A[(i+j)/2-a]?=some x:=⟨_,Zc (by omega)⟩
      obtain⟨y,hy⟩:∃y,B[md-1-(i+j)/2]?=some y:=⟨_,Zc (by omega)⟩
      have c1:=aj.cell (Ss.get_left (P:=P) (R:=B++Q) hx)
      rw[HP.out,show o+a+((i+j)/2-a)=o+(i+j)/2 by omega]at c1
      have c2:=aj.cell (Ss.get_right (P:=P) (A:=A) (Q:=Q) hy)
      rw[HP.out,show o+a+A.length+(md-1-(i+j)/2)=o+(md+m-1-(i+j)/2) by omega]at c2
      have gl:=aj.lt
      have iI:(i:Int)<j:=by omega
      have m0:(0:Int)≤((i:Int)+j)/2:=by omega
      have m1:((i:Int)+j)/2<n0:=by omega
      have p0:(0:Int)≤(md:Int)+m-1-((i:Int)+j)/2:=by omega
      have p1:(md:Int)+m-1-((i:Int)+j)/2<n0:=by omega
      have pt:((md:Int)+m-1-((i:Int)+j)/2).toNat=md+m-1-(i+j)/2:=by omega
      have C1:=Za (Ext.call (w:=wr) fun W hW=>HC.out W (Rw.grown_trans bo (Ss.grown_below hW)) y x)
      have x1:=Ext.cells c1 gl
      have x2:=Ext.cells c2 gl
      have bc:=Za aj
      have bg:=Za bo
      have H1:=Za h1
      have H2:=Za h2
      have HX:=Za hx
      have HY:=Za hy
      clear h1 h2 hx hy aj bo bu b6
      go_wp2_with fail
      refine wp_region_ext (by kernel_rfl) (by kernel_rfl) ?_
      have ao:=dy.out
      repeat (go_big_quiet_step (with_reducible exact C1.out _))
      clear ao
      refine wpQuiet_nil ?_
      intro xw
      have aq:=Za (bc.out.below xw.below)
      have dc:=Za (Rw.grown_trans bg.out (Ss.grown_below xw.below))
      clear x1 x2 c1 c2 gl m0 m1 p0 p1 pt
      by_cases hk:k y<k x
      · have hv:decide (Ss.cmp (k y) (k x)<0)=true:=Zn ((Ss.cmp_lt _ _).2 hk)
        rw[hv,Bool.not_true]
        have HK:=Za hk
        clear hk hv
        go_wp2_with fail
        refine⟨⟨i,(i+j)/2,cq,by omega,by omega,rfl,by go_num,H1.out,fun u v _ hu hv=>?_,aq.out,dc.out⟩,by simp[intOf];omega⟩
        rw[HX.out]at hu
        rw[HY.out]at hv
        cases hu
        cases hv
        exact HK.out
      · have hv:decide (Ss.cmp (k y) (k x)<0)=false:=Zo fun h=>hk ((Ss.cmp_lt _ _).1 h)
        rw[hv,Bool.not_false]
        have HK:=Za hk
        clear hk hv
        go_wp2_with fail
        refine⟨⟨(i+j)/2+1,j,by omega,by omega,cj,by go_num,rfl,fun u v _ hu hv=>?_,H2.out,aq.out,dc.out⟩,by simp[intOf];omega⟩
        rw[show (i+j)/2+1-1-a=(i+j)/2-a by omega,HX.out]at hu
        rw[show md-((i+j)/2+1)=md-1-(i+j)/2 by omega,HY.out]at hv
        cases hu
        cases hv
        have:=HK.out
        omega
    · as_aux_lemma =>
      obtain rfl:i=j:=by omega
      obtain⟨s,hs⟩:∃s,i=s:=⟨_,rfl⟩
      subst hs
      have bu:=HB.out
      have b6:=HA.out
      have ea:=ef.out
      have iI:¬(i:Int)<i:=by omega
      obtain⟨f1,f2⟩:=Ss.sym (s:=i-a) (j:=md-i) (by omega) (by omega) dh.out ct.out
       (fun x y hx hj hy=>by
         have er:=(List.getElem?_eq_some_iff.1 hx).1
         have:i<hi:=by rcases cb.out with h|h <;> omega
         exact h2 x y this hx (by rw[show md-1-i=md-i-1 by omega];exact hy))
       (fun x y hs hx hy=>by
         have eu:=(List.getElem?_eq_some_iff.1 hy).1
         have:lo<i:=by rcases ck.out with h|h <;> omega
         exact h1 x y this (by rw[show i-1-a=i-a-1 by omega];exact hx) hy)
      have eA:=(ZG (i-a) A).symm
      have eB:=(ZG (md-i) B).symm
      have b9:(A.take (i-a)).length=i-a:=by rw[Zq];omega
      have cp:(A.drop (i-a)).length=m-i:=by rw[ZK];omega
      have cm:(B.take (md-i)).length=md-i:=by rw[Zq];omega
      have cg:(B.drop (md-i)).length=b-m-(md-i):=by rw[ZK];omega
      obtain⟨A1,df⟩:∃l,A.take (i-a)=l:=⟨_,rfl⟩
      obtain⟨A2,hA2⟩:∃l,A.drop (i-a)=l:=⟨_,rfl⟩
      obtain⟨B1,dn⟩:∃l,B.take (md-i)=l:=⟨_,rfl⟩
      obtain⟨B2,hB2⟩:∃l,B.drop (md-i)=l:=⟨_,rfl⟩
      rw[df]at f2 b9 eA
      rw[hA2]at f1 cp eA
      rw[dn]at f1 cm eB
      rw[hB2]at f2 cg eB
      have sA:=dh.out
      have sB:=ct.out
      rw[eA]at sA
      rw[eB]at sB
      have ae:Ss.At wr g sz ((P++A1)++(A2++(B1++(B2++Q)))):=by
       have h:=aj
       rw[eA,eB]at h
       simpa using h
      obtain⟨en,ao⟩:∃en,md+m-i=en:=⟨_,rfl⟩
      have ax:md+(m-i)=en:=by omega
      have bj:en+(b-m-(md-i))=b:=by omega
      have az:m+(md-i)=en:=by omega
      have a6:(md:Int)+m-i=en:=by omega
      have eo:a≤i:=Zh b7 cq
      have ek:i≤m:=Zh cj b3
      have eb:i≤md:=Zh cj bz
      have b2:en≤b:=by omega
      have dm:md≤en:=by omega
      have ed:m≤en:=by omega
      have c6:=Za (fun c1 c2 s1 q1 s2 q2=>Ss.halves (c1:=c1) (c2:=c2) sA sB f1 f2 s1 q1 s2 q2)
      have di:=Za sA.left
      have c8:=Za sA.right
      have dv:=Za sB.left
      have c7:=Za sB.right
      have bt:=Za b9
      have bs:=Za cp
      have ba:=Za cm
      have du:=Za cg
      have au:=Za ax
      have bk:=Za bj
      have a8:=Za az
      have cn:=Za a6
      have EA:=Za eA
      have EB:=Za eB
      have bc:=Za ae
      have bg:=Za bo
      clear h1 h2 f1 f2 eA eB b9 cp cm cg df hA2 dn hB2 sA sB aj ae bo ao ax bj az a6 bu b6 ea cq hij
      obtain⟨wl,rfl⟩:∃wl:World,wl=wr:=⟨_,rfl⟩
      go_upto_region 38 with (fail)
      go_cut [24] (fun v wx=>v=.int .i64 en∧wx=wl)
      case first=>as_aux_lemma =>
       go_wp2_with fail
       go_meet
       exact⟨Z4 (Value.int .i64) cn.out,rfl⟩
      case rest=>as_aux_lemma =>
       obtain⟨rfl,aa⟩:=hcut
       replace aa:=aa.symm
       subst aa
       go_upto_region 39 with (fail)
       obtain⟨z1,dk⟩:∃z,(decide (i<m)&&decide (m<en))=z:=⟨_,rfl⟩
       have bl:=Za dk
       clear dk
       go_cut [185] (fun s wx=>s=.bool z1∧wx=wl)
       case first=>as_aux_lemma =>
        by_cases h1:i<m
        · have ap:(i:Int)<m:=by omega
          by_cases h2:m<en
          · have bp:(m:Int)<en:=by omega
            have hs:z1=true:=by rw[←bl.out];simp[h1,h2]
            subst hs
            go_wp2_with fail
            go_meet
            exact⟨rfl,rfl⟩
          · have bp:¬(m:Int)<en:=by omega
            have hs:z1=false:=by rw[←bl.out];simp[h2]
            subst hs
            go_wp2_with fail
            go_meet
            exact⟨rfl,rfl⟩
        · have ap:¬(i:Int)<m:=by omega
          have hs:z1=false:=by rw[←bl.out];simp[h1]
          subst hs
          go_wp2_with fail
          go_meet
          exact⟨rfl,rfl⟩
       case rest=>as_aux_lemma =>
        obtain⟨rfl,aa⟩:=hcut
        replace aa:=aa.symm
        subst aa
        go_upto_if 185 with (fail)
        go_cut [] (fun wx=>Ss.At wx g sz (P++(A1++(B1++(A2++(B2++Q)))))∧w.grownBy wx (some g))
        case first=>as_aux_lemma =>
         cases z1 with
         | true =>
           have hzz:=bl.out
           rw[ZB,Z5,Z5]at hzz
           have hR:=Za (dx.out i en (P++A1) A2 B1 (B2++Q) wl bc.out (by rw[Ze,HP.out,bt.out];omega) (by rw[bs.out];omega) (by rw[ba.out];exact a8.out) hzz.1 hzz.2 (Zh b2 hn))
           clear hzz
           go_wp2_with fail
           refine hR.out.mono ?_
           rintro e w2 ⟨rfl,ae,ag⟩
           have b5:=Za ae
           have ay:=Za (Rw.grown_trans bg.out ag)
           clear ae ag hR
           go_wp2_with fail
           go_meet
           exact⟨by simpa using b5.out,ay.out⟩
         | false =>
           have hzz:=bl.out
           rw[XF,ZY,ZY]at hzz
           have a7:Ss.At wl g sz (P++(A1++(B1++(A2++(B2++Q))))):=by
            have h:=bc.out
            rcases hzz with hzz|hzz
            · have:A2=[]:=Zy (by rw[bs.out];omega)
              subst this
              simpa using h
            · have:B1=[]:=Zy (by rw[ba.out];have:=a8.out;omega)
              subst this
              simpa using h
           have HF:=Za a7
           clear hzz a7
           go_wp2_with fail
           go_meet
           exact⟨HF.out,bg.out⟩
        case rest=>as_aux_lemma =>
         obtain⟨aw,bh⟩:=hcut
         obtain⟨wm,rfl⟩:∃wm:World,wm=wc:=⟨_,rfl⟩
         have ah:=Za aw
         have af:=Za bh
         clear aw bh bc bg dx
         go_upto_region 41 with (fail)
         obtain⟨z2,cy⟩:∃z,(decide (a<i)&&decide (i<md))=z:=⟨_,rfl⟩
         have bb:=Za cy
         clear cy
         go_cut [199] (fun s wx=>s=.bool z2∧wx=wm)
         case first=>as_aux_lemma =>
          by_cases h1:a<i
          · have ap:(a:Int)<i:=by omega
            by_cases h2:i<md
            · have bp:(i:Int)<md:=by omega
              have hs:z2=true:=by rw[←bb.out];simp[h1,h2]
              subst hs
              go_wp2_with fail
              go_meet
              exact⟨rfl,rfl⟩
            · have bp:¬(i:Int)<md:=by omega
              have hs:z2=false:=by rw[←bb.out];simp[h2]
              subst hs
              go_wp2_with fail
              go_meet
              exact⟨rfl,rfl⟩
          · have ap:¬(a:Int)<i:=by omega
            have hs:z2=false:=by rw[←bb.out];simp[h1]
            subst hs
            go_wp2_with fail
            go_meet
            exact⟨rfl,rfl⟩
         case rest=>as_aux_lemma =>
          obtain⟨rfl,aa⟩:=hcut
          replace aa:=aa.symm
          subst aa
          go_upto_if 199 with (fail)
          go_cut [] (fun wx=>(∃C1,Ss.so k C1∧Ss.eqv k (A1++B1) C1∧Ss.At wx g sz (P++(C1++(A2++(B2++Q)))))∧w.grownBy wx (some g))
          case first=>as_aux_lemma =>
           cases z2 with
           | true =>
             have hzz:=bb.out
             rw[ZB,Z5,Z5]at hzz
             have hR:=Za (dw.out sz g o n0 cap a i md P A1 B1 (A2++(B2++Q)) wm (HC.out.grown af.out) ah.out HP.out (by rw[bt.out];omega) (by rw[ba.out];omega) hzz.1 hzz.2 (by omega) b1 bw di.out dv.out)
             clear hzz
             go_wp2_with fail
             refine hR.out.mono ?_
             rintro e w2 ⟨rfl,av,ag⟩
             have bx:=Za av
             have ay:=Za (Rw.grown_trans af.out ag)
             clear av ag hR
             go_wp2_with fail
             go_meet
             exact⟨bx.out,ay.out⟩
           | false =>
             have hzz:=bb.out
             rw[XF,ZY,ZY]at hzz
             have bq:Ss.so k (A1++B1):=by
              rcases hzz with hzz|hzz
              · have:A1=[]:=Zy (by rw[bt.out];omega)
                rw[this,Z2]
                exact dv.out
              · have:B1=[]:=Zy (by rw[ba.out];omega)
                rw[this,Yc]
                exact di.out
             have ch:=Za bq
             clear hzz bq
             go_wp2_with fail
             go_meet
             exact⟨⟨A1++B1,ch.out,Ss.eqv.refl _ _,by simpa using ah.out⟩,af.out⟩
          case rest=>as_aux_lemma =>
           obtain⟨⟨C1,cv,cf,bm⟩,bn⟩:=hcut
           obtain⟨wn,rfl⟩:∃wn:World,wn=wc:=⟨_,rfl⟩
           have dt:(P++C1).length=o+md:=by rw[Ze,HP.out,cf.length,Ze,bt.out,ba.out];omega
           have bf:Hid (Ss.At wn g sz ((P++C1)++(A2++(B2++Q)))):=Lib.hid (by simpa using bm)
           have ai:=Za bn
           have dl:=Za cv
           have cw:=Za cf
           have ee:=Za dt
           clear bm bn cv cf dt ah af
           go_upto_region 43 with (fail)
           obtain⟨z3,cz⟩:∃z,(decide (md<en)&&decide (en<b))=z:=⟨_,rfl⟩
           have a1:=Za cz
           clear cz
           go_cut [213] (fun s wx=>s=.bool z3∧wx=wn)
           case first=>as_aux_lemma =>
            by_cases h1:md<en
            · have ap:(md:Int)<en:=by omega
              by_cases h2:en<b
              · have bp:(en:Int)<b:=by omega
                have hs:z3=true:=by rw[←a1.out];simp[h1,h2]
                subst hs
                go_wp2_with fail
                go_meet
                exact⟨rfl,rfl⟩
              · have bp:¬(en:Int)<b:=by omega
                have hs:z3=false:=by rw[←a1.out];simp[h2]
                subst hs
                go_wp2_with fail
                go_meet
                exact⟨rfl,rfl⟩
            · have ap:¬(md:Int)<en:=by omega
              have hs:z3=false:=by rw[←a1.out];simp[h1]
              subst hs
              go_wp2_with fail
              go_meet
              exact⟨rfl,rfl⟩
           case rest=>as_aux_lemma =>
            obtain⟨rfl,aa⟩:=hcut
            replace aa:=aa.symm
            subst aa
            go_upto_if 213 with (fail)
            cases z3 with
            | true =>
              have hzz:=a1.out
              rw[ZB,Z5,Z5]at hzz
              have hR:=Za (dw.out sz g o n0 cap md en b (P++C1) A2 B2 Q wn (HC.out.grown ai.out) bf.out ee.out (by rw[bs.out];exact au.out) (by rw[du.out];exact bk.out) hzz.1 hzz.2 hn b1 cc c8.out c7.out)
              clear hzz
              go_wp2_with fail
              refine hR.out.mono ?_
              rintro e w2 ⟨rfl,av,ag⟩
              have bx:=Za av
              have ay:=Za (Rw.grown_trans ai.out ag)
              clear av ag hR
              go_wp2_with fail
              go_end0
              obtain⟨C2,s2,q2,a2⟩:=bx.out
              obtain⟨r1,r2⟩:=c6.out C1 C2 dl.out cw.out s2 q2
              rw[←EA.out,←EB.out]at r2
              exact⟨rfl,⟨C1++C2,r1,r2,by simpa using a2⟩,ay.out⟩
            | false =>
              have hzz:=a1.out
              rw[XF,ZY,ZY]at hzz
              have bq:Ss.so k (A2++B2):=by
               rcases hzz with hzz|hzz
               · have:A2=[]:=Zy (by rw[bs.out];have:=au.out;omega)
                 rw[this,Z2]
                 exact c7.out
               · have:B2=[]:=Zy (by rw[du.out];have:=bk.out;omega)
                 rw[this,Yc]
                 exact c8.out
              have ch:=Za bq
              clear hzz bq
              go_wp2_with fail
              go_end0
              obtain⟨r1,r2⟩:=c6.out C1 (A2++B2) dl.out cw.out ch.out (Ss.eqv.refl _ _)
              rw[←EA.out,←EB.out]at r2
              exact⟨rfl,⟨C1++(A2++B2),r1,r2,by simpa using bf.out⟩,ai.out⟩
theorem Ss.sym_all (aa:FuncId) (cd:Option Addr) (k:Int→Int) (ag:∀(args:Array Value) (w:World),(callFunc aa args).run Tryz.prog w=.ok (.enter aa args) w):∀N,Ss.SymOk aa cd k N
 | 0=>fun sz g o n0 cap a m b P A B Q w hC hZ hP hA hB h1 h2 hn af hN ae ah=>by omega
 | N+1=>fun sz g o n0 cap a m b P A B Q w hC hZ hP hA hB h1 h2 hn af hN ae ah=>by
   rcases ZX A.length 2 with hA2|hA2
   · match A,hA,ae,hZ,hA2 with
     | [],hA,_,_,_=>simp at hA;omega
     | [x],hA,_,hZ,_=>exact Ss.sym_one aa cd k ag sz g o n0 cap a m b P x B Q w hC hZ hP (by simpa using hA) hB hn af ah
     | x::y::l,_,_,_,h=>simp at h;omega
   · rcases ZX B.length 2 with hB2|hB2
     · match B,hB,ah,hZ,hB2 with
       | [],hB,_,_,_=>simp at hB;omega
       | [x],hB,_,hZ,_=>exact Ss.sym_last aa cd k ag sz g o n0 cap a m b P A x Q w hC hZ hP hA hA2 (by simpa using hB) hn af ae
       | x::y::l,_,_,_,h=>simp at h;omega
     · exact Ss.sym_main aa cd k ag N (Ss.sym_all aa cd k ag N) sz g o n0 cap a m b P A B Q w hC hZ hP hA hB hA2 hB2 hn af (by omega) ae ah
end Go.Proofs.YtikiplbhlohmdaaGreatDoor
