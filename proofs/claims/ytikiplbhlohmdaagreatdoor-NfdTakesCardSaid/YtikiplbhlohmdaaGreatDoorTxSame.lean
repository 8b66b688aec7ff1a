/- Numbers as characters (cedillalaw16.Runes), by walking the text. -/
import Derived.Test.YtikiplbhlohmdaaGreatDoorFaCh
set_option linter.unusedVariables false
set_option linter.unusedSimpArgs false
namespace Go.Proofs.YtikiplbhlohmdaaGreatDoor
open Go.RowKit
section
set_option maxRecDepth 100000
set_option maxHeartbeats 4000000
theorem Tx.runes_any (A:Option Addr) (n c:Nat) (l:List Int) (w:World) (hn:l.length=n) (a7:n≤1000000) (hbd:∀x∈l,-2147483648≤x∧x≤2147483647) (hA:Sl w w.heap.size A (l.map (Value.int .i64))) :
 Calls Tryz.prog 24 #[.slice A n c] w (Md.RetOwn l w):=by
 obtain⟨j0,hj0,a1,ax,av⟩:=Z7 infoRune
 have HN:=Za hn
 have aw:=Za hbd
 have HA:=Za hA
 clear hn hbd hA
 go_enter Tryz.func24,Tryz.ntmps24
 go_wp2_with fail
 go_loopw [3,5,8] (fun v3 _ i wr=>∃(k:Nat) (sl:Value),k≤n∧i=.int .i64 k∧v3=sl∧wr.ownsRow w.heap.size 21 1 sl k ((l.take k).map (Value.int .i32))∧Below w.heap.size w wr) (fun _ _ i _=>n-(intOf i).toNat)
 case atStart=>exact⟨0,_,ZE _,rfl,rfl,ZC _ _ _ _,Zd _ _⟩
 case round =>
  obtain⟨k,sl,hk,rfl,rfl,aa,ae⟩:=hrel
  have aq:=ae.size
  by_cases hlt:k<n
  · obtain⟨x,hx⟩:∃x,l[k]?=some x:=⟨_,Zc (by rw[HN.out];exact hlt)⟩
    obtain⟨az,ay⟩:=aw.out x (Zk hx)
    obtain⟨ab,ao,hA2,a6,aj⟩:=HA.out (by rw[Zg,HN.out];omega)
    have hc:=aj k (by rw[Zg,HN.out];exact hlt)
    rw[Zu,hx,Zt,←(bcell ae).1 _ _ (by omega)]at hc
    have ak:l.take (k+1)=l.take k++[x]:=by rw[Zw,hx];rfl
    have ar:=Za ak
    have ex:IntKind.i32.wrap x=x:=by rw[Xu];omega
    have kI:(k:Int)<n:=by omega
    have k0:(0:Int)≤k:=by omega
    have ag:=Za aa
    have ai:=Za ae
    subst hA2
    clear hx az ay aj aa ae ak
    go_wp2_with (first|(at_builtin;refine wpList_push1 _ rfl _ _ _ rfl w.heap.size 21 j0 _ 4 Tryz.underlying49 hj0 a1 ax av rfl _ k _ rfl ag.out _ rfl rfl (by simp only[maxLen];omega) (by omega) aq ?_;intro v1 w4 af ap;have ah:=Za af;have au:=Za (ai.out.trans ap);clear af ap)|fail)
    refine⟨⟨k+1,v1,by omega,by first|rfl|go_num,rfl,?_,au.out⟩,by simp[intOf];omega⟩
    rw[ar.out,ZM]
    exact ah.out
  · obtain rfl:k=n:=by omega
    rw[Zj (by rw[HN.out];exact Zb _)]at aa
    obtain⟨A4,c4,rfl⟩:=own_form aa
    have kI:¬(k:Int)<k:=by omega
    have HO:=Za aa
    have HB:=Za ae
    clear aa ae
    go_wp2_with fail
    go_ret
    unfold Md.RetOwn
    rw[HN.out]
    exact⟨_,_,rfl,HO.out,HB.out⟩
theorem Tx.same_any (A B:Option Addr) (na ca nb cb:Nat) (LA LB:List Int) (w:World) (ak:LA.length=na) (hnb:LB.length=nb) (aw:na≤1000000) (ax:nb≤1000000) (hbd:∀x∈LA,-2147483648≤x∧x≤2147483647)
 (hA:Sl w w.heap.size A (LA.map (Value.int .i32))) (hB:Sl w w.heap.size B (LB.map (Value.int .i64))) :
 Calls Tryz.prog 22 #[.slice A na ca,.slice B nb cb] w fun e w'=>e=.returned (.bool (decide (LA=LB)))∧Below w.heap.size w w':=by
 have HA:=Za hA
 have HB:=Za hB
 have aj:=Za ak
 have ai:=Za hnb
 have av:=Za hbd
 obtain⟨r,hr⟩:∃r,decide (LA=LB)=r:=⟨_,rfl⟩
 rw[hr]
 have HR:=Za hr
 clear hA hB ak hnb hr hbd
 go_enter Tryz.func22,Tryz.ntmps22
 rcases hd:((na:Int) != (nb:Int)) with _|_
 · have ar:na=nb:=by
    have:(na:Int)=nb:=by simpa using hd
    omega
   subst ar
   go_wp2_with fail
   go_loopw [13] (fun i wr=>∃k:Nat,k≤na∧i=.int .i64 k∧LA.take k=LB.take k∧Below w.heap.size w wr) (fun i _=>na-(intOf i).toNat)
   case atStart=>exact⟨0,ZE _,rfl,rfl,Zd _ _⟩
   case round =>
    obtain⟨k,hk,rfl,ae,aa⟩:=hrel
    have af:=Za ae
    have ag:=Za aa
    by_cases hlt:k<na
    · obtain⟨x,hx⟩:∃x,LA[k]?=some x:=⟨_,Zc (by rw[aj.out];exact hlt)⟩
      obtain⟨y,hy⟩:∃y,LB[k]?=some y:=⟨_,Zc (by rw[ai.out];exact hlt)⟩
      obtain⟨ba,oa,rfl,a6,ap⟩:=(HA.out.below aa aa.size) (by rw[Zg,aj.out];omega)
      obtain⟨bb,ob,rfl,a1,aq⟩:=(HB.out.below aa aa.size) (by rw[Zg,ai.out];omega)
      have c0:=ap k (by rw[Zg,aj.out];exact hlt)
      have c1:=aq k (by rw[Zg,ai.out];exact hlt)
      rw[Zu,hx,Zt]at c0
      rw[Zu,hy,Zt]at c1
      have hxb:=av.out x (Zk hx)
      have ex:IntKind.i64.wrap x=x:=by rw[Z0];omega
      have ay:(k:Int)<na:=by omega
      have az:(0:Int)≤k:=by omega
      have HX:=Za hx
      have HY:=Za hy
      clear ae aa hx hy ap aq hd hxb
      rcases hxy:(x != y) with _|_
      · have he:x=y:=by simpa using hxy
        have ao:LA.take (k+1)=LB.take (k+1):=by rw[Zw,Zw,HX.out,HY.out,af.out,he]
        have au:=Za ao
        clear ao he
        go_upto_region 6 with (fail)
        go_region
        all_goals go_wp2_with fail
        all_goals exact⟨⟨k+1,by omega,by go_num,au.out,ag.out.drew⟩,by simp[intOf];omega⟩
      · have hne:LA≠LB:=by
         rintro rfl
         have:=HX.out.symm.trans HY.out
         simp only[Zi]at this
         subst this
         simp at hxy
        have hr:r=false:=by rw[←HR.out];exact Zo hne
        have ah:=Za hr
        clear hne hr
        go_upto_region 6 with (fail)
        go_region
        all_goals go_wp2_with fail
        all_goals go_ret
        all_goals exact⟨by rw[ah.out];rfl,ag.out.drew⟩
    · obtain rfl:na=k:=by omega
      have he:LA=LB:=by
       have h:=af.out
       rw[Zj (Nat.le_of_eq aj.out),Zj (Nat.le_of_eq ai.out)]at h
       exact h
      have hr:r=true:=by rw[←HR.out];exact Zn he
      have ah:=Za hr
      clear he hr ae aa hlt hd
      go_wp2_with fail
      go_ret
      exact⟨by rw[ah.out];rfl,ag.out⟩
 · have hr:r=false:=by
    rw[←HR.out]
    refine Zo fun e=>?_
    have h1:=aj.out
    rw[e,ai.out]at h1
    subst h1
    simp at hd
   have ah:=Za hr
   clear hr
   go_wp2_with fail
   go_ret
   exact⟨by rw[ah.out];rfl,Zd _ _⟩
end
end Go.Proofs.YtikiplbhlohmdaaGreatDoor
