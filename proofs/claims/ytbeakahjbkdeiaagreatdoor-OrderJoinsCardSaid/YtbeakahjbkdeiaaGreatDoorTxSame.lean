/- Same of cedillalaw16: characters against numbers: by walking its text. -/
import Derived.Test.YtbeakahjbkdeiaaGreatDoorAl1
import Derived.Test.YtbeakahjbkdeiaaGreatDoorSlt
import Derived.BigRegion
import Derived.Deep.DeepCutAuto
namespace Go.Proofs.YtbeakahjbkdeiaaGreatDoor
open Go.RowKit
set_option linter.unusedSimpArgs false
set_option linter.unusedVariables false
set_option maxRecDepth 100000 in
set_option maxHeartbeats 4000000 in
theorem Tx.same_any (A B:Option Addr) (na ca nb cb:Nat) (LA LB:List Int) (w:World) (ak:LA.length=na) (ar:LB.length=nb) (a1:na≤1000000) (a7:nb≤1000000) (ao:∀x∈LA,-2147483648≤x∧x≤2147483647)
 (hA:Sl w w.heap.size A (LA.map (Value.int .i32))) (hB:Sl w w.heap.size B (LB.map (Value.int .i64))) :
 Calls Tryz.prog 34 #[.slice A na ca,.slice B nb cb] w fun e w'=>e=.returned (.bool (decide (LA=LB)))∧Below w.heap.size w w':=by
 have HA:=Za hA
 have HB:=Za hB
 have ah:=Za ak
 have aj:=Za ar
 have ay:=Za ao
 obtain⟨r,hr⟩:∃r,decide (LA=LB)=r:=⟨_,rfl⟩
 rw[hr]
 have HR:=Za hr
 clear hA hB ak ar hr ao
 go_enter Tryz.func34,Tryz.ntmps34
 rcases hd:((na:Int) != (nb:Int)) with _|_
 · have aw:na=nb:=by
    have:(na:Int)=nb:=by simpa using hd
    omega
   subst aw
   go_wp2_with fail
   go_loopw [13] (fun i wr=>∃k:Nat,k≤na∧i=.int .i64 k∧LA.take k=LB.take k∧Below w.heap.size w wr) (fun i _=>na-(intOf i).toNat)
   case atStart=>exact⟨0,Zz _,rfl,rfl,Zd _ _⟩
   case round =>
    obtain⟨k,hk,rfl,ae,aa⟩:=hrel
    have af:=Za ae
    have ag:=Za aa
    by_cases hlt:k<na
    · obtain⟨x,hx⟩:∃x,LA[k]?=some x:=⟨_,Zc (by rw[ah.out];exact hlt)⟩
      obtain⟨y,hy⟩:∃y,LB[k]?=some y:=⟨_,Zc (by rw[aj.out];exact hlt)⟩
      obtain⟨ba,oa,rfl,az,ap⟩:=(HA.out.below aa aa.size) (by rw[Zf,ah.out];omega)
      obtain⟨bb,ob,rfl,a8,aq⟩:=(HB.out.below aa aa.size) (by rw[Zf,aj.out];omega)
      have c0:=ap k (by rw[Zf,ah.out];exact hlt)
      have c1:=aq k (by rw[Zf,aj.out];exact hlt)
      rw[Zl,hx,Zn]at c0
      rw[Zl,hy,Zn]at c1
      have ax:=ay.out x (Zk hx)
      have ex:IntKind.i64.wrap x=x:=by rw[Z1];omega
      have a6:(k:Int)<na:=by omega
      have bc:(0:Int)≤k:=by omega
      have HX:=Za hx
      have HY:=Za hy
      clear ae aa hx hy ap aq hd ax
      rcases hxy:(x != y) with _|_
      · have he:x=y:=by simpa using hxy
        have au:LA.take (k+1)=LB.take (k+1):=by rw[Zr,Zr,HX.out,HY.out,af.out,he]
        have av:=Za au
        clear au he
        go_upto_region 6 with (fail)
        go_region
        all_goals go_wp2_with fail
        all_goals exact⟨⟨k+1,by omega,by go_num,av.out,ag.out.drew⟩,by simp[intOf];omega⟩
      · have hne:LA≠LB:=by
         rintro rfl
         have:=HX.out.symm.trans HY.out
         simp only[Zg]at this
         subst this
         simp at hxy
        have hr:r=false:=by rw[←HR.out];exact Zu hne
        have ai:=Za hr
        clear hne hr
        go_upto_region 6 with (fail)
        go_region
        all_goals go_wp2_with fail
        all_goals go_ret
        all_goals exact⟨by rw[ai.out];rfl,ag.out.drew⟩
    · obtain rfl:na=k:=by omega
      have he:LA=LB:=by
       have h:=af.out
       rw[Zj (Nat.le_of_eq ah.out),Zj (Nat.le_of_eq aj.out)]at h
       exact h
      have hr:r=true:=by rw[←HR.out];exact Zo he
      have ai:=Za hr
      clear he hr ae aa hlt hd
      go_wp2_with fail
      go_ret
      exact⟨by rw[ai.out];rfl,ag.out⟩
 · have hr:r=false:=by
    rw[←HR.out]
    refine Zu fun e=>?_
    have h1:=ah.out
    rw[e,aj.out]at h1
    subst h1
    simp at hd
   have ai:=Za hr
   clear hr
   go_wp2_with fail
   go_ret
   exact⟨by rw[ai.out];rfl,Zd _ _⟩
end Go.Proofs.YtbeakahjbkdeiaaGreatDoor
