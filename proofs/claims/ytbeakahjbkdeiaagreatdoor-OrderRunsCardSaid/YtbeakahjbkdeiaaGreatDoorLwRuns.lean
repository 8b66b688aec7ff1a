/- The law OrderRuns, by walking its text. -/
import Derived.Test.YtbeakahjbkdeiaaGreatDoorAl1
import Derived.Test.YtbeakahjbkdeiaaGreatDoorTxAwake
import Derived.Test.YtbeakahjbkdeiaaGreatDoorOrRuns
import Derived.Test.YtbeakahjbkdeiaaGreatDoorMdOwn
set_option linter.unusedVariables false
set_option linter.unusedSimpArgs false
namespace Go.Proofs.YtbeakahjbkdeiaaGreatDoor
open Go.RowKit
set_option linter.unusedSimpArgs false
set_option linter.unusedVariables false
set_option maxRecDepth 100000 in
set_option maxHeartbeats 4000000 in
theorem Tx.orderRuns_any (w:World) (A XA PA MA:Option Addr) (n c xn xc pn pc mn mc:Nat) (T0:List Rw.Row) (E0 P M:List Int) (hT:Tx.In A XA PA MA n c xn xc pn pc mn mc T0 E0 P M w) (hL:Rw.Laid w) :
 Calls Tryz.prog 8 #[.agg #[.slice A n c,.slice XA xn xc,.slice PA pn pc,.slice MA mn mc]] w fun e w'=>e=.returned (.bool true)∧Below w.heap.size w w':=by
 have aj:=Za (fun W (hW:Below w.heap.size w W)=>Tx.made_in A XA PA MA n c xn xc pn pc mn mc T0 E0 P M 40 W (by decide) (hT.below hW) (Rw.Laid.next hL hW))
 have cz:=Za (fun W (hW:Below w.heap.size w W)=>Tx.awake16 W (hL.next hW))
 obtain⟨wa,bn⟩:∃wa,w.alloc (.cells #[.slice A n c,.slice XA xn xc,.slice PA pn pc,.slice MA mn mc] 50)=wa:=⟨_,rfl⟩
 have cr:Below w.heap.size w wa:=by rw[←bn];exact (Zd _ _).alloc (Zb _) _
 have cn:Rw.At wa w.heap.size 50 [.slice A n c,.slice XA xn xc,.slice PA pn pc,.slice MA mn mc]:=by rw[←bn];exact Rw.At.new w 50 [.slice A n c,.slice XA xn xc,.slice PA pn pc,.slice MA mn mc]
 have cd:=Za bn
 have bm:=Za cr
 have cx:=Za cn
 clear bn cr cn hT hL
 go_enter Tryz.func8,Tryz.ntmps8
 go_upto_region 1 with (fail)
 rw[cd.out]
 go_wp2_with fail
 refine (cz.out wa bm.out).mono ?_
 rintro e w1 ⟨rfl,bt⟩
 have af:=cx.out.below bt
 have bp:=Za (bm.out.trans (bt.mono bm.out.size))
 have x0:=af.cell 0 rfl
 have x1:=af.cell 1 rfl
 have x2:=af.cell 2 rfl
 have x3:=af.cell 3 rfl
 have xl:=af.lt
 clear bt af
 go_wp2_with fail
 refine (aj.out w1 bp.out).mono ?_
 rintro e w2 ⟨p,v2,T,E,S,l,Al,cl,rfl,bw,bg,hR,au,bz,dm,a6,b3⟩
 obtain⟨pb,rfl,c7⟩:=bw.form
 obtain⟨A2,c2,XA2,xc2,rfl,br⟩:=id bg
 obtain⟨n2,bj⟩:∃k,T.length=k:=⟨_,rfl⟩
 obtain⟨xn2,ar⟩:∃k,E.length=k:=⟨_,rfl⟩
 obtain⟨ln,bo⟩:∃k,l.length=k:=⟨_,rfl⟩
 unfold Md.tv at bg a6 ⊢
 rw[bj,ar]at bg ⊢
 simp only[bj,ar]at a6
 rw[bo]at au dm a6 ⊢
 obtain⟨w3,bb⟩:∃w3,w2.alloc (.cells #[.slice A2 n2 c2,.slice XA2 xn2 xc2] 31)=w3:=⟨_,rfl⟩
 have a7:Below w2.heap.size w2 w3:=by rw[←bb];exact (Zd _ _).alloc (Zb _) _
 have ag:Rw.At w3 w2.heap.size 31 [.slice A2 n2 c2,.slice XA2 xn2 xc2]:=by rw[←bb];exact Rw.At.new w2 31 [.slice A2 n2 c2,.slice XA2 xn2 xc2]
 have dp:=Za bb
 have b9:=Za (bp.out.trans ((b3.trans (a7.mono b3.size)).mono bp.out.size))
 have cf:=Za ag
 have cw:=Za (bw.below a7)
 have b5:=Za (bg.below a7)
 have bu:=Za (own_below au a7 (Zb _))
 have HR:=Za hR
 have du:=Za bz
 have ay:=Za bo
 have dt:=Za bj
 have dr:Hid (∀w'',w3.grownBy w'' (Value.slice Al ln cl).ownBlock→Ud.Is w'' (.pointer (some ⟨pb,0,none⟩)) T S∧Md.Doc w'' (.agg #[.slice A2 n2 c2,.slice XA2 xn2 xc2]) T E):=Za fun w'' hg=>a6 w'' (Rw.grown_trans (by rw[←bb];exact Yi _ _ _) hg)
 have dh:=Za (fun x (hx:x∈l)=>Tx.isC_i32 (bz x hx))
 have z0:=ag.cell 0 rfl
 have z1:=ag.cell 1 rfl
 have zl:=ag.lt
 clear x0 x1 x2 x3 xl a6 bg br bw hR au bz bo bj ar bb a7 ag b3 aj cz cd bm cx
 go_upto_region 4 with (fail)
 rw[dp.out]
 have cp:=Sl.of_own bu.out
 have b6:=Tx.runes_any Al ln cl l w3 ay.out (by omega) dh.out cp
 clear cp z0 z1 zl
 go_wp2_with fail
 refine b6.mono ?_
 rintro e w5 ⟨A5,c5,rfl,ah,ap⟩
 rw[ay.out]at ah ⊢
 have cq:=Or.runs_any _ T S A5 ln c5 l w5 HR.out.ok (cw.out.below ap) ay.out (by omega) (Sl.of_own ah)
 have ck:=Za (cf.out.below ap)
 have cj:=Za (b5.out.below ap)
 have cm:=Za ((Sl.of_own bu.out).below ap ap.size)
 have cc:=Za (b9.out.trans (ap.mono b9.out.size))
 clear ah ap b6 cf b5 cw bu
 go_wp2_with fail
 refine cq.mono ?_
 rintro e w6 ⟨A6,c6,rfl,ae,az⟩
 obtain⟨rs,bs⟩:∃rs,Or.runs (Md.cls T) l ln=rs:=⟨_,rfl⟩
 rw[bs]at ae ⊢
 obtain⟨rn,b1⟩:∃k,rs.length=k:=⟨_,rfl⟩
 rw[b1]at ae ⊢
 have cv:=Za bs
 have a1:=Za b1
 have cg:=Za (Sl.of_own ae)
 have dk:=Za (ck.out.below az)
 have di:=Za (cj.out.below az)
 have dn:=Za (cm.out.below az az.size)
 have ch:=Za (cc.out.trans (az.mono cc.out.size))
 have df:Hid (∀d W,Below w6.heap.size w6 W→Calls Tryz.prog 36 #[.agg #[.slice A2 n2 c2,.slice XA2 xn2 xc2],.int .i64 d] W fun e w'=>e=.returned (.int .i64 (Md.cls T d))∧Below W.heap.size W w'):=Za fun d W hW=>Md.rcls_any _ T E d W (by have:=HR.out.tl;omega) (di.out.below hW)
 clear ae az cq bs b1 ck cj cm
 go_wp2_with fail
 go_loopw [8,9,10,28] (fun kk _ _ i wr=>∃(k:Nat),k≤ln∧i=.int .i64 k∧kk=.int .i64 ((Or.runs (Md.cls T) l k).length:Int)∧Below w6.heap.size w6 wr) (fun _ _ _ i _=>ln-(intOf i).toNat)
 case atStart=>exact⟨0,Zz _,rfl,rfl,Zd _ _⟩
 case round =>
  obtain⟨k,hk,rfl,rfl,aa⟩:=hrel
  have bi:=aa.size
  by_cases hlt:k<ln
  · obtain⟨x,hx⟩:∃x,l[k]?=some x:=⟨_,Zc (by rw[ay.out];exact hlt)⟩
    obtain⟨ab,ao,rfl,cu,cy⟩:=dn.out (by rw[Zf,ay.out];omega)
    have hc:=cy k (by rw[Zf,ay.out];exact hlt)
    rw[Zl,hx,Zn,←(bcell aa).1 _ _ cu]at hc
    have c8:=Ze cu bi
    have b4:Or.beg (Md.cls T) l k=(decide (k=0)||decide (Md.cls T x=0)):=by unfold Or.beg;rw[List.getD_eq_getElem?_getD,hx];rfl
    have aw:=Or.runs_succ (Md.cls T) l k
    have b2:=df.out x wr aa
    obtain⟨q,hq⟩:∃q,Md.cls T x=q:=⟨_,rfl⟩
    rw[hq]at b2 b4
    obtain⟨rk,bc⟩:∃m,(Or.runs (Md.cls T) l k).length=m:=⟨_,rfl⟩
    have hlen:=Or.runs_len (Md.cls T) l k
    rw[bc]at hlen ⊢
    have bk:=dk.out.below aa
    have z0:=bk.cell 0 rfl
    have z1:=bk.cell 1 rfl
    have zl:=bk.lt
    have kI:(k:Int)<ln:=by omega
    have k0:(0:Int)≤k:=by omega
    have ak:Or.beg (Md.cls T) l k=true→rs[rk]?=some (k:Int)∧rk<rn∧(Or.runs (Md.cls T) l (k+1)).length=rk+1:=fun hb=>by
     rw[Zv hb]at aw
     have hp:=Or.runs_prefix (Md.cls T) l (show k+1≤ln from hlt)
     rw[aw,cv.out]at hp
     obtain⟨t,ht⟩:=hp
     have hg:rs[rk]?=some (k:Int):=by
      rw[←ht,ZN,ZF (by omega),bc]
      simp
     exact⟨hg,by rw[←a1.out];exact (List.getElem?_eq_some_iff.1 hg).1,by rw[aw,Zi,bc];rfl⟩
    have ba:Or.beg (Md.cls T) l k=false→(Or.runs (Md.cls T) l (k+1)).length=rk:=fun hb=>by
     rw[Zs (by rw[hb];simp)]at aw
     rw[aw,bc]
    have cb:=Za ak
    have dl:=Za ba
    have bx:=Za b4
    have b8:=Za b2
    have ai:=Za aa
    clear hx cy ak ba b4 b2 aa aw hq bc bk
    rcases hz:((k:Int) == 0) with _|_
    · have ax:¬k=0:=by rintro rfl;simp at hz
      rcases hqz:(q == 0) with _|_
      · have b7:(Or.runs (Md.cls T) l (k+1)).length=rk:=dl.out (by rw[bx.out,decide_eq_false ax,decide_eq_false (by simpa using hqz)];rfl)
        have a8:=Za b7
        clear b7 ax
        go_wp2_with (go_at_call 36;refine b8.out.mono ?_;rintro e w7 ⟨rfl,av⟩;have bq:=Za (ai.out.trans (av.mono bi));clear av)
        exact⟨⟨k+1,by omega,by first|rfl|go_num,by rw[a8.out],bq.out⟩,by simp[intOf];omega⟩
      · obtain⟨g1,g2,g3⟩:=cb.out (by rw[bx.out,decide_eq_true (show q=0 by simpa using hqz)];simp)
        obtain⟨gb,go',rfl,bh,bf⟩:=cg.out (by rw[Zf,a1.out];omega)
        have bl:=bf rk (by rw[Zf,a1.out];exact g2)
        rw[Zl,g1,Zn,←(bcell ai.out).1 _ _ bh]at bl
        have aq:=Ze bh bi
        have r0:(0:Int)≤rk:=by omega
        have r1:(rk:Int)<rn:=by omega
        have r2:¬((rk:Int)≥rn):=by omega
        have r3:¬rn≤rk:=by omega
        have a8:=Za g3
        clear g1 g3 bf ax
        go_wp2_with (go_at_call 36;refine b8.out.mono ?_;rintro e w7 ⟨rfl,av⟩;have c1:=((bcell av).1 _ _ aq).trans bl;have ct:=Ze aq av.size;have bq:=Za (ai.out.trans (av.mono bi));clear av)
        exact⟨⟨k+1,by omega,by first|rfl|go_num,by rw[a8.out];first|rfl|go_num|simp,bq.out⟩,by simp[intOf];omega⟩
    · have ax:k=0:=by
       have:(k:Int)=0:=by simpa using hz
       omega
      obtain⟨g1,g2,g3⟩:=cb.out (by rw[bx.out,Zo ax];simp)
      obtain⟨gb,go',rfl,bh,bf⟩:=cg.out (by rw[Zf,a1.out];omega)
      have bl:=bf rk (by rw[Zf,a1.out];exact g2)
      rw[Zl,g1,Zn,←(bcell ai.out).1 _ _ bh]at bl
      have aq:=Ze bh bi
      have r0:(0:Int)≤rk:=by omega
      have r1:(rk:Int)<rn:=by omega
      have r2:¬((rk:Int)≥rn):=by omega
      have r3:¬rn≤rk:=by omega
      have a8:=Za g3
      clear g1 g3 bf ax
      go_wp2_with fail
      exact⟨⟨k+1,by omega,by first|rfl|go_num,by rw[a8.out];first|rfl|go_num|simp,ai.out⟩,by simp[intOf];omega⟩
  · obtain rfl:k=ln:=by omega
    have kI:¬(k:Int)<k:=by omega
    rw[cv.out,a1.out]
    have dc:=Za (ch.out.trans (aa.mono ch.out.size))
    clear aa
    go_wp2_with fail
    go_ret
    exact⟨by simp,dc.out⟩
end Go.Proofs.YtbeakahjbkdeiaaGreatDoor
