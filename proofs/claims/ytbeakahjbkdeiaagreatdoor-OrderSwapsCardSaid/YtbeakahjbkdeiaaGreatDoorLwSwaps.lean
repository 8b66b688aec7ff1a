/- The law OrderSwaps, by walking its text. -/
import Derived.Test.YtbeakahjbkdeiaaGreatDoorAl1
import Derived.Test.YtbeakahjbkdeiaaGreatDoorTxAwake
import Derived.Test.YtbeakahjbkdeiaaGreatDoorOrRuns
import Derived.Test.YtbeakahjbkdeiaaGreatDoorTxSame
import Derived.Test.YtbeakahjbkdeiaaGreatDoorFiBits
import Derived.Test.YtbeakahjbkdeiaaGreatDoorStage
import Derived.BigRegion
import Derived.BigQuiet
set_option linter.unusedVariables false
set_option linter.unusedSimpArgs false
namespace Go.Proofs.YtbeakahjbkdeiaaGreatDoor
open Go.RowKit
set_option linter.unusedSimpArgs false
set_option linter.unusedVariables false
set_option maxRecDepth 100000 in
set_option maxHeartbeats 4000000 in
theorem Tx.orderSwaps_any (w:World) (A XA PA MA:Option Addr) (n c xn xc pn pc mn mc:Nat) (T0:List Rw.Row) (E0 P M:List Int) (hT:Tx.In A XA PA MA n c xn xc pn pc mn mc T0 E0 P M w) (QA:Option Addr) (qn qc:Nat) (qs:List Int) (hq:IsRow .i64 w QA qn qc qs) (br:∀x∈qs,-9223372036854775808≤x∧x≤9223372036854775807) (hL:Rw.Laid w) :
 Calls Tryz.prog 6 #[.agg #[.slice A n c,.slice XA xn xc,.slice PA pn pc,.slice MA mn mc],.slice QA qn qc] w fun e w'=>e=.returned (.bool true)∧Below w.heap.size w w':=by
 have ba:=Za (fun W (hW:Below w.heap.size w W)=>Tx.made_in A XA PA MA n c xn xc pn pc mn mc T0 E0 P M 30 W (by decide) (hT.below hW) (Rw.Laid.next hL hW))
 have ed:=Za (fun W (hW:Below w.heap.size w W)=>Tx.awake16 W (hL.next hW))
 obtain⟨wa,b2⟩:∃wa,w.alloc (.cells #[.slice A n c,.slice XA xn xc,.slice PA pn pc,.slice MA mn mc] 50)=wa:=⟨_,rfl⟩
 have b1:Below w.heap.size w wa:=by rw[←b2];exact (Zd _ _).alloc (Zb _) _
 have du:Rw.At wa w.heap.size 50 [.slice A n c,.slice XA xn xc,.slice PA pn pc,.slice MA mn mc]:=by rw[←b2];exact Rw.At.new w 50 [.slice A n c,.slice XA xn xc,.slice PA pn pc,.slice MA mn mc]
 have dl:=Za b2
 have aw:=Za b1
 have ec:=Za du
 obtain⟨ez,ej,e4⟩:=hq.len_le
 have et:=Za ((hq.sl qn (Zb _)).below b1 b1.size)
 have cr:Hid ((qs.take qn).length=qn):=Za (by rw[Zm];omega)
 clear b2 b1 du hT hL hq br ez ej e4
 go_enter Tryz.func6,Tryz.ntmps6
 go_upto_region 1 with (fail)
 rw[dl.out]
 go_wp2_with fail
 refine (ed.out wa aw.out).mono ?_
 rintro e w1 ⟨rfl,ah⟩
 have ak:=ec.out.below ah
 have b5:=Za (aw.out.trans (ah.mono aw.out.size))
 have x0:=ak.cell 0 rfl
 have x1:=ak.cell 1 rfl
 have x2:=ak.cell 2 rfl
 have x3:=ak.cell 3 rfl
 have xl:=ak.lt
 clear ak
 go_wp2_with fail
 refine (ba.out w1 b5.out).mono ?_
 rintro e w2 ⟨p,v2,T,E,S,l,Al,cl,rfl,ch,bo,hR,ae,cp,e2,bi,aj⟩
 obtain⟨pb,rfl,eg⟩:=ch.form
 obtain⟨A2,c2,XA2,xc2,rfl,b8⟩:=id bo
 obtain⟨n2,bx⟩:∃k,T.length=k:=⟨_,rfl⟩
 obtain⟨xn2,bf⟩:∃k,E.length=k:=⟨_,rfl⟩
 obtain⟨ln,b4⟩:∃k,l.length=k:=⟨_,rfl⟩
 unfold Md.tv at bo bi ⊢
 rw[bx,bf]at bo ⊢
 simp only[bx,bf]at bi
 rw[b4]at ae e2 bi ⊢
 obtain⟨w3,bm⟩:∃w3,w2.alloc (.cells #[.slice A2 n2 c2,.slice XA2 xn2 xc2] 31)=w3:=⟨_,rfl⟩
 have ag:Below w2.heap.size w2 w3:=by rw[←bm];exact (Zd _ _).alloc (Zb _) _
 have ap:Rw.At w3 w2.heap.size 31 [.slice A2 n2 c2,.slice XA2 xn2 xc2]:=by rw[←bm];exact Rw.At.new w2 31 [.slice A2 n2 c2,.slice XA2 xn2 xc2]
 have e7:=Za bm
 have fk:=Za (b5.out.trans ((aj.trans (ag.mono aj.size)).mono b5.out.size))
 have ep:=Za ap
 have bl:=Za (ah.trans ((aj.trans (ag.mono aj.size)).mono ah.size))
 have dn:=Za ah.size
 have gg:=Za (ch.below ag)
 have ee:=Za (bo.below ag)
 have cb:=Za (own_below ae ag (Zb _))
 have HR:=Za hR
 have fy:=Za cp
 have cd:=Za b4
 have fu:=Za bx
 have df:Hid (∀w'',w3.grownBy w'' (Value.slice Al ln cl).ownBlock→Ud.Is w'' (.pointer (some ⟨pb,0,none⟩)) T S∧Md.Doc w'' (.agg #[.slice A2 n2 c2,.slice XA2 xn2 xc2]) T E):=Za fun w'' hg=>bi w'' (Rw.grown_trans (by rw[←bm];exact Yi _ _ _) hg)
 have dk:=Za (fun x (hx:x∈l)=>Tx.isC_i32 (cp x hx))
 have z0:=ap.cell 0 rfl
 have z1:=ap.cell 1 rfl
 have zl:=ap.lt
 clear x0 x1 x2 x3 xl bi bo b8 ch hR ae cp b4 bx bf bm ag ap aj ah ba ed dl ec
 go_upto_region 4 with (fail)
 rw[e7.out]
 have fe:=HR.out.ok
 have dv:=Sl.of_own cb.out
 obtain⟨f,hf⟩:∃f,Md.cls T=f:=⟨_,rfl⟩
 obtain⟨wl,bu⟩:∃wl,Or.of f l=wl:=⟨_,rfl⟩
 have cn:wl.length=ln:=by rw[←bu,Or.of_len];exact cd.out
 have bh:Calls Tryz.prog 32 #[.agg #[.slice A2 n2 c2,.slice XA2 xn2 xc2],.slice Al ln cl] w3 fun e w'=>∃A' c',e=.returned (.slice A' ln c')∧w'.ownsRow w3.heap.size 3 1 (.slice A' ln c') ln (wl.map (Value.int .i64))∧Below w3.heap.size w3 w':=by
  refine (Nf.rof_any _ T E Al ln cl l w3 (by have:=HR.out.tl;omega) ee.out cd.out (by omega) dv).mono ?_
  rintro e w' ⟨A',c',rfl,ho,hb⟩
  rw[hf,bu,cn]at ho ⊢
  exact⟨A',c',rfl,ho,hb⟩
 have cz:=Za bh
 have b9:=Za cn
 have b3:=Za bu
 have dt:=Za hf
 clear bh cn bu fe dv
 go_wp2_with fail
 refine cz.out.mono ?_
 rintro e w6 ⟨A6,c6,rfl,dr,bp⟩
 have e6:=Za (own_below cb.out bp (Zb _))
 have eu:=Za (Rw.grown_bel (row:=(Value.slice Al ln cl).ownBlock) bp)
 have er:=Za dr
 have ey:=Za (ep.out.below bp)
 have ck:=Za (bl.out.trans (bp.mono bl.out.size))
 have cw:=Za (fun g (hg:(Value.slice Al ln cl).ownBlock=some g)=>own_at cb.out hg)
 have di:Hid (∀d W,w3.grownBy W (Value.slice Al ln cl).ownBlock→Calls Tryz.prog 36 #[.agg #[.slice A2 n2 c2,.slice XA2 xn2 xc2],.int .i64 d] W fun e w'=>e=.returned (.int .i64 (f d))∧Below W.heap.size W w'):=Za fun d W hW=>by
  have:=Md.rcls_any _ T E d W (by have:=HR.out.tl;omega) (df.out W hW).2
  rw[dt.out]at this
  exact this
 clear dr bp z0 z1 zl cz
 go_wp2_with fail
 go_loopw [10,11,12,13,14] (fun i _ _ _ _ wr=>∃(k:Nat) (l':List Int),k≤qn∧k≤60∧i=.int .i64 k∧wr.ownsRow w1.heap.size 3 1 (.slice Al ln cl) ln (l'.map (Value.int .i64))∧l'.length=ln∧Or.of f l'=wl∧wr.ownsRow w3.heap.size 3 1 (.slice A6 ln c6) ln (wl.map (Value.int .i64))∧Rw.At wr w2.heap.size 31 [.slice A2 n2 c2,.slice XA2 xn2 xc2]∧w3.grownBy wr (Value.slice Al ln cl).ownBlock∧Below wa.heap.size wa wr) (fun i _ _ _ _ _=>60-(intOf i).toNat)
 case atStart=>exact⟨0,l,Zz _,Zz _,rfl,e6.out,cd.out,b3.out,er.out,ey.out,eu.out,ck.out⟩
 case round =>
  obtain⟨k,l',fo,fw,rfl,ae,bs,ct,az,dm,dx,cm⟩:=hrel
  have cv:=Za ae
  have bc:=Za bs
  have aq:=Za ct
  have a8:=Za az
  have dw:=Za dm
  have cy:=Za dx
  have a7:=Za cm
  have eb:∀x∈l',x∈l:=fun x hx=>by
   have h1:x∈wl:=by rw[←ct];exact (Or.of_mem f l' x).2 hx
   rw[←b3.out]at h1
   exact (Or.of_mem f l x).1 h1
  have e9:=Za eb
  clear ct az eb
  by_cases hgo:k<qn∧k<60∧1<ln
  · obtain⟨hq,fh,fc⟩:=hgo
    obtain⟨z,hz⟩:∃z,(qs.take qn)[k]?=some z:=⟨_,Zc (by rw[cr.out];exact hq)⟩
    obtain⟨qb,qo,rfl,br,dh⟩:=et.out (by rw[Zf,cr.out];omega)
    have hc:=dh k (by rw[Zf,cr.out];exact hq)
    rw[Zl,hz,Zn,←(bcell cm).1 _ _ br]at hc
    have e3:=Ze br cm.size
    obtain⟨m,hm⟩:∃m,ln=m+1:=⟨ln-1,by omega⟩
    have ew:0<m:=by omega
    obtain⟨j,hj,a6⟩:=Tx.pick z ew (show m≤1000000 by omega)
    have em:(m:Int)=(ln:Int)-1:=by omega
    rw[em]at a6
    obtain⟨gb,go',rfl,bg,cc⟩:=(Sl.of_own ae) (by rw[Zf,bs];omega)
    obtain⟨rfl,fm,fj,fq⟩:=own_zero ae
    obtain⟨x,hx⟩:∃x,l'[j]?=some x:=⟨_,Zc (by omega)⟩
    obtain⟨y,hy⟩:∃y,l'[j+1]?=some y:=⟨_,Zc (by omega)⟩
    obtain⟨PP,QQ,dy,ea⟩:∃PP QQ,l'=PP++x::y::QQ∧PP.length=j:=by
     obtain⟨h1,h2⟩:=List.getElem?_eq_some_iff.1 hx
     obtain⟨h3,h4⟩:=List.getElem?_eq_some_iff.1 hy
     refine⟨l'.take j,l'.drop (j+1+1),?_,by rw[Zm];omega⟩
     rw[←h2,←h4,←ZS h3,←ZS h1,ZH]
    have bt:=cc j (by rw[Zf];omega)
    have bz:=cc (j+1) (by rw[Zf];omega)
    rw[Zl,hx,Zn,Z2]at bt
    rw[Zl,hy,Zn,Z2]at bz
    have cj:=Za dy
    have e5:=Za ea
    have kQ:(k:Int)<qn:=by omega
    have k6:(k:Int)<60:=by omega
    have k0:(0:Int)≤k:=by omega
    have l1:(ln:Int) > 1:=by omega
    have fx:1<ln:=fc
    have jI:(j:Int)<ln:=by omega
    have j0:(0:Int)≤j:=by omega
    have gf:(j:Int)+1<ln:=by omega
    have m0:((ln:Int)-1)≠0:=by omega
    have HM:=Za hm
    clear hx hy cc dh hz dy ea ae hm bs em
    go_upto_region 12 with (fail)
    clear a6 m0
    have bw:=Za (show Below wr.heap.size wr wr.drew from (Zd _ _).drew)
    have b7:Hid (∀W,Below wr.heap.size wr W→w3.grownBy W (Value.slice (some ⟨gb,0,none⟩) ln cl).ownBlock):=Za fun W hW=>Rw.grown_trans cy.out (Rw.grown_bel hW)
    have fg:Hid (∀W,Below wr.heap.size wr W→(∀x:Stg.Later Stg.Ex W,x.val.cell? ⟨w2.heap.size,0,none⟩=some (.slice A2 n2 c2))∧(∀x:Stg.Later Stg.Ex W,x.val.cell? ⟨w2.heap.size,1,none⟩=some (.slice XA2 xn2 xc2))∧(∀u:Stg.Later Stg.Ex W,u.val.cell? ⟨gb,j,none⟩=some (.int .i64 x))∧(∀u:Stg.Later Stg.Ex W,u.val.cell? ⟨gb,j+1,none⟩=some (.int .i64 y))):=Za fun W hW =>
     have hT:=dw.out.below hW
     ⟨Stg.cells (hT.cell 0 rfl) hT.lt,Stg.cells (hT.cell 1 rfl) hT.lt,Stg.cells (((bcell hW).1 _ _ bg).trans bt) (Ze bg hW.size),Stg.cells (((bcell hW).1 _ _ bg).trans bz) (Ze bg hW.size)⟩
    have c1:=Za (And.intro bt bz)
    clear bt bz
    refine Stg.wp_region Stg.Ex Stg.Ex.rel (by kernel_rfl) (by kernel_rfl) (by kernel_rfl) ?_
    obtain⟨f0,f1,e0,e1⟩:=fg.out wr.drew bw.out
    refine Stg.read 0 (by kernel_rfl) (by kernel_rfl) (by kernel_rfl) wr.drew rfl (by kernel_rfl) ?_;intro K hK;go_big_quiet_op;go_big_quiet_on
    iterate 3 (refine Stg.readW (by kernel_rfl) (by kernel_rfl) (by kernel_rfl) ?_;intro K hK;go_big_quiet_op;go_big_quiet_on)
    refine Stg.read 0 (by kernel_rfl) (by kernel_rfl) (by kernel_rfl) wr.drew rfl (by kernel_rfl) ?_;intro K hK;go_big_quiet_op;go_big_quiet_on
    refine Stg.call 36 _ _ rfl (C.enter Tryz.func36 (by kernel_rfl) rfl) [.agg #[.slice A2 n2 c2,.slice XA2 xn2 xc2],.int .i64 x] rfl wr.drew _ (di.out x wr.drew (b7.out wr.drew bw.out)) (by kernel_rfl) rfl (by kernel_rfl) ?_
    rintro e q1 ⟨rfl,hb⟩;refine⟨_,rfl,hb,?_⟩;have ai:=Za (bw.out.trans (hb.mono bw.out.size));clear hb;intro A' bj;simp only[Act.put,Zq,ZC,ZA]at bj;subst bj
    refine Stg.read 1 (by kernel_rfl) (by kernel_rfl) (by kernel_rfl) wr.drew rfl (by kernel_rfl) ?_;intro K hK;go_big_quiet_op;go_big_quiet_on
    iterate 4 (refine Stg.readW (by kernel_rfl) (by kernel_rfl) (by kernel_rfl) ?_;intro K hK;go_big_quiet_op;go_big_quiet_on)
    refine Stg.read 1 (by kernel_rfl) (by kernel_rfl) (by kernel_rfl) wr.drew rfl (by kernel_rfl) ?_;intro K hK;go_big_quiet_op;go_big_quiet_on
    refine Stg.call 36 _ _ rfl (C.enter Tryz.func36 (by kernel_rfl) rfl) [.agg #[.slice A2 n2 c2,.slice XA2 xn2 xc2],.int .i64 y] rfl q1 _ (di.out y q1 (b7.out q1 ai.out)) (by kernel_rfl) rfl (by kernel_rfl) ?_
    rintro e q2 ⟨rfl,hb⟩;refine⟨_,rfl,hb,?_⟩;have ao:=Za (ai.out.trans (hb.mono ai.out.size));clear hb;intro A' bj;simp only[Act.put,Zq,ZC,ZA]at bj;subst bj
    iterate 2 (refine Stg.readW (by kernel_rfl) (by kernel_rfl) (by kernel_rfl) ?_;intro K hK;go_big_quiet_op;go_big_quiet_on)
    clear f0 f1 e0 e1
    refine Stg.nil q2 rfl ?_
    have ay:=Za ao.out
    obtain⟨a,ha⟩:∃a,f x=a:=⟨_,rfl⟩
    obtain⟨b,hb⟩:∃b,f y=b:=⟨_,rfl⟩
    rw[ha,hb]
    have dz:=Za ha
    have dp:=Za hb
    clear ha hb
    have av:=Za (a7.out.trans (ay.out.mono a7.out.size))
    have aa:=Za (own_below cv.out ay.out (Zb _))
    have af:=Za (own_below a8.out ay.out (Zb _))
    have au:=Za (dw.out.below ay.out)
    have ax:=Za (b7.out q2 ay.out)
    have fp:=Ze bg ay.out.size
    by_cases hsw:0<a∧0<b∧a≠b
    · obtain⟨h1,h2,h3⟩:=hsw
      have h4:(a != b)=true:=by simpa using h3
      have en:=((bcell ay.out).1 _ j bg).trans (c1.out.1)
      have ek:=((bcell ay.out).1 _ (j+1) bg).trans (c1.out.2)
      have fz:q2.frozen? ⟨gb,j,none⟩=false:=own_frozen aa.out j
      have ft:q2.frozen? ⟨gb,j+1,none⟩=false:=own_frozen aa.out (j+1)
      have H3:=Za h3
      clear h3
      go_upto_region 14 with (fail)
      go_region
      go_wp2_with fail
      have dc:(PP++y::x::QQ).length=ln:=by have:=bc.out;rw[cj.out]at this;simpa using this
      obtain⟨hN,ei,eh,eo⟩:=Nf.At.of_own (l:=l') bc.out aa.out
      rw[cj.out]at hN
      have hS:=hN.swap
      rw[e5.out]at hS
      have hO:=hS.own dc ei eh eo
      have cu:q2.grownBy ((q2.setCell ⟨gb,j,none⟩ (.int .i64 y)).setCell ⟨gb,j+1,none⟩ (.int .i64 x)).drew (some gb):=Rw.grown_trans (Rw.grown_trans (Rw.grown_set _ _ _) (Rw.grown_set _ _ _)) (Rw.grown_bel (Zd _ _).drew)
      have cq:=cw.out gb rfl
      refine⟨⟨k+1,PP++y::x::QQ,by omega,by omega,by go_num,hO,dc,?_,Rw.own_grown af.out cq.2 cu,au.out.grown cu (fun e=>?_),Rw.grown_trans ax.out cu,?_⟩,by simp[intOf];omega⟩
      · rw[←aq.out,cj.out]
        exact (Or.Q.swap (by rw[dp.out];exact h2) (by rw[dz.out];exact h1) (by rw[dz.out,dp.out];exact fun e=>H3.out e.symm) PP QQ).of
      · obtain rfl:=Z4 e
        exact Rw.own_not aa.out (by decide) _ rfl _ _ au.out
      · exact ((av.out.setCell (p:=⟨gb,j,none⟩) (Zh dn.out cq.1) _).setCell (p:=⟨gb,j+1,none⟩) (Zh dn.out cq.1) _).drew
    · have ar:¬0<a∨(0<a∧¬0<b)∨(0<a∧0<b∧(a != b)=false):=by
       by_cases g1:0<a
       · by_cases g2:0<b
         · refine .inr (.inr ⟨g1,g2,?_⟩)
           have:a=b:=Classical.byContradiction fun h=>hsw ⟨g1,g2,h⟩
           simp[this]
         · exact .inr (.inl ⟨g1,g2⟩)
       · exact .inl g1
      clear hsw
      rcases ar with g1|⟨g1,g2⟩|⟨g1,g2,g3⟩
      · go_wp2_with fail
        exact⟨⟨k+1,l',by omega,by omega,by go_num,aa.out,bc.out,aq.out,af.out,au.out,ax.out,av.out⟩,by simp[intOf];omega⟩
      · go_wp2_with fail
        exact⟨⟨k+1,l',by omega,by omega,by go_num,aa.out,bc.out,aq.out,af.out,au.out,ax.out,av.out⟩,by simp[intOf];omega⟩
      · go_wp2_with fail
        exact⟨⟨k+1,l',by omega,by omega,by go_num,aa.out,bc.out,aq.out,af.out,au.out,ax.out,av.out⟩,by simp[intOf];omega⟩
  · have ar:¬k<qn∨(k<qn∧¬k<60)∨(k<qn∧k<60∧¬1<ln):=by omega
    clear hgo
    have ef:=Za (Sl.of_own ae)
    have e8:=Za (Sl.of_own a8.out)
    have b6:=Za (fun x (hx:x∈l')=>dk.out x (e9.out x hx))
    have cf:Hid (∀W,Below wr.heap.size wr W→Calls Tryz.prog 31 #[.slice Al ln cl] W fun e w'=>∃A' c',e=.returned (.slice A' ln c')∧Sl w' w'.heap.size A' (l'.map (Value.int .i32))∧Below W.heap.size W w'):=Za fun W hW=>by
     refine (Tx.runes_any Al ln cl l' W bc.out (by omega) b6.out (ef.out.below hW hW.size)).mono ?_
     rintro e w' ⟨A',c',rfl,ho,hb⟩
     rw[bc.out]at ho ⊢
     exact⟨A',c',rfl,Sl.of_own ho,hb⟩
    have cx:Hid (∀A' c' W,Below wr.heap.size wr W→Sl W W.heap.size A' (l'.map (Value.int .i32))→Calls Tryz.prog 33 #[.pointer (some ⟨pb,0,none⟩),.slice A' ln c'] W fun e w'=>∃A' c',e=.returned (.slice A' ln c')∧Sl w' w'.heap.size A' (wl.map (Value.int .i32))∧Below W.heap.size W w'):=Za fun A' c' W hW hA=>by
     refine (Or.ofD_any _ T S A' ln c' l' W HR.out.ok (df.out W (Rw.grown_trans cy.out (Rw.grown_bel hW))).1 bc.out (by omega) hA).mono ?_
     rintro e w' ⟨A',c',rfl,ho,hb⟩
     rw[dt.out,aq.out,b9.out]at ho ⊢
     exact⟨A',c',rfl,Sl.of_own ho,hb⟩
    have cg:Hid (∀A' ca W,Below wr.heap.size wr W→Sl W W.heap.size A' (wl.map (Value.int .i32))→Calls Tryz.prog 34 #[.slice A' ln ca,.slice A6 ln c6] W fun e w'=>e=.returned (.bool true)∧Below W.heap.size W w'):=Za fun A' ca W hW hA=>by
     have:=Tx.same_any A' A6 ln ca ln c6 wl wl W b9.out b9.out (by omega) (by omega) (fun x hx=>dk.out x (by rw[←b3.out]at hx;exact (Or.of_mem f l x).1 hx)) hA (e8.out.below hW hW.size)
     rw[Zo rfl]at this
     exact this
    clear ae bs dm dx
    rcases ar with g1|⟨g1,g2⟩|⟨g1,g2,g3⟩
    · go_wp2_with fail
      refine (cf.out wr (Zd _ _)).mono ?_
      rintro e q1 ⟨A7,c7,rfl,a1,ah⟩
      have ai:=Za ah
      have bn:=Za a1
      clear a1 ah
      go_wp2_with fail
      refine (cx.out A7 c7 q1 ai.out bn.out).mono ?_
      rintro e q2 ⟨A8,c8,rfl,bb,aj⟩
      have ao:=Za (ai.out.trans (aj.mono ai.out.size))
      have bk:=Za bb
      clear bb aj
      go_wp2_with fail
      refine (cg.out A8 c8 q2 ao.out bk.out).mono ?_
      rintro e q3 ⟨rfl,ag⟩
      have bq:=Za (aw.out.trans ((a7.out.trans ((ao.out.trans (ag.mono ao.out.size)).mono a7.out.size)).mono aw.out.size))
      clear ag
      go_wp2_with fail
      go_ret
      exact⟨rfl,bq.out⟩
    · go_wp2_with fail
      refine (cf.out wr (Zd _ _)).mono ?_
      rintro e q1 ⟨A7,c7,rfl,a1,ah⟩
      have ai:=Za ah
      have bn:=Za a1
      clear a1 ah
      go_wp2_with fail
      refine (cx.out A7 c7 q1 ai.out bn.out).mono ?_
      rintro e q2 ⟨A8,c8,rfl,bb,aj⟩
      have ao:=Za (ai.out.trans (aj.mono ai.out.size))
      have bk:=Za bb
      clear bb aj
      go_wp2_with fail
      refine (cg.out A8 c8 q2 ao.out bk.out).mono ?_
      rintro e q3 ⟨rfl,ag⟩
      have bq:=Za (aw.out.trans ((a7.out.trans ((ao.out.trans (ag.mono ao.out.size)).mono a7.out.size)).mono aw.out.size))
      clear ag
      go_wp2_with fail
      go_ret
      exact⟨rfl,bq.out⟩
    · go_wp2_with fail
      refine (cf.out wr (Zd _ _)).mono ?_
      rintro e q1 ⟨A7,c7,rfl,a1,ah⟩
      have ai:=Za ah
      have bn:=Za a1
      clear a1 ah
      go_wp2_with fail
      refine (cx.out A7 c7 q1 ai.out bn.out).mono ?_
      rintro e q2 ⟨A8,c8,rfl,bb,aj⟩
      have ao:=Za (ai.out.trans (aj.mono ai.out.size))
      have bk:=Za bb
      clear bb aj
      go_wp2_with fail
      refine (cg.out A8 c8 q2 ao.out bk.out).mono ?_
      rintro e q3 ⟨rfl,ag⟩
      have bq:=Za (aw.out.trans ((a7.out.trans ((ao.out.trans (ag.mono ao.out.size)).mono a7.out.size)).mono aw.out.size))
      clear ag
      go_wp2_with fail
      go_ret
      exact⟨rfl,bq.out⟩
end Go.Proofs.YtbeakahjbkdeiaaGreatDoor
