/- The layer rows: a reader's line, by walking its text. -/
import Derived.Test.YtbeakahjbkdeiaaGreatDoorAl1
import Derived.Test.YtbeakahjbkdeiaaGreatDoorMap
import Derived.Test.YtbeakahjbkdeiaaGreatDoorFiRef2
import Derived.Test.YtbeakahjbkdeiaaGreatDoorFaCh
import Derived.BigRegion
import Derived.Deep.RegionWith
import Derived.Deep.RegionLaw
import Derived.Deep.RegionHeld3
import Derived.Test.YtbeakahjbkdeiaaGreatDoorRwLines
import Derived.Test.YtbeakahjbkdeiaaGreatDoorRwPlain
import Derived.Test.YtbeakahjbkdeiaaGreatDoorStage
import Derived.Test.YtbeakahjbkdeiaaGreatDoorPgRaw
import Derived.Great.BuildSlice
import Derived.Deep.DeepCutAuto
set_option linter.unusedVariables false
set_option linter.unusedSimpArgs false
namespace Go.Proofs.YtbeakahjbkdeiaaGreatDoor
open Go.RowKit
set_option linter.unusedSimpArgs false
set_option linter.unusedVariables false
def Rw.Laid (w:World):Prop:=Fi.Laid w∧Fi.LaidN w
theorem Rw.Laid.next {w w':World} (h:Rw.Laid w) (hb:Below w.heap.size w w'):Rw.Laid w':=⟨h.1.below hb,h.2.next hb⟩
theorem Rw.infoRow:(Tryz.prog.info? 103).map (fun i=>(i.zero,i.size,i.bytes))=some (some (.agg #[.int .i32 0,.int .i64 0,.slice none 0 0]),3,40):=by kernel_rfl
def Rw.Rd (w:World) (b:Nat) (st:Rw.St):Prop :=
 ∃v ads,Rw.At w b 91 [v,.int .i32 st.2.1,.string ⟨st.2.2.toArray⟩]∧w.ownsRow (b+1) 103 3 v st.1.length (Rw.fl st.1 ads)∧ads.length=st.1.length∧Rw.Maps w st.1 ads
def Rw.RetLine (b:Nat) (st:Rw.St) (w:World) (e:Ending) (w':World):Prop:=e=.returned (.string ⟨#[]⟩)∧Rw.Rd w' b st∧Below b w w'
theorem Rw.step_some {st st':Rw.St} {l:List UInt8} (h:Rw.step st l=some st'):∃r o,Rw.row (Fi.spl 59 [] l)=some r∧st.2.1<r.1∧Rw.ranged st.2.2 ((Fi.spl 59 [] l).getD 1 []) (Rw.quiet r)=some o∧(C.isC r.1=true∨Rw.quiet r=true) ∧
 st'=(if Rw.quiet r then st.1 else st.1++[r],r.1,o):=by
 unfold Rw.step at h
 rcases hr:Rw.row (Fi.spl 59 [] l) with _|r
 · rw[hr]at h;cases h
 rw[hr,Zt]at h
 split at h
 · rename_i h1
   rcases ho:Rw.ranged st.2.2 ((Fi.spl 59 [] l).getD 1 []) (Rw.quiet r) with _|o
   · rw[ho]at h;cases h
   rw[ho,Zt]at h
   split at h
   · rename_i h2
     simp only[Zg]at h
     exact⟨r,o,rfl,h1,ho,h2,h.symm⟩
   · cases h
 · cases h
set_option maxRecDepth 100000 in
set_option maxHeartbeats 4000000 in
theorem Rw.line_any (b:Nat) (st st':Rw.St) (l:ByteArray) (w0 w:World) (hL:Rw.Laid w0) (h0:w0.heap.size≤b) (ei:Below w0.heap.size w0 w) (hI:Rw.Rd w b st) (hl:l.size≤1000) (hn:st.1.length≤100000)
 (du:Rw.step st l.data.toList=some st'):Calls Tryz.prog 66 #[.pointer (some ⟨b,0,none⟩),.string l] w (Rw.RetLine b st' w):=by
 obtain⟨r,o,a7,dt,bw,hq,rfl⟩:=Rw.step_some du
 obtain⟨out,code,was⟩:=st
 obtain⟨v,ads,br,bo,has,az⟩:=hI
 obtain⟨c,k,m⟩:=r
 simp only at dt bw hq br bo has az hn ⊢
 have dw:=hL.next ei
 have hS:=Fi.split_any l (by omega) w dw.1
 obtain⟨f0,f1,f3,f5,dr,i0,i1,i3,i5,hne,di,dc,ef⟩:=Rw.row_some a7
 have ak:∀x∈Fi.spl 59 [] l.data.toList,x.length≤1000:=fun x hx=>by
  have:=Fi.spl_sizes 59 l.data.toList [] x hx
  simp at this
  omega
 have ew:f1.length≤1000:=ak f1 (Zk i1)
 have dn:(Fi.spl 59 [] l.data.toList).getD 1 []=f1:=by rw[List.getD_eq_getElem?_getD,i1];rfl
 rw[dn]at bw
 obtain⟨F,hF⟩:∃F,Fi.spl 59 [] l.data.toList=F:=⟨_,rfl⟩
 rw[hF]at a7 dr i1 ak hS
 obtain⟨j0,hj0,eg,et,ep⟩:=Yf Rw.infoRow
 obtain⟨nm,ck⟩:∃nm:ByteArray,⟨f1.toArray⟩=nm:=⟨_,rfl⟩
 have c8:nm.size≤1000000:=by rw[←ck];show f1.toArray.size≤_;simp;omega
 have cf:nm.data.toList=f1:=by rw[←ck]
 obtain⟨wb,cv⟩:∃wb:ByteArray,⟨was.toArray⟩=wb:=⟨_,rfl⟩
 have cb:wb.data.toList=was:=by rw[←cv]
 rw[←cf,←cb]at bw
 rw[cv]at br
 have ey:decide (c≤code)=false:=Zu (by omega)
 have er:=Rw.quiet_any c k
 obtain⟨bc,c1⟩:∃x,C.isC c=x:=⟨_,rfl⟩
 obtain⟨bq,cq⟩:∃x,Rw.quiet (c,k,m)=x:=⟨_,rfl⟩
 have cd:(decide (k=0)&&decide (m.length=0))=bq:=cq
 rw[c1,cq]at hq
 rw[cq]at bw ⊢
 obtain⟨out',ap⟩:∃x,(if bq=true then out else out++[(c,k,m)])=x:=⟨_,rfl⟩
 rw[ap]
 have HO:=Za ap
 have dx:=Za cd
 have hU:=C.utfis_any c
 rw[c1]at hU
 have HQ:=Za hq
 clear c1 cq cd hq ap
 have cw:=Za a7
 have eh:=Za bw
 have b3:=Za ak
 clear du di dc ef i0 i3 i5 a7 bw ak hne dn hF cf cb cv dt
 go_enter Tryz.func66,Tryz.ntmps66
 go_wp2_with fail
 refine hS.mono ?_
 rintro e w1 ⟨A,n,cp,rfl,eu,hA,cx⟩
 obtain rfl:n=15:=by omega
 have hR:=Rw.row_any A 15 cp w1.heap.size F (c,k,m) w1 cw.out dr (Zb _) hA (fun x hx=>by have:=b3.out x hx;omega) (dw.next cx).2
 obtain⟨ab,ao,rfl,bm,dy⟩:=hA (by rw[Zf];omega)
 have cz:=dy 1 (by rw[Zf];omega)
 rw[Zl,i1,Zn,ck]at cz
 clear dy hS i1 eu ck
 have b8:=Za cx
 clear cx
 go_wp2_with fail
 refine hR.mono ?_
 rintro e w2 ⟨Am,cm,rfl,dk,cn⟩
 clear hR
 simp only at dk
 have b1:=((bcell cn).1 _ _ bm).trans cz
 have bi:ab<w2.heap.size:=Ze bm cn.size
 have au:Below w.heap.size w w2:=b8.out.trans (cn.mono b8.out.size)
 have bs:=br.below au
 have bg:=own_below bo au (Zb _)
 have a6:=az.below au
 obtain⟨d1,d2,d3,d4,d5,d6⟩:=bs.three
 have eb:b<w2.heap.size:=bs.lt
 have eo:b<w.heap.size:=br.lt
 clear cz bm cn br bo az
 have dm:=Za au
 have cg:=Za bg
 have b2:=Za a6
 have ec:=Za dk
 clear au bg a6 dk
 go_wp2_with fail
 go_quiet (fail)
 go_wp2_with fail
 obtain⟨w3,cj⟩:∃w3,(w2.alloc (.cells #[.int .i32 c,.int .i64 k,.slice Am m.length cm] 103)).drewN nq=w3:=⟨_,rfl⟩
 have bl:Below w2.heap.size w2 w3:=by rw[←cj];exact ((Zd w2.heap.size w2).alloc (Zb _) _).trans ((Fi.drewN_below _ _).mono (by simp))
 have cy:Rw.At w3 w2.heap.size 103 [.int .i32 c,.int .i64 k,.slice Am m.length cm]:=by rw[←cj];exact (Rw.At.new w2 103 [.int .i32 c,.int .i64 k,.slice Am m.length cm]).below (Fi.drewN_below _ _)
 have ct:=bs.below bl
 obtain⟨m1,m2,m3,m4,m5,m6⟩:=cy.three
 have ej:=((bcell bl).1 _ _ bi).trans b1
 have ed:w2.heap.size<w3.heap.size:=cy.lt
 have hG:=fun W br=>Rw.ranged_any b v code wb nm c k Am m.length cm o W (Rw.own_one cg.out) br c8 (by rw[dx.out];exact eh.out)
 have av:Rw.At w3.drew b 91 [v,.int .i32 code,.string wb]:=ct
 rw[cj]
 clear cj d1 d2 d3 d4 d5 d6 b1 bi
 go_region_with (go_at_call 104;refine (hG _ av).mono ?_;rintro e w4 ⟨rfl,ai,bu⟩)
 all_goals
  have cr:Rw.At w4 w2.heap.size 103 [.int .i32 c,.int .i64 k,.slice Am m.length cm]:=(show Rw.At w3.drew _ _ _ from cy).grown bu (by simp;omega)
  have bb:Below w.heap.size w w3.drew:=dm.out.trans ((show Below w2.heap.size w2 w3.drew from bl.drew).mono dm.out.size)
  have bh:=Rw.own_grown (own_below cg.out (show Below w2.heap.size w2 w3.drew from bl.drew) (Zb _)) (ZR b) bu
  have ay:=(b2.out.below (show Below w2.heap.size w2 w3.drew from bl.drew)).grown bu (by intro q hq;cases hq;exact av.not (by decide))
  have ch:=(ec.out.below (show Below w2.heap.size w2 w3.drew from bl.drew)).grown bu (by intro q hq;cases hq;exact av.not (by decide))
  have cc:Below b w w4:=(bb.mono (Z3 eo)).trans (Rw.below_grown bu (by show b≤w3.drew.heap.size;have:=bl.size;simp;omega) (by intro q hq;cases hq;exact Zb _))
  have ea:w2.heap.size<w4.heap.size:=cr.lt
  have b7:=er Am m.length cm
  rw[dx.out]at b7
  obtain⟨p1,p2,p3,p4,p5,p6⟩:=ai.three
  obtain⟨r1,r2,r3,r4,r5,r6⟩:=cr.three
  have ax:=Za bh
  have aj:=Za ay
  have df:=Za ch
  have bn:=Za cc
  clear bh ay ch cc bb bu m1 m2 m3 m4 m5 m6 ej
  rcases bq with _|_
  · obtain rfl:bc=true:=by
     rcases HQ.out with h|h
     · exact h
     · cases h
    go_wp2_with (first|(go_at_call 105;refine (hU _).mono ?_;rintro e w5 ⟨rfl,rfl⟩)|fail)
    refine (b7 _).mono ?_
    rintro e w5 ⟨rfl,ag⟩
    have af:=(ai.set 1 (.int .i32 c)).below ag
    simp only[ZC,ZA]at af
    have dl:=(cr.other (show w2.heap.size≠b by omega) (.int .i32 c) (i:=1)).below ag
    have ae:=own_below (Rw.own_grown ax.out (ZR b) (Rw.grown_set b 1 (.int .i32 c))) ag (Zb _)
    have aa:=(aj.out.grown (Rw.grown_set b 1 (.int .i32 c)) (by intro q hq;cases hq;exact ai.not (by decide))).below ag
    have b6:=(df.out.grown (Rw.grown_set b 1 (.int .i32 c)) (by intro q hq;cases hq;exact ai.not (by decide))).below ag
    have ez:w4.heap.size≤w5.heap.size:=Zh (KeepsWalks.setCell w4 ⟨b,1,none⟩ (.int .i32 c)).size ag.size
    have ah:Below b w w5:=(bn.out.setCell (p:=⟨b,1,none⟩) (Zb _) (.int .i32 c)).trans (ag.mono (by have:=(KeepsWalks.setCell w4 ⟨b,1,none⟩ (.int .i32 c)).size;omega))
    obtain⟨s1,s2,s3,s4,s5,s6⟩:=af.three
    obtain⟨t1,t2,t3,t4,t5,t6⟩:=dl.three
    have dz:w2.heap.size<w5.heap.size:=dl.lt
    have dh:b<w5.heap.size:=af.lt
    have bf:=(ae.alloc (.cells #[.int .i32 c,.int .i64 k,.slice Am m.length cm] 103)).drew
    have c7:=Za (Sl.lit (w:=(w5.alloc (.cells #[.int .i32 c,.int .i64 k,.slice Am m.length cm] 103)).drew) (A:=some ⟨w5.heap.size,0,none⟩) (xs:=[.int .i32 c,.int .i64 k,.slice Am m.length cm]) rfl 103 (0,0) (ZT w5 _))
    have hne:=Rw.own_ne ae b (ZR b)
    have en:b+1≤(w5.alloc (.cells #[.int .i32 c,.int .i64 k,.slice Am m.length cm] 103)).drew.heap.size:=by simp;omega
    have b9:Rw.At (w5.alloc (.cells #[.int .i32 c,.int .i64 k,.slice Am m.length cm] 103)).drew b 91 [v,.int .i32 c,.string ⟨o.toArray⟩]:=af.alloc _
    have aw:=Za bf
    have bt:=Za aa
    have cu:=Za b6
    have a1:=Za ah
    have ee:=Za hne
    clear ae bf aa b6 ah ag p1 p2 p3 p4 p5 p6 r1 r2 r3 r4 r5 r6 hne
    go_wp2_with fail
    go_region_law ((refine step_appendSl _ (by rfl) _ _ _ (by rfl) (b+1) 103 j0 _ 3 40 Tryz.underlying33 hj0 eg et ep rfl (by omega) _ out.length _ (by rfl) aw.out _ (some ⟨w5.heap.size,0,none⟩) 1 1 [.int .i32 c,.int .i64 k,.slice Am m.length cm] (by rfl) (by rfl) c7.out (by simp[Value.oneCell']) (by simp only[maxLen];omega) (by omega) en ?_;intro v1 w6 bj ek ar;have ba:=b9.grown ar ee.out;obtain⟨z1,z2,z3,z4,z5,z6⟩:=ba.three;obtain⟨A6,c6,rfl⟩:=own_form bj))
    all_goals
     go_wp2_with fail
     go_ret
     have ho:=HO.out
     simp only[ZE,Z8]at ho
     subst ho
     have bz:Below w5.heap.size w5 (w5.alloc (.cells #[.int .i32 c,.int .i64 k,.slice Am m.length cm] 103)).drew:=((Zd _ _).alloc (Zb _) _).drew
     have e1:=((bt.out.below bz).grown ar (Rw.own_not aw.out (by decide))).grown (Rw.grown_set b 0 (.slice A6 (out.length+1) c6)) (by intro q hq;cases hq;exact ba.not (by decide))
     have e2:=((cu.out.below bz).grown ar (Rw.own_not aw.out (by decide))).grown (Rw.grown_set b 0 (.slice A6 (out.length+1) c6)) (by intro q hq;cases hq;exact ba.not (by decide))
     have e3:=Rw.own_grown bj (ZR b) (Rw.grown_set b 0 (.slice A6 (out.length+1) c6))
     refine⟨rfl,⟨.slice A6 (out.length+1) c6,ads++[(Am,cm)],ba.set 0 _,?_,by simp[has],e1.app has e2⟩,?_⟩
     · show World.ownsRow _ _ _ _ _ (out++[(c,k,m)]).length (Rw.fl (out++[(c,k,m)]) (ads++[(Am,cm)]))
       rw[Rw.fl_app out ads (c,k,m) (Am,cm) has,Zi]
       exact e3
     · exact ((a1.out.trans (bz.mono (Z3 dh))).trans (ek.mono (ZW b))).setCell (p:=⟨b,0,none⟩) (Zb _) _
  · have ho:=HO.out
    simp only[Yp]at ho
    subst ho
    have HT:=HQ.out
    rcases bc with _|_
    · go_wp2_with (first|(go_at_call 105;refine (hU _).mono ?_;rintro e w5 ⟨rfl,rfl⟩)|fail)
      refine (b7 _).mono ?_
      rintro e dp ⟨rfl,bx⟩
      have aq:=ai.below bx
      have b5:=cr.below bx
      have bk:=Za (own_below ax.out bx (Zb _))
      have a8:=Za (aj.out.below bx)
      have b4:=Za (bn.out.trans (bx.mono (Z3 ai.lt)))
      have dv:w2.heap.size<dp.heap.size:=b5.lt
      clear p1 p2 p3 p4 p5 p6 r1 r2 r3 r4 r5 r6 bx
      obtain⟨p1,p2,p3,p4,p5,p6⟩:=aq.three
      obtain⟨r1,r2,r3,r4,r5,r6⟩:=b5.three
      go_wp2_with fail
      refine (b7 _).mono ?_
      rintro e w5 ⟨rfl,ag⟩
      have af:=(aq.set 1 (.int .i32 c)).below ag
      simp only[ZC,ZA]at af
      have ae:=own_below (Rw.own_grown bk.out (ZR b) (Rw.grown_set b 1 (.int .i32 c))) ag (Zb _)
      have aa:=(a8.out.grown (Rw.grown_set b 1 (.int .i32 c)) (by intro q hq;cases hq;exact aq.not (by decide))).below ag
      have ah:Below b w w5:=(b4.out.setCell (p:=⟨b,1,none⟩) (Zb _) (.int .i32 c)).trans (ag.mono (by have:=(KeepsWalks.setCell dp ⟨b,1,none⟩ (.int .i32 c)).size;omega))
      have bp:=Za (show Rw.Rd w5 b (out,c,o) from ⟨v,ads,af,ae,has,aa⟩)
      have a1:=Za ah
      clear af ae aa ah ag
      go_wp2_with fail
      go_ret
      exact⟨rfl,bp.out,a1.out⟩
    · go_wp2_with (first|(go_at_call 105;refine (hU _).mono ?_;rintro e w5 ⟨rfl,rfl⟩)|fail)
      refine (b7 _).mono ?_
      rintro e w5 ⟨rfl,ag⟩
      have af:=(ai.set 1 (.int .i32 c)).below ag
      simp only[ZC,ZA]at af
      have ae:=own_below (Rw.own_grown ax.out (ZR b) (Rw.grown_set b 1 (.int .i32 c))) ag (Zb _)
      have aa:=(aj.out.grown (Rw.grown_set b 1 (.int .i32 c)) (by intro q hq;cases hq;exact ai.not (by decide))).below ag
      have ah:Below b w w5:=(bn.out.setCell (p:=⟨b,1,none⟩) (Zb _) (.int .i32 c)).trans (ag.mono (by have:=(KeepsWalks.setCell w4 ⟨b,1,none⟩ (.int .i32 c)).size;omega))
      have bp:=Za (show Rw.Rd w5 b (out,c,o) from ⟨v,ads,af,ae,has,aa⟩)
      have a1:=Za ah
      clear af ae aa ah ag
      go_wp2_with fail
      go_ret
      exact⟨rfl,bp.out,a1.out⟩
def Bd.At (w:World) (b D:Nat) (bs:List Value):Prop :=
 ∃p v,(p=.pointer none∨p=.pointer (some ⟨b,0,none⟩))∧Rw.At w b 98 [p,v]∧w.ownsRow D 5 1 v bs.length bs
def Bd.Kept (w w':World):Prop:=∀(t:TypeId) (A:Option Addr) (xs:List Value),t≠98→t≠5→Slt w t A xs→Slt w' t A xs
set_option maxHeartbeats 1000000 in
set_option maxRecDepth 100000 in
theorem Bd.write2 (b D:Nat) (bs:List Value) (s:ByteArray) (w:World) (hD:b<D) (bh:D≤w.heap.size) (h:Bd.At w b D bs) (hlen:bs.length+s.size≤140737488355328) :
 Calls Tryz.prog 69 #[.pointer (some ⟨b,0,none⟩),.string s] w fun e w'=>e=.returned (.tuple #[.int .i64 s.size,.nilIface])∧Bd.At w' b D (bs++Lib.strCells s)∧Bd.Kept w w'∧Below b w w':=by
 obtain⟨i0,hi,bb,bg,bf⟩:=Yf Bd.infoByte
 obtain⟨p,v,hp,ai,ak⟩:=h
 have ap:∀W,W=w→Calls Tryz.prog 107 #[.pointer (some ⟨b,0,none⟩)] W fun e w'=>e=.returned (.tuple #[])∧(w'=w∨w'=w.setCell ⟨b,0,none⟩ (.pointer (some ⟨b,0,none⟩)))∧Rw.At w' b 98 [.pointer (some ⟨b,0,none⟩),v]:=by
  rintro W rfl
  rcases hp with rfl|rfl
  · refine (Bd.check_fresh b W (ai.cell 0 rfl) ?_ (ai.frozen 0)).mono ?_
    · unfold Rw.At at ai
      simp[World.shape?,ai]
    · rintro e w' ⟨rfl,rfl⟩
      exact⟨rfl,.inr rfl,ai.set 0 _⟩
  · refine (Bd.check_used b W (ai.cell 0 rfl)).mono ?_
    rintro e w' ⟨rfl,rfl⟩
    exact⟨rfl,.inl rfl,ai⟩
 have aq:=Za ak
 have bc:=Za ai
 clear ak ai hp
 go_enter Tryz.func69,Tryz.ntmps69
 go_wp2_with fail
 refine (ap _ rfl).mono ?_
 rintro e w1 ⟨rfl,ar,aj⟩
 have ah:w1.ownsRow D 5 1 v bs.length bs:=by
  rcases ar with rfl|rfl
  · exact aq.out
  · exact Rw.own_grown aq.out hD (Rw.grown_set b 0 _)
 have ax:Bd.Kept w w1:=by
  rcases ar with rfl|rfl
  · exact fun t A xs _ _ h=>h
  · exact fun t A xs h1 _ h=>h.setAt bc.out (fun e=>h1 e.symm) 0 _
 have au:Below b w w1:=by
  rcases ar with rfl|rfl
  · exact Zd _ _
  · exact (Zd _ _).setCell (p:=⟨b,0,none⟩) (Zb _) _
 have hne:=Rw.own_ne ah b hD
 have c0:=aj.cell 0 rfl
 have c1:=aj.cell 1 rfl
 have a8:=au.size
 have ae:=Za ah
 have ba:=Za ax
 have a6:=Za au
 have ay:=Za hne
 clear ar ah ax au hne ap
 go_wp2_with (at_builtin;refine Lib.wpList_append_own_string _ rfl _ _ 96 9 rfl D 5 i0 Tryz.underlying96 Tryz.underlying9 hi bb bg bf _ _ _ rfl ae.out s rfl ?c3 ?c4 ?c5 ?_)
 case c3=>unfold maxLen;omega
 case c4=>omega
 case c5=>omega
 intro v' w2 af aa _
 have ag:=aj.grown aa ay.out
 have d0:=ag.cell 0 rfl
 have d1:=ag.cell 1 rfl
 have f1:=ag.frozen 1
 obtain⟨ao,cap,rfl⟩:=own_form af
 have av:Bd.Kept w1 w2:=fun t A xs _ h2 h=>h.grown aa (Rw.own_not ae.out (fun e=>h2 e.symm))
 have aw:Below b w1 w2:=Rw.below_grown aa (Z3 aj.lt) (fun k hk=>by have:=(ae.out.lt k hk).1;omega)
 have az:=Za av
 have a1:=Za aw
 have a7:=Za af
 clear av aw af aa c0 c1
 go_wp2_with fail
 go_ret2
 refine⟨rfl,⟨_,_,.inr rfl,ag.set 1 _,?_⟩,?_,(a6.out.trans a1.out).setCell (p:=⟨b,1,none⟩) (Zb _) _⟩
 · have:=Rw.own_grown a7.out hD (Rw.grown_set b 1 (.slice ao (bs.length+s.size) cap))
   rw[Zi,Lib.strCells_length]
   exact this
 · exact fun t A xs h1 h2 h=>(az.out t A xs h1 h2 (ba.out t A xs h1 h2 h)).setAt ag (fun e=>h1 e.symm) 1 _
def Ex.btxt (X:List Int):List UInt8:=X.flatMap fun c=>Fi.text c.toNat++[10]
theorem Ex.btxt_snoc (X:List Int) (c:Int):Ex.btxt (X++[c])=Ex.btxt X++(Fi.text c.toNat++[10]):=by simp[Ex.btxt]
theorem Ex.btxt_len:∀(X:List Int),(∀c∈X,0≤c∧c≤1114111)→(Ex.btxt X).length≤7*X.length
 | [],_=>by simp[Ex.btxt]
 | c::X,h=>by
   have h1:=Fi.text_le c.toNat (by have:=(h c Zw).2;omega)
   have h2:=Ex.btxt_len X fun d hd=>h d (ZB _ hd)
   unfold Ex.btxt at h2 ⊢
   rw[Xw]
   simp only[Zi,ZM,Z9]
   omega
theorem Ex.strip_text (n:Nat):Fi.strip (Fi.text n)=Fi.text n:=by
 obtain⟨x,m,y,h1,h2,h3,h4⟩:=Ex.text_ends n
 unfold Fi.strip
 rw[Ex.cut_miss _ (Ex.text_no35 n)]
 have:=Ex.trim_pad 0 (Fi.text n) x y m h1 h2 h3 h4 0
 simpa using this
theorem Ex.steps_texts:∀(l:List Int) (seen:List Int),(∀c∈l,C.isC c=true)→l.Nodup→(∀c∈l,c∉seen)→Ex.steps seen (l.map fun c=>Fi.text c.toNat)=some (seen++l)
 | [],seen,_,_,_=>by simp[Ex.steps]
 | c::l,seen,h1,h2,h3=>by
   have hc:=h1 c Zw
   have aa:0≤c∧c≤1114111:=by
    unfold C.isC at hc
    have:=Yd hc
    omega
   have hl:Ex.line seen (Fi.text c.toNat)=some (seen++[c]):=by
    unfold Ex.line
    rw[Ex.strip_text,Zs (Rw.text_ne _),Fi.hex_text _ (by omega),Zt,Rw.nat_cast aa.1,Zv ⟨hc,h3 c Zw⟩]
   rw[Z0,Ex.steps,hl,Zt,Ex.steps_texts l (seen++[c]) (fun d hd=>h1 d (ZB _ hd)) (List.nodup_cons.1 h2).2 (fun d hd hm=>by
    rcases List.mem_append.1 hm with h|h
    · exact h3 d (ZB _ hd) h
    · rw[Zy]at h
      subst h
      exact (List.nodup_cons.1 h2).1 hd)]
   simp
theorem Ex.parse_btxt (l:List Int) (h1:∀c∈l,C.isC c=true) (h2:l.Nodup) (hn:l.length≤1000):Ex.parse (Ex.btxt l)=some l:=by
 have hb:∀c∈l,0≤c∧c≤1114111:=fun c hc=>by
  have:=h1 c hc
  unfold C.isC at this
  have:=Yd this
  omega
 have ae:∀x∈l.map (fun c=>Fi.text c.toNat),Rw.okl x=true:=by
  intro x hx
  obtain⟨c,hc,rfl⟩:=List.mem_map.1 hx
  have:=Fi.text_le c.toNat (by have:=(hb c hc).2;omega)
  exact Ex.ok_of (by omega) fun b af=>by have:=Rw.text_bytes _ b af;omega
 have aa:Rw.lns [] (Ex.btxt l)=l.map fun c=>Fi.text c.toNat:=by
  have:=Rw.lns_text (l.map fun c=>Fi.text c.toNat) fun x hx=>Ex.ok_no (ae x hx)
  rw[List.flatMap_map]at this
  exact this
 unfold Ex.parse
 rw[aa,Zv ⟨by rw[Ya];exact ae,by simp;omega⟩,Ex.steps_texts l [] h1 h2 (fun c _=>by simp)]
 simp
set_option maxRecDepth 100000 in
set_option maxHeartbeats 4000000 in
theorem Ex.text_any (A:Option Addr) (c n:Nat) (S X:List Int) (w:World) (hn:S.length=n) (b4:n≤1000) (b1:C.ok S) (hX:C.all1 (C.rngs S)=X) (bg:∀c∈X,C.isC c=true) (bp:X.length≤1000)
 (hA:Slt w 21 A (S.map (Value.int .i32))) (hL:Fi.Laid w) :
 Calls Tryz.prog 74 #[.agg #[.slice A n c]] w fun e w'=>e=.returned (.string ⟨(Ex.btxt X).toArray⟩)∧Below w.heap.size w w':=by
 have bi:∀c∈X,0≤c∧c≤1114111:=fun c hc=>by
  have:=bg c hc
  unfold C.isC at this
  have:=Yd this
  omega
 obtain⟨wa,aw⟩:∃wa,(w.alloc (.cells #[.slice A n c] 113)).alloc (.cells #[.pointer none,.slice none 0 0] 98)=wa:=⟨_,rfl⟩
 have a6:Below w.heap.size w wa:=by rw[←aw];exact ((Zd _ _).alloc (Zb _) _).alloc (by simp) _
 have aq:Rw.At wa w.heap.size 113 [.slice A n c]:=by rw[←aw];exact (Rw.At.new w 113 [.slice A n c]).alloc _
 have ai:Rw.At wa (w.heap.size+1) 98 [.pointer none,.slice none 0 0]:=by
  have h:=Rw.At.new (w.alloc (.cells #[.slice A n c] 113)) 98 [.pointer none,.slice none 0 0]
  rw[ZD]at h
  rw[←aw]
  exact h
 have b2:w.heap.size+1<wa.heap.size:=ai.lt
 have av:=C.setchars_any A c n wa.heap.size S wa hn (by omega) b1 (Zb _) (hA.below a6).sl
 rw[hX]at av
 obtain⟨m,hm⟩:∃m,X.length=m:=⟨_,rfl⟩
 unfold C.RetRunes at av
 rw[hm]at av bp
 have bu:=Za aw
 have HM:=Za hm
 have bh:=Za bi
 have bc:=Za a6
 have HL:=Za hL
 have z0:=aq.cell 0 rfl
 clear aw hm bi a6 hL hA hX bg hn
 go_enter Tryz.func74,Tryz.ntmps74
 go_upto_region 2 with (fail)
 rw[bu.out]
 go_wp2_with fail
 refine av.mono ?_
 rintro e w2 ⟨A5,c5,rfl,ah,az⟩
 have a7:Bd.At w2 (w.heap.size+1) w2.heap.size []:=⟨_,_,.inl rfl,ai.below az,ZG _ _ _ _⟩
 have bs:=Za (Slt.of_own ah)
 have bm:=Za (bc.out.trans (az.mono bc.out.size))
 have bz:w.heap.size+1<w2.heap.size:=Ze b2 az.size
 clear ah az av aq ai z0
 go_wp2_with fail
 go_loopw [5,9] (fun _ i wr=>∃k:Nat,k≤m∧i=.int .i64 k∧Bd.At wr (w.heap.size+1) w2.heap.size (Lib.byteCells (Ex.btxt (X.take k)))∧Slt wr 21 A5 (X.map (Value.int .i32))∧Below (w.heap.size+1) w2 wr) (fun _ i _=>m-(intOf i).toNat)
 case atStart=>exact⟨0,Zz _,rfl,a7,bs.out,Zd _ _⟩
 case round =>
  obtain⟨k,hk,rfl,ap,hS,ae⟩:=hrel
  have b3:w2.heap.size≤wr.heap.size:=ae.size
  have ax:Below w.heap.size w wr:=bm.out.trans (ae.mono (ZW _))
  by_cases hlt:k<m
  · obtain⟨x,hx⟩:∃x,X[k]?=some x:=⟨_,Zc (by rw[HM.out];exact hlt)⟩
    have hxb:=bh.out x (Zk hx)
    obtain⟨ab,ao,rfl,b5,bk⟩:=hS.sl (by rw[Zf,HM.out];omega)
    have hc:=bk k (by rw[Zf,HM.out];exact hlt)
    rw[Zl,hx,Zn]at hc
    obtain⟨xn,rfl⟩:∃xn:Nat,x=xn:=⟨x.toNat,by omega⟩
    have hT:=Fi.text_any xn (by omega) wr (HL.out.below ax)
    have ag:Ex.btxt (X.take (k+1))=Ex.btxt (X.take k)++(Fi.text xn++[10]):=by
     rw[Zr,hx]
     show Ex.btxt (X.take k++[(xn:Int)])=_
     rw[Ex.btxt_snoc,YQ]
    have bw:=Ex.btxt_len (X.take k) fun d hd=>bh.out d (Yn hd)
    have bq:(X.take k).length≤k:=Xh _ _
    obtain⟨tx,ay⟩:∃y:ByteArray,⟨(Fi.text xn).toArray⟩=y:=⟨_,rfl⟩
    rw[ay]at hT
    have bt:tx.size≤6:=by
     rw[←ay]
     show (Fi.text xn).toArray.size≤6
     have:=Fi.text_le xn (by omega)
     simpa using this
    have s1:(⟨#[10]⟩:ByteArray).size=1:=rfl
    have c1:¬9223372036854775807<tx.size+(⟨#[10]⟩:ByteArray).size:=by omega
    have aa:Lib.byteCells (Ex.btxt (X.take (k+1)))=Lib.byteCells (Ex.btxt (X.take k))++Lib.strCells (tx++⟨#[10]⟩):=by
     rw[ag,←ay,show (⟨#[10]⟩:ByteArray)=⟨[10].toArray⟩ from rfl,Fi.ba_app]
     unfold Lib.byteCells Lib.strCells
     simp
    have kI:(k:Int)<m:=by omega
    have HC:=Za aa
    have bx:=Za ap
    have HS:=Za hS
    have ba:=Za ae
    have af:(Lib.byteCells (Ex.btxt (X.take k))).length+7≤140737488355328:=by
     have:(Lib.byteCells (Ex.btxt (X.take k))).length=(Ex.btxt (X.take k)).length:=by unfold Lib.byteCells;simp
     omega
    have bl:=Za af
    clear bk hx ag bw bq ay aa ap hS ae af hxb ax
    go_wp2_with fail
    refine hT.mono ?_
    rintro e w3 ⟨rfl,aj⟩
    have ak:Bd.At w3 (w.heap.size+1) w2.heap.size (Lib.byteCells (Ex.btxt (X.take k))):=by
     obtain⟨p,v,h1,h2,h3⟩:=bx.out
     exact⟨p,v,h1,h2.below aj,own_below h3 aj (Zb _)⟩
    have hW:=Bd.write2 (w.heap.size+1) w2.heap.size (Lib.byteCells (Ex.btxt (X.take k))) (tx++⟨#[10]⟩) w3 bz (Zh b3 aj.size) ak (by rw[ZQ];have:=bl.out;omega)
    have bn:=Za (HS.out.below aj)
    have br:=Za (ba.out.trans (aj.mono (by omega)))
    clear aj hT ak
    go_wp2_with fail
    refine hW.mono ?_
    rintro e w4 ⟨rfl,au,bb,ar⟩
    have a8:=Za au
    have bo:=Za (bb _ _ _ (by decide) (by decide) bn.out)
    have a1:=Za (br.out.trans ar)
    clear au bb ar hW
    go_wp2_with fail
    exact⟨⟨k+1,by omega,by go_num,by rw[HC.out];exact a8.out,bo.out,a1.out⟩,by simp[intOf];omega⟩
  · obtain rfl:k=m:=by omega
    have kI:¬(k:Int)<k:=by omega
    rw[Zj (by rw[HM.out];exact Zb _)]at ap
    have bf:Lib.IsBuilder 98 5 (w.heap.size+1) (w.heap.size+1) (Lib.byteCells (Ex.btxt X)) wr:=by
     obtain⟨p,v,h1,h2,h3⟩:=ap
     have h4:Lib.BuilderAt 98 5 (w.heap.size+1) (w.heap.size+1) p (Lib.byteCells (Ex.btxt X)) wr:=⟨Zb _,v,h2,R.own_base h3 (by omega),Rw.own_ne h3 _ (by omega)⟩
     rcases h1 with rfl|rfl
     · exact .inl h4
     · exact .inr h4
    have bj:=Tryz.Builder_String_any (w.heap.size+1) (w.heap.size+1) (Ex.btxt X) wr bf (by omega)
    have HB:=Za ax
    clear ap hS ae bf ax
    go_wp2_with fail
    refine bj.mono ?_
    rintro e w4 ⟨rfl,ar⟩
    have a1:=Za (HB.out.trans (ar.mono (ZW _)))
    clear ar bj
    go_wp2_with fail
    go_ret
    exact⟨rfl,a1.out⟩
end Go.Proofs.YtbeakahjbkdeiaaGreatDoor
namespace Go.Proofs.YtbeakahjbkdeiaaGreatDoor.Stg
open Go Go.RowKit
set_option linter.unusedSimpArgs false
set_option linter.unusedVariables false
section
variable {P:Program} {ops:Array Oper} {md:Region.Mode} {R:World→World→Prop} {F:Act→World→Prop}
def xOper (P:Program) (ops:Array Oper) (R:World→World→Prop) (o:Oper) (K:Act→World→Prop) (a:Act) (w:World):Prop :=
 if Region.wanted o (yielded ops a.tmps)=true then
  (if readsOnly o.op=true then o.quiet P a (fun w'=>w'=w) (fun a'=>K a' w) else stepAt P o a w (fun v w'=>R w w'∧K (a.put o.dst v) w'))
 else K (a.put o.dst undef) w
def xOp (P:Program) (ops:Array Oper) (R:World→World→Prop) (i:Nat) (K:Act→World→Prop) (a:Act) (w:World):Prop :=
 match ops[i]? with
 | none=>K a w
 | some o=>xOper P ops R o K a w
def wpX (P:Program) (md:Region.Mode) (ops:Array Oper) (R:World→World→Prop) (F:Act→World→Prop):Nat→Array Bool→Act→World→Prop
 | 0,listed,a,w=>Region.ready md ops listed=[]∧F a w
 | fuel+1,listed,a,w=>(Region.ready md ops listed=[]→F a w)∧∀i∈Region.ready md ops listed,xOp P ops R i (wpX P md ops R F fuel (listed.setIfInBounds i true)) a w
theorem wpAny_of_x {Q:Exit→Act→World→Prop} (hQ:∀a w,F a w→Q .normal a w):∀(fuel:Nat) (listed:Array Bool) (a:Act) (w:World),wpX P md ops R F fuel listed a w→wpAny P md ops Q fuel listed a w
 | 0,_,_,_,h=>⟨h.1,hQ _ _ h.2⟩
 | fuel+1,listed,a,w,h=>⟨fun h0=>hQ _ _ (h.1 h0),fun i hi=>by
    have h2:=h.2 i hi
    unfold xOp at h2
    unfold wpOp
    cases ho:ops[i]? with
    | none=>exact absurd (lt_of_ready hi) (by have:=Array.getElem?_eq_none_iff.1 ho;omega)
    | some o =>
      simp only[ho]at h2 ⊢
      unfold xOper at h2
      split
      · rename_i hw
        simp only[hw,Yp]at h2
        left
        by_cases hro:readsOnly o.op=true
        · rw[Zv hro]at h2
          obtain⟨v,h3,h4⟩:=h2
          have h5:=h3 w rfl
          have hne:=noEnter hro a.eval P w
          unfold Oper.quietAt at h5
          unfold Oper.wp
          generalize (execOp a.eval o).run P w=r at *
          cases r with
          | ok x w' =>
            cases x <;> simp only[Oper.quietUpon]at h5 <;> simp only[Oper.upon]
            case value u=>rw[h5.1,h5.2];exact wpAny_of_x hQ fuel _ _ _ h4
            case skip=>rw[h5.1,←h5.2];exact wpAny_of_x hQ fuel _ _ _ h4
            case enter f args=>exact absurd rfl (hne w' f args)
          | halt x w'=>simp only[Oper.quietUpon]at h5
        · rw[Zs hro]at h2
          unfold stepAt at h2
          unfold Oper.wp
          generalize (execOp a.eval o).run P w=r at *
          cases r with
          | ok x w' =>
            cases x <;> simp only[stepUpon]at h2 <;> simp only[Oper.upon]
            case value v=>exact wpAny_of_x hQ fuel _ _ _ h2.2
            case skip=>exact wpAny_of_x hQ fuel _ _ _ h2.2
            case enter f args =>
             refine h2.mono ?_
             rintro e w'' ⟨v,rfl,h3,h4⟩
             exact wpAny_of_x hQ fuel _ _ _ h4
            case row s args =>
             refine Rows.mono h2 ?_
             rintro v w'' ⟨h3,h4⟩
             exact wpAny_of_x hQ fuel _ _ _ h4
          | halt x w'=>simp only[stepUpon]at h2
      · rename_i hw
        simp only[hw,Z8]at h2
        exact wpAny_of_x hQ fuel _ _ _ h2⟩
def YieldsX (P:Program) (ops:Array Oper) (R:World→World→Prop) (o:Oper) (v:Value) (a:Act) (w:World):Prop :=
 (Region.wanted o (yielded ops a.tmps)=true∧readsOnly o.op=true∧∀w',R w w'→o.quietAt P a (fun _=>True) w' v)∨(Region.wanted o (yielded ops a.tmps)=false∧v=undef)
theorem YieldsX.xOp {i:Nat} {o:Oper} {v:Value} {a:Act} {w:World} (hR:Rel R) (hi:ops[i]?=some o) (hy:YieldsX P ops R o v a w) {K:Act→World→Prop} (h:K (a.put o.dst v) w):xOp P ops R i K a w:=by
 unfold Stg.xOp xOper
 simp only[hi]
 rcases hy with ⟨hw,hro,hv⟩|⟨hw,rfl⟩
 · simp only[hw,hro,Yp]
   exact⟨v,fun w' hw'=>by subst hw';exact quietAt_same hro (hv _ (hR.refl _)),h⟩
 · simp only[hw,ZE,Z8];exact h
theorem firstX {i:Nat} {oi:Oper} {v:Value} (hR:Rel R) (hi:ops[i]?=some oi) (af:∀(j:Nat) (o:Oper) cs b,ops[j]?=some o→o.op≠.select cs b) :
 ∀(fuel:Nat) (listed:Array Bool) (a:Act) (w:World),
  (∀j oj,ops[j]?=some oj→j≠i→listed.getD j true=false→(∀e∈oj.after,Region.binds md e=true→e.on≠i)→oi.apart ops oj=true) →
  i∈Region.ready md ops listed→YieldsX P ops R oi v a w →
  wpX P md ops R F fuel (listed.setIfInBounds i true) (a.put oi.dst v) w→wpX P md ops R F (fuel+1) listed a w:=by
 intro fuel
 induction fuel with
 | zero =>
   intro listed a w _ hr hy H
   refine⟨fun h=>(by rw[h]at hr;cases hr),fun j hj=>?_⟩
   by_cases hji:j=i
   · subst hji;exact hy.xOp hR hi H
   · have:=XB hj hji
     rw[H.1]at this
     cases this
 | succ fuel ih =>
   intro listed a w aa hr hy H
   refine⟨fun h=>(by rw[h]at hr;cases hr),fun j hj=>?_⟩
   by_cases hji:j=i
   · subst hji;exact hy.xOp hR hi H
   · have h1:=H.2 j (XB hj hji)
     obtain⟨ag,oj,ah,aj⟩:=mem_ready.1 hj
     have ai:∀e∈oj.after,Region.binds md e=true→e.on≠i:=fun e he hb aq=>by
      have h1:=aj e he hb
      have h0:=(mem_ready.1 hr).1
      rw[aq,unl h0]at h1
      cases h1
     obtain⟨p1,p2,p3⟩:=Oper.apart_spec (aa j oj ah hji ag ai)
     have ae:∀k ok,ops[k]?=some ok→k≠i→(listed.setIfInBounds j true).getD k true=false →
      (∀e∈ok.after,Region.binds md e=true→e.on≠i)→oi.apart ops ok=true:=fun k ok hk ao ak ap=>by
      refine aa k ok hk ao ?_ ap
      by_cases hjk:j=k
      · subst hjk;exact ag
      · rw[Xj true hjk]at ak;exact ak
     have keep:∀u w',R w w'→YieldsX P ops R oi v (a.put oj.dst u) w':=fun u w' hw'=>by
      unfold YieldsX Oper.quietAt at *
      rw[Xy oi (af i oi · · hi) a oj.dst u p3,Xz oi a oj.dst u p3]
      exact hy.imp (fun ⟨x,y,z⟩=>⟨x,y,fun w2 h2=>z w2 (hR.trans hw' h2)⟩) id
     have go:∀u w',R w w' →
      wpX P md ops R F fuel ((listed.setIfInBounds i true).setIfInBounds j true) ((a.put oi.dst v).put oj.dst u) w'→wpX P md ops R F (fuel+1) (listed.setIfInBounds j true) (a.put oj.dst u) w':=by
      intro u w' hw' h3
      refine ih _ _ _ ae (XB hr (Z6 hji)) (keep u w' hw') ?_
      rw[Array.setIfInBounds_comm _ _ hji,←Act.put_comm a v u p2]
      exact h3
     unfold Stg.xOp xOper at *
     simp only[ah]at h1 ⊢
     rw[Xz oj a oi.dst v p1]at h1
     split
     · rename_i hw
       simp only[hw,Yp]at h1
       by_cases hro:readsOnly oj.op=true
       · rw[Zv hro]at h1 ⊢
         obtain⟨u,h2,h3⟩:=h1
         refine⟨u,fun w' hw'=>?_,go u w (hR.refl _) h3⟩
         have:=h2 w' hw'
         unfold Oper.quietAt at *
         rwa [Xy oj (af j oj · · ah) a oi.dst v p1]at this
       · rw[Zs hro]at h1 ⊢
         unfold stepAt at *
         rw[Xy oj (af j oj · · ah) a oi.dst v p1]at h1
         exact stepUpon_mono (fun u w' ⟨h2,h3⟩=>⟨h2,go u w' h2 h3⟩) h1
     · rename_i hw
       simp only[hw,Z8]at h1
       exact go _ w (hR.refl _) h1
theorem wp_regionX (R:World→World→Prop) (hR:Rel R) {id:Nat} {Q:Exit→Act→World→Prop} {a:Act} {w:World} {l:List Oper} (hm:P.follows .mixedOrders=true)
 (h:wpX P .any l.toArray R (fun a w=>Q .normal a w) l.toArray.size (Array.replicate l.toArray.size false) a w.drew):(Code.region id l.toArray true).wp P Q a w :=
 wp_region_any hm (wpAny_of_x (F:=fun a w=>Q .normal a w) (fun _ _ h=>h) _ _ _ _ h)
variable {fuel:Nat} {listed:Array Bool} {a:Act} {w:World}
theorem takeX {l:List Oper} (hR:Rel R) (i:Nat) (o:Oper) (hi':l[i]?=some o) (hs:Region.noSelect l.toArray=true) (hf:Region.free md l.toArray listed i=true) (hr:(Region.ready md l.toArray listed).contains i=true) (hro:readsOnly o.op=true) (hw:Region.wanted o (yielded l.toArray a.tmps)=true)
 (h:∀K:Act→Prop,(∀A,wpX P md l.toArray R F fuel (listed.setIfInBounds i true) A w→K A)→o.quiet P a (fun w'=>∃x:Later R w,w'=x.val) K):wpX P md l.toArray R F (fuel+1) listed a w:=by
 have hi:l.toArray[i]?=some o:=by simpa using hi'
 obtain⟨v,h1,h2⟩:=h (fun A=>wpX P md l.toArray R F fuel (listed.setIfInBounds i true) A w) (fun A h=>h)
 exact firstX hR hi (Region.noSelect_spec hs) fuel listed a w (Region.free_spec hi hf) (by simpa using hr) (.inl ⟨hw,hro,fun w' hw'=>quietAt_same hro (h1 w' ⟨⟨w',hw'⟩,rfl⟩)⟩) h2
theorem one (i:Nat) (hr:Region.ready md ops listed=[i]) (h:xOp P ops R i (wpX P md ops R F fuel (listed.setIfInBounds i true)) a w):wpX P md ops R F (fuel+1) listed a w :=
 ⟨fun e=>absurd e (by rw[hr];simp),fun j hj=>by
  rw[hr,Zy]at hj
  subst hj
  exact h⟩
theorem two (i i':Nat) (hr:Region.ready md ops listed=[i,i']) (h:xOp P ops R i (wpX P md ops R F fuel (listed.setIfInBounds i true)) a w) (h':xOp P ops R i' (wpX P md ops R F fuel (listed.setIfInBounds i' true)) a w):wpX P md ops R F (fuel+1) listed a w :=
 ⟨fun e=>absurd e (by rw[hr];simp),fun j hj=>by
  rw[hr]at hj
  rcases List.mem_cons.1 hj with e|hj
  · subst e;exact h
  · rw[Zy]at hj
    subst hj
    exact h'⟩
theorem endX (hr:Region.ready md ops listed=[]) (h:F a w):wpX P md ops R F fuel listed a w:=by
 cases fuel with
 | zero=>exact⟨hr,h⟩
 | succ fuel=>exact⟨fun _=>h,fun i hi=>by rw[hr]at hi;cases hi⟩
theorem stepX {l:List Oper} (i:Nat) (o:Oper) (hi':l[i]?=some o) (hp:plainOp o.op=true) (hro:readsOnly o.op=false) (hw:Region.wanted o (yielded l.toArray a.tmps)=true) {K:Act→World→Prop}
 (h:∀K':Act→World→Prop,(∀A w',R w w'→(∀A',A'=A→K A' w')→K' A w')→o.wp P a w K' (fun _ _ _=>False)):xOp P l.toArray R i K a w:=by
 have hi:l.toArray[i]?=some o:=by simpa using hi'
 unfold xOp xOper
 simp only[hi,hw,hro,Yp,ZE,Z8]
 have h1:=h (fun A w'=>R w w'∧K A w') (fun A w' h1 h2=>⟨h1,h2 A rfl⟩)
 have aa:=noDefer hp a.eval P w
 unfold stepAt
 unfold Oper.wp at h1
 generalize (execOp a.eval o).run P w=r at *
 cases r with
 | ok x w' =>
   cases x <;> simp only[Oper.upon]at h1 <;> simp only[stepUpon]
   case value v=>exact h1
   case skip=>exact h1
   case defer d=>exact absurd rfl (aa w' d)
   case enter f args =>
    refine h1.mono fun e w'' he=>?_
    cases e with
    | returned v=>exact⟨v,rfl,he⟩
    | panicked c=>exact absurd he id
    | outgrown=>obtain⟨_,_,he⟩:=he;exact absurd he id
   case row s args=>exact Rows.mono h1 fun v w'' he=>he
 | halt x w'=>cases x <;> simp only[Oper.upon]at h1
theorem callX {l:List Oper} (i:Nat) (o:Oper) (hi':l[i]?=some o) (hro:readsOnly o.op=false) (hw:Region.wanted o (yielded l.toArray a.tmps)=true) (f:FuncId) (xs:List Operand) (ts:Array TypeId) (ho:o.op=.call { callee:=.value (.func f),args:=xs.toArray,argTypes:=ts })
 (entry:∀args w,(callFunc f args).run P w=.ok (.enter f args) w) (us:List Value) (hv:xs.map a.eval=us) (T:Ending→World→Prop) (hC:Calls P f us.toArray w T) {K:Act→World→Prop}
 (h:∀e w',T e w'→∃v,e=.returned v∧R w w'∧∀A,A=a.put o.dst v→K A w'):xOp P l.toArray R i K a w:=by
 have hi:l.toArray[i]?=some o:=by simpa using hi'
 unfold xOp xOper
 simp only[hi,hw,hro,Yp,ZE,Z8]
 have aa:(execOp a.eval o).run P w=.ok (.enter f us.toArray) w:=by
  have hf:a.eval (.func f)=.func (.func f) #[] #[]:=rfl
  unfold execOp
  subst hv
  simp[ho,resolve,invoke,go_sem,entry,hf]
 unfold stepAt
 rw[aa]
 exact hC.mono fun e w' ht=>let ⟨v,he,h1,h2⟩:=h e w' ht;⟨v,he,h1,h2 _ rfl⟩
end
end Go.Proofs.YtbeakahjbkdeiaaGreatDoor.Stg
namespace Go.Proofs.YtbeakahjbkdeiaaGreatDoor
open Go.RowKit
set_option linter.unusedSimpArgs false
set_option linter.unusedVariables false
theorem Pg.wpList_exec {P:Program} {ops:Array Oper} {rest:List Oper} {o:Oper} {a:Act} {w w':World} {Q:Exit→Act→World→Prop} (aa:o.guard=none) (u:Value) (hr:(execOp a.eval o).run P w=.ok (.value u) w') (h:wpList P ops Q rest (a.put o.dst u) w'):wpList P ops Q (o::rest) a w :=
 wpList_plain aa fun _ hK=>by
  unfold Oper.wp
  rw[hr]
  exact hK _ _ h
theorem Pg.step_exec {P:Program} {ops:Array Oper} {o:Oper} {a:Act} {K:Act→World→Prop} {Q:Exit→Act→World→Prop} {E:Prop} {w w':World} (aa:o.guard=none) (u:Value) (hr:(execOp a.eval o).run P w=.ok (.value u) w') (h:K (a.put o.dst u) w') :
 if Region.wanted o (yielded ops a.tmps)=true then Oper.wp P o a w K Q else E:=by
 rw[Zv (by simp[Region.wanted,aa])]
 unfold Oper.wp
 rw[hr]
 exact h
theorem Pg.exec_build {P:Program} {o:Oper} {ρ:Operand→Value} {w w':World} (t:TypeId) (ho:o.op=.build t #[]) (u:Value) (hr:(Instr.build t #[]).run P w=.ok u w'):(execOp ρ o).run P w=.ok (.value u) w':=by
 simp only[execOp,ho,Yt,YV,Y3,hr,Ym,Yl]
theorem Pg.exec_build1 {P:Program} {o:Oper} {ρ:Operand→Value} {w w':World} (t:TypeId) (k:Nat) (x:Operand) (ho:o.op=.build t #[(k,x)]) (v:Value) (hx:ρ x=v) (u:Value) (hr:(Instr.build t #[(k,v)]).run P w=.ok u w'):(execOp ρ o).run P w=.ok (.value u) w':=by
 subst hx
 simp only[execOp,ho,Yt,YV,Z0,Y3,hr,Ym,Yl]
theorem Pg.exec_slice1 {P:Program} {o:Oper} {ρ:Operand→Value} {w w':World} (t:TypeId) (n k:Nat) (x:Operand) (ho:o.op=.buildSlice t n #[(k,x)]) (v:Value) (hx:ρ x=v) (u:Value) (hr:(Instr.buildSlice t n #[(k,v)]).run P w=.ok u w'):(execOp ρ o).run P w=.ok (.value u) w':=by
 subst hx
 simp only[execOp,ho,Yt,YV,Z0,Y3,hr,Ym,Yl]
theorem Pg.exec_load {P:Program} {o:Oper} {ρ:Operand→Value} {w w':World} (t:TypeId) (x:Operand) (ho:o.op=.load t x) (v:Value) (hx:ρ x=v) (u:Value) (hr:(Instr.loadAt t v).run P w=.ok u w'):(execOp ρ o).run P w=.ok (.value u) w':=by
 subst hx
 simp only[execOp,ho,Yt,hr,Ym,Yl]
theorem Pg.exec_append {P:Program} {o:Oper} {ρ:Operand→Value} {w w':World} (s x:Operand) (t:TypeId) (ho:o.op=.call { callee:=.builtin .append,args := #[s,x],argTypes := #[t,t] }) (v u:Value) (hs:ρ s=v) (hx:ρ x=u) (r:Value)
 (hr:(Builtin.append_ #[t,t] o.type #[v,u]).run P w=.ok r w'):(execOp ρ o).run P w=.ok (.value r) w':=by
 subst hs hx
 unfold execOp
 simp only[ho,resolve,invoke,builtin,Yt,Yl,Ym,YV,Z0,Y3,hr]
section
variable {P:Program} {ops:Array Oper} {Q:Exit→Act→World→Prop} {fuel:Nat} {listed:Array Bool} {a:Act} {w:World}
theorem Pg.take (i:Nat) (op:Op) (d:Option Tmp) (t:TypeId) (v:Value) (ho:(ops[i]?).map (fun o=>(o.op,o.dst,o.type,o.guard))=some (op,d,t,none)) (hs:Region.noSelect ops=true) (hf:Region.free .any ops listed i=true) (hr:(Region.ready .any ops listed).contains i=true)
 (hQ:∀c a w,Q (.panic c) (a.put d v) w→Q (.panic c) a w) (hy:∀o:Oper,o.op=op→∀w,(execOp a.eval o).run P w=.ok (.value v) w)
 (h:wpAny P .any ops Q fuel (listed.setIfInBounds i true) (a.put d v) w):wpAny P .any ops Q (fuel+1) listed a w:=by
 cases hi:ops[i]? with
 | none=>simp[hi]at ho
 | some o =>
   simp only[hi,Zn,Zg,YN]at ho
   obtain⟨h1,h2,h3,h4⟩:=ho
   refine wpAny_take (i:=i) (oi:=o) (v:=v) hi hs hf hr (fun c a w=>by rw[h2];exact hQ c a w) (Or.inl ⟨by simp[Region.wanted,h4],hy o h1⟩) ?_
   rw[h2]
   exact h
theorem Pg.branch {i:Nat} {rs:List Nat} (op:Op) (d:Option Tmp) (t:TypeId) (v:Value) (w':World) (ho:(ops[i]?).map (fun o=>(o.op,o.dst,o.type,o.guard))=some (op,d,t,none)) (hr:∀o:Oper,o.op=op→o.type=t→(execOp a.eval o).run P w=.ok (.value v) w')
 (h:wpAny P .any ops Q fuel (listed.setIfInBounds i true) (a.put d v) w') (hs:AllReady P .any ops Q fuel listed a w rs):AllReady P .any ops Q fuel listed a w (i::rs):=by
 cases hi:ops[i]? with
 | none=>simp[hi]at ho
 | some o =>
   simp only[hi,Zn,Zg,YN]at ho
   obtain⟨h1,h2,h3,h4⟩:=ho
   refine AllReady.cons hi (fun K hK=>?_) hs
   refine Pg.step_exec h4 v (hr o h1 h3) (hK _ _ ?_)
   rw[h2]
   exact h
theorem Pg.branchS {i:Nat} {rs:List Nat} (op:Op) (w':World) (ho:(ops[i]?).map (fun o=>(o.op,o.dst,o.type,o.guard))=some (op,none,0,none)) (hr:∀o:Oper,o.op=op→(execOp a.eval o).run P w=.ok .skip w')
 (h:wpAny P .any ops Q fuel (listed.setIfInBounds i true) a w') (hs:AllReady P .any ops Q fuel listed a w rs):AllReady P .any ops Q fuel listed a w (i::rs):=by
 cases hi:ops[i]? with
 | none=>simp[hi]at ho
 | some o =>
   simp only[hi,Zn,Zg,YN]at ho
   obtain⟨h1,h2,h3,h4⟩:=ho
   refine AllReady.cons hi (fun K hK=>?_) hs
   rw[Zv (by simp[Region.wanted,h4])]
   unfold Oper.wp
   rw[hr o h1]
   refine hK _ _ ?_
   rw[h2]
   exact h
end
theorem Pg.exec_move {P:Program} {o:Oper} {ρ:Operand→Value} {w:World} (x:Operand) (ho:o.op=.move x) (v:Value) (hx:ρ x=v):(execOp ρ o).run P w=.ok (.value v) w:=by
 subst hx
 simp only[execOp,ho,Yl]
theorem Pg.exec_nil {P:Program} {o:Oper} {ρ:Operand→Value} {w:World} (x:Operand) (ho:o.op=.nilCheck x) (a:Addr) (hx:ρ x=.pointer (some a)):(execOp ρ o).run P w=.ok (.value (.pointer (some a))) w:=by
 simp only[execOp,ho,hx,Yl]
theorem Pg.exec_field {P:Program} {o:Oper} {ρ:Operand→Value} {w w':World} (t:TypeId) (x:Operand) (k:Nat) (ho:o.op=.fieldAddr t x k) (v:Value) (hx:ρ x=v) (u:Value) (hr:(Instr.fieldAt t v k).run P w=.ok u w'):(execOp ρ o).run P w=.ok (.value u) w':=by
 subst hx
 simp only[execOp,ho,Yt,hr,Ym,Yl]
theorem Pg.exec_store {P:Program} {o:Oper} {ρ:Operand→Value} {w w':World} (t:TypeId) (p x:Operand) (ho:o.op=.store t p x) (v u:Value) (hp:ρ p=v) (hx:ρ x=u) (hr:(Instr.storeAt t v u).run P w=.ok () w'):(execOp ρ o).run P w=.ok .skip w':=by
 subst hp hx
 simp only[execOp,ho,Yt,hr,Ym,Yl]
theorem Pg.foldl_set:∀(xs:List Value) (k:Nat) (cs:Array Value),cs.size=k+xs.length→((xs.zipIdx k).foldl (fun (cs:Array Value) (p:Value × Nat)=>cs.setIfInBounds (0+p.2) p.1) cs).toList=cs.toList.take k++xs
 | [],k,cs,h=>by simp;rw[Zj (by simp;simp at h;omega)]
 | x::xs,k,cs,h=>by
   rw[List.zipIdx_cons,Xb,Pg.foldl_set xs (k+1) _ (by simp at h ⊢;omega)]
   have hk:k<cs.toList.length:=by simp at h ⊢;omega
   simp only[Array.toList_setIfInBounds,Z2]
   rw[Zr,List.take_set_of_le (Zb _),List.getElem?_set_self hk]
   simp
theorem Pg.fill_one (n:Nat) (cs v:Array Value) (h1:v.size=n) (h2:cs.size=n):Instr.fill (fun i=>some (i*n,n)) cs [(0,.agg v)]=some v:=by
 unfold Instr.fill
 simp only[]
 split
 · rename_i h
   have e1:(Value.agg v).cells.size=n:=h1
   rw[e1]at h
   have e2:¬(0*n+n > cs.size):=by omega
   simp[h2]at h
 · unfold Instr.fill
   congr 1
   have:=Pg.foldl_set v.toList 0 cs (by simp;omega)
   apply Array.ext'
   simp only[Value.cells,Nat.zero_mul]
   rw[←Array.foldl_toList,Array.toList_zipIdx]
   rw[List.take_zero,ZZ]at this
   exact this
theorem Pg.info256:(Tryz.prog.info? 183).map (fun i=>(i.zero.isSome,i.size,i.bytes))=some (true,256,512):=by kernel_rfl
theorem Pg.runS (w:World) (b:List Int) (hb:b.length=256):(Instr.buildSlice 185 1 #[(0,.agg (Pg.vs b).toArray)]).run Tryz.prog w=.ok (.slice (some ⟨w.heap.size,0,none⟩) 1 1) (w.alloc (.cells (Pg.vs b).toArray 183)):=by
 have hi:=Pg.info256
 cases hie:Tryz.prog.info? 183 with
 | none=>simp[hie]at hi
 | some ie =>
   simp only[hie,Zn,Zg,YN]at hi
   obtain⟨z,hz⟩:=Option.isSome_iff_exists.1 hi.1
   refine run_buildSlice w _ _ 1 _ _ ie z Tryz.underlying185 hie hz (by rw[hi.2.1];decide) (by rw[hi.2.1];decide) ?_
   rw[hi.2.1]
   exact Pg.fill_one 256 _ _ (by unfold Pg.vs;simp[hb]) (by simp)
theorem Pg.runZ (w:World):(Instr.build 183 #[]).run Tryz.prog w=.ok (.agg (Pg.vs Pg.zeros).toArray) w:=by kernel_rfl
theorem Pg.runP (w:World) (v:Addr):(Instr.build 187 #[(1,Value.slice (some v) 1 1)]).run Tryz.prog w=.ok (.agg (Pg.vs (List.replicate 4352 0)++[Value.slice (some v) 1 1]).toArray) w:=by kernel_rfl
theorem Pg.zeroIs:∃(i:TypeInfo) (z:Value),Tryz.prog.info? 183=some i∧i.zero=some z∧i.size=256∧i.bytes=512∧z.cells.size=256:=by
 have hi:(Tryz.prog.info? 183).map (fun i=>(i.zero.map fun z=>z.cells.size,i.size,i.bytes))=some (some 256,256,512):=by kernel_rfl
 cases hie:Tryz.prog.info? 183 with
 | none=>simp[hie]at hi
 | some ie =>
   simp only[hie,Zn,Zg,YN]at hi
   obtain⟨h1,h2,h3⟩:=hi
   cases hz:ie.zero with
   | none=>simp[hz]at h1
   | some z=>exact⟨ie,z,rfl,hz,h2,h3,by simpa [hz] using h1⟩
theorem Pg.run_field (g:Nat) (w:World):(Instr.fieldAt 187 (.pointer (some ⟨g,0,none⟩)) 1).run Tryz.prog w=.ok (.pointer (some ⟨g,4352,none⟩)) w:=by
 have hu:=Tryz.underlying187
 go_simp
theorem Pg.run_store1 (w:World) (b o:Nat) (u:Value) (A:Option Addr) (n c:Nat) (h:w.cell? ⟨b,o,none⟩=some u) (hf:w.frozen? ⟨b,o,none⟩=false):(Instr.storeAt 185 (.pointer (some ⟨b,o,none⟩)) (.slice A n c)).run Tryz.prog w=.ok () (w.setCell ⟨b,o,none⟩ (.slice A n c)):=by
 have hu:=Tryz.underlying185
 go_simp
theorem Pg.own_notmap {W:World} {base n pb:Nat} {e:TypeId} {size:Nat} {v:Value} {xs:List Value} {bl:List (List Int)} (h:W.ownsRow base e size v n xs) (hp:Pg.Pl W pb bl):v.ownBlock≠some pb:=by
 intro hv
 rcases h.2 with ⟨rfl,_⟩|⟨g,cap,aa,rfl,_,hg,_⟩
 · simp[Value.ownBlock]at hv
 · simp only[Value.ownBlock,Zg]at hv
   exact hp.notAt hg hv.symm
theorem Pg.run_load1 (w:World) (b o:Nat) (v:Value) (h:w.cell? ⟨b,o,none⟩=some v):(Instr.loadAt 185 (.pointer (some ⟨b,o,none⟩))).run Tryz.prog w=.ok v w:=by
 have hu:=Tryz.underlying185
 go_simp
theorem Pg.run_more (base:Nat) (W:World) (v:Value) (n:Nat) (xs:List Value) (b:List Int) (hb:b.length=256) (aa:W.ownsRow base 183 256 v n xs) (ae:base≤W.heap.size) (hn:n≤100000) (ty:TypeId) :
 ∃v' w',(Builtin.append_ #[185,185] ty #[v,.slice (some ⟨W.heap.size,0,none⟩) 1 1]).run Tryz.prog (W.alloc (.cells (Pg.vs b).toArray 183))=.ok v' w' ∧
  w'.ownsRow base 183 256 v' (n+1) (xs++Pg.vs b)∧W.grownBy w' v.ownBlock:=by
 obtain⟨i,z,h1,h2,h3,h4,h5⟩:=Pg.zeroIs
 have hl:(Pg.vs b).length=1*256:=by unfold Pg.vs;rw[List.length_map,hb]
 obtain⟨v',w',g1,g2,g3,_⟩:=run_append_own (P:=Tryz.prog) (w:=W.alloc (.cells (Pg.vs b).toArray 183)) base 185 ty 183 i z 256 512 Tryz.underlying185 h1 h2 h3 h4 h5 (by decide) v n xs (aa.alloc _) ⟨W.heap.size,0,none⟩ 1 1 (Pg.vs b) hl
  (fun j u hu=>by
    have hj:=Rw.At.new W 183 (Pg.vs b)
    have:(⟨W.heap.size,0,none⟩:Addr).add j=⟨W.heap.size,0+j,none⟩:=by unfold Addr.add;split <;> simp_all
    rw[this,Z2]
    exact hj.cell j hu) (fun u hu=>by unfold Pg.vs at hu;obtain⟨y,_,rfl⟩:=List.mem_map.1 hu;rfl) (by simp only[maxLen];omega) (by omega) (by simp;omega)
 exact⟨v',w',g1,g2,Rw.grown_trans (Rw.grown_row (Yi W _ none)) g3⟩
end Go.Proofs.YtbeakahjbkdeiaaGreatDoor
