/- The layer rows: a reader's line, by walking its text. -/
import Derived.Test.YtikiplbhlohmdaaGreatDoorFiRef2
set_option linter.unusedVariables false
set_option linter.unusedSimpArgs false
namespace Go.Proofs.YtikiplbhlohmdaaGreatDoor
open Go.RowKit
def Rw.Laid (w:World):Prop:=Fi.Laid w∧Fi.LaidN w
theorem Rw.Laid.next {w w':World} (h:Rw.Laid w) (hb:Below w.heap.size w w'):Rw.Laid w':=⟨h.1.below hb,h.2.next hb⟩
theorem Rw.infoRow:(Tryz.prog.info? 113).map (fun i=>(i.zero,i.size,i.bytes))=some (some (.agg #[.int .i32 0,.int .i64 0,.slice none 0 0]),3,40):=by kernel_rfl
def Rw.Rd (w:World) (b:Nat) (st:Rw.St):Prop :=
 ∃v ads,Rw.At w b 153 [v,.int .i32 st.2.1,.string ⟨st.2.2.toArray⟩]∧w.ownsRow (b+1) 113 3 v st.1.length (Rw.fl st.1 ads)∧ads.length=st.1.length∧Rw.Maps w st.1 ads
def Rw.RetLine (b:Nat) (st:Rw.St) (w:World) (e:Ending) (w':World):Prop:=e=.returned (.string ⟨#[]⟩)∧Rw.Rd w' b st∧Below b w w'
theorem Rw.step_some {st st':Rw.St} {l:List UInt8} (h:Rw.step st l=some st'):∃r o,Rw.row (Fi.spl 59 [] l)=some r∧st.2.1<r.1∧Rw.ranged st.2.2 ((Fi.spl 59 [] l).getD 1 []) (Rw.quiet r)=some o∧(C.isC r.1=true∨Rw.quiet r=true) ∧
 st'=(if Rw.quiet r then st.1 else st.1++[r],r.1,o):=by
 unfold Rw.step at h
 rcases hr:Rw.row (Fi.spl 59 [] l) with _|r
 · rw[hr]at h;cases h
 rw[hr,Zr]at h
 split at h
 · rename_i h1
   rcases ho:Rw.ranged st.2.2 ((Fi.spl 59 [] l).getD 1 []) (Rw.quiet r) with _|o
   · rw[ho]at h;cases h
   rw[ho,Zr]at h
   split at h
   · rename_i h2
     simp only[Zi]at h
     exact⟨r,o,rfl,h1,ho,h2,h.symm⟩
   · cases h
 · cases h
set_option maxRecDepth 100000 in
set_option maxHeartbeats 4000000 in
theorem Rw.line_any (b:Nat) (st st':Rw.St) (l:ByteArray) (w0 w:World) (hL:Rw.Laid w0) (h0:w0.heap.size≤b) (eg:Below w0.heap.size w0 w) (hI:Rw.Rd w b st) (hl:l.size≤1000) (hn:st.1.length≤100000)
 (dp:Rw.step st l.data.toList=some st'):Calls Tryz.prog 85 #[.pointer (some ⟨b,0,none⟩),.string l] w (Rw.RetLine b st' w):=by
 obtain⟨r,o,ba,dl,bx,hq,rfl⟩:=Rw.step_some dp
 obtain⟨out,code,was⟩:=st
 obtain⟨v,ads,bs,bp,has,ay⟩:=hI
 obtain⟨c,k,m⟩:=r
 simp only at dl bx hq bs bp has ay hn ⊢
 have dv:=hL.next eg
 have hS:=Fi.split_any l (by omega) w dv.1
 obtain⟨f0,f1,f3,f5,dw,i0,i1,i3,i5,hne,cu,cy,eb⟩:=Rw.row_some ba
 have ak:∀x∈Fi.spl 59 [] l.data.toList,x.length≤1000:=fun x hx=>by
  have:=Fi.spl_sizes 59 l.data.toList [] x hx
  simp at this
  omega
 have ew:f1.length≤1000:=ak f1 (Zk i1)
 have dm:(Fi.spl 59 [] l.data.toList).getD 1 []=f1:=by rw[Xi,i1];rfl
 rw[dm]at bx
 obtain⟨F,hF⟩:∃F,Fi.spl 59 [] l.data.toList=F:=⟨_,rfl⟩
 rw[hF]at ba dw i1 ak hS
 obtain⟨j0,hj0,ek,eh,ec⟩:=Z7 Rw.infoRow
 obtain⟨nm,cr⟩:∃nm:ByteArray,⟨f1.toArray⟩=nm:=⟨_,rfl⟩
 have cz:nm.size≤1000000:=by rw[←cr];show f1.toArray.size≤_;simp;omega
 have cb:nm.data.toList=f1:=by rw[←cr]
 obtain⟨wb,ct⟩:∃wb:ByteArray,⟨was.toArray⟩=wb:=⟨_,rfl⟩
 have b8:wb.data.toList=was:=by rw[←ct]
 rw[←cb,←b8]at bx
 rw[ct]at bs
 have ey:decide (c≤code)=false:=Zo (by omega)
 have ee:=Rw.quiet_any c k
 obtain⟨bc,c7⟩:∃x,C.isC c=x:=⟨_,rfl⟩
 obtain⟨bq,cj⟩:∃x,Rw.quiet (c,k,m)=x:=⟨_,rfl⟩
 have b3:(decide (k=0)&&decide (m.length=0))=bq:=cj
 rw[c7,cj]at hq
 rw[cj]at bx ⊢
 obtain⟨out',az⟩:∃x,(if bq=true then out else out++[(c,k,m)])=x:=⟨_,rfl⟩
 rw[az]
 have HO:=Za az
 have dx:=Za b3
 have hU:=C.utfis_any c
 rw[c7]at hU
 have HQ:=Za hq
 clear c7 cj b3 hq az
 have c8:=Za ba
 have ej:=Za bx
 have cg:=Za ak
 clear dp cu cy eb i0 i3 i5 ba bx ak hne dm hF cb b8 ct dl
 go_enter Tryz.func85,Tryz.ntmps85
 go_wp2_with fail
 refine hS.mono ?_
 rintro e w1 ⟨A,n,cp,rfl,ef,hA,dh⟩
 obtain rfl:n=15:=by omega
 have hR:=Rw.row_any A 15 cp w1.heap.size F (c,k,m) w1 c8.out dw (Zb _) hA (fun x hx=>by have:=cg.out x hx;omega) (dv.next dh).2
 obtain⟨ab,ao,rfl,bl,dr⟩:=hA (by rw[Zg];omega)
 have cv:=dr 1 (by rw[Zg];omega)
 rw[Zu,i1,Zt,cr]at cv
 clear dr hS i1 ef cr
 have b1:=Za dh
 clear dh
 go_wp2_with fail
 refine hR.mono ?_
 rintro e w2 ⟨Am,cm,rfl,c1,cq⟩
 clear hR
 simp only at c1
 have b2:=((bcell cq).1 _ _ bl).trans cv
 have bb:ab<w2.heap.size:=Zf bl cq.size
 have au:Below w.heap.size w w2:=b1.out.trans (cq.mono b1.out.size)
 have br:=bs.below au
 have bj:=own_below bp au (Zb _)
 have a1:=ay.below au
 obtain⟨d1,d2,d3,d4,d5,d6⟩:=br.three
 have ep:b<w2.heap.size:=br.lt
 have dz:b<w.heap.size:=bs.lt
 clear cv bl cq bs bp ay
 have dn:=Za au
 have cd:=Za bj
 have cc:=Za a1
 have er:=Za c1
 clear au bj a1 c1
 go_wp2_with fail
 go_quiet (fail)
 go_wp2_with fail
 obtain⟨w3,ck⟩:∃w3,(w2.alloc (.cells #[.int .i32 c,.int .i64 k,.slice Am m.length cm] 113)).drewN nq=w3:=⟨_,rfl⟩
 have bk:Below w2.heap.size w2 w3:=by rw[←ck];exact ((Zd w2.heap.size w2).alloc (Zb _) _).trans ((Fi.drewN_below _ _).mono (by simp))
 have di:Rw.At w3 w2.heap.size 113 [.int .i32 c,.int .i64 k,.slice Am m.length cm]:=by rw[←ck];exact (Rw.At.new w2 113 [.int .i32 c,.int .i64 k,.slice Am m.length cm]).below (Fi.drewN_below _ _)
 have cw:=br.below bk
 obtain⟨m1,m2,m3,m4,m5,m6⟩:=di.three
 have ed:=((bcell bk).1 _ _ bb).trans b2
 have eu:w2.heap.size<w3.heap.size:=di.lt
 have hG:=fun W bs=>Rw.ranged_any b v code wb nm c k Am m.length cm o W (Rw.own_one cd.out) bs cz (by rw[dx.out];exact ej.out)
 have ap:Rw.At w3.drew b 153 [v,.int .i32 code,.string wb]:=cw
 rw[ck]
 clear ck d1 d2 d3 d4 d5 d6 b2 bb
 go_region_with (go_at_call 112;refine (hG _ ap).mono ?_;rintro e w4 ⟨rfl,ai,bw⟩)
 all_goals
  have cn:Rw.At w4 w2.heap.size 113 [.int .i32 c,.int .i64 k,.slice Am m.length cm]:=(show Rw.At w3.drew _ _ _ from di).grown bw (by simp;omega)
  have bi:Below w.heap.size w w3.drew:=dn.out.trans ((show Below w2.heap.size w2 w3.drew from bk.drew).mono dn.out.size)
  have bh:=Rw.own_grown (own_below cd.out (show Below w2.heap.size w2 w3.drew from bk.drew) (Zb _)) (ZS b) bw
  have ax:=(cc.out.below (show Below w2.heap.size w2 w3.drew from bk.drew)).grown bw (by intro q hq;cases hq;exact ap.not (by decide))
  have ch:=(er.out.below (show Below w2.heap.size w2 w3.drew from bk.drew)).grown bw (by intro q hq;cases hq;exact ap.not (by decide))
  have cf:Below b w w4:=(bi.mono (Ya dz)).trans (Rw.below_grown bw (by show b≤w3.drew.heap.size;have:=bk.size;simp;omega) (by intro q hq;cases hq;exact Zb _))
  have ea:w2.heap.size<w4.heap.size:=cn.lt
  have b5:=ee Am m.length cm
  rw[dx.out]at b5
  obtain⟨p1,p2,p3,p4,p5,p6⟩:=ai.three
  obtain⟨r1,r2,r3,r4,r5,r6⟩:=cn.three
  have a6:=Za bh
  have aj:=Za ax
  have df:=Za ch
  have bt:=Za cf
  clear bh ax ch cf bi bw m1 m2 m3 m4 m5 m6 ed
  rcases bq with _|_
  · obtain rfl:bc=true:=by
     rcases HQ.out with h|h
     · exact h
     · cases h
    go_wp2_with (first|(go_at_call 52;refine (hU _).mono ?_;rintro e w5 ⟨rfl,rfl⟩)|fail)
    refine (b5 _).mono ?_
    rintro e w5 ⟨rfl,ag⟩
    have af:=(ai.set 1 (.int .i32 c)).below ag
    simp only[ZF,ZD]at af
    have dy:=(cn.other (show w2.heap.size≠b by omega) (.int .i32 c) (i:=1)).below ag
    have ae:=own_below (Rw.own_grown a6.out (ZS b) (Rw.grown_set b 1 (.int .i32 c))) ag (Zb _)
    have aa:=(aj.out.grown (Rw.grown_set b 1 (.int .i32 c)) (by intro q hq;cases hq;exact ai.not (by decide))).below ag
    have b4:=(df.out.grown (Rw.grown_set b 1 (.int .i32 c)) (by intro q hq;cases hq;exact ai.not (by decide))).below ag
    have ez:w4.heap.size≤w5.heap.size:=Zh (KeepsWalks.setCell w4 ⟨b,1,none⟩ (.int .i32 c)).size ag.size
    have ah:Below b w w5:=(bt.out.setCell (p:=⟨b,1,none⟩) (Zb _) (.int .i32 c)).trans (ag.mono (by have:=(KeepsWalks.setCell w4 ⟨b,1,none⟩ (.int .i32 c)).size;omega))
    obtain⟨s1,s2,s3,s4,s5,s6⟩:=af.three
    obtain⟨t1,t2,t3,t4,t5,t6⟩:=dy.three
    have et:w2.heap.size<w5.heap.size:=dy.lt
    have dc:b<w5.heap.size:=af.lt
    have bg:=(ae.alloc (.cells #[.int .i32 c,.int .i64 k,.slice Am m.length cm] 113)).drew
    have dk:=Za (Sl.lit (w:=(w5.alloc (.cells #[.int .i32 c,.int .i64 k,.slice Am m.length cm] 113)).drew) (A:=some ⟨w5.heap.size,0,none⟩) (xs:=[.int .i32 c,.int .i64 k,.slice Am m.length cm]) rfl 113 (0,0) (ZP w5 _))
    have hne:=Rw.own_ne ae b (ZS b)
    have eo:b+1≤(w5.alloc (.cells #[.int .i32 c,.int .i64 k,.slice Am m.length cm] 113)).drew.heap.size:=by simp;omega
    have b9:Rw.At (w5.alloc (.cells #[.int .i32 c,.int .i64 k,.slice Am m.length cm] 113)).drew b 153 [v,.int .i32 c,.string ⟨o.toArray⟩]:=af.alloc _
    have av:=Za bg
    have bm:=Za aa
    have cx:=Za b4
    have ar:=Za ah
    have ei:=Za hne
    clear ae bg aa b4 ah ag p1 p2 p3 p4 p5 p6 r1 r2 r3 r4 r5 r6 hne
    go_wp2_with fail
    go_region_law ((refine step_appendSl _ (by rfl) _ _ _ (by rfl) (b+1) 113 j0 _ 3 40 Tryz.underlying95 hj0 ek eh ec rfl (by omega) _ out.length _ (by rfl) av.out _ (some ⟨w5.heap.size,0,none⟩) 1 1 [.int .i32 c,.int .i64 k,.slice Am m.length cm] (by rfl) (by rfl) dk.out (by simp[Value.oneCell']) (by simp only[maxLen];omega) (by omega) eo ?_;intro v1 w6 bf en aq;have a7:=b9.grown aq ei.out;obtain⟨z1,z2,z3,z4,z5,z6⟩:=a7.three;obtain⟨A6,c6,rfl⟩:=own_form bf))
    all_goals
     go_wp2_with fail
     go_ret
     have ho:=HO.out
     simp only[ZJ,Ye]at ho
     subst ho
     have bz:Below w5.heap.size w5 (w5.alloc (.cells #[.int .i32 c,.int .i64 k,.slice Am m.length cm] 113)).drew:=((Zd _ _).alloc (Zb _) _).drew
     have e1:=((bm.out.below bz).grown aq (Rw.own_not av.out (by decide))).grown (Rw.grown_set b 0 (.slice A6 (out.length+1) c6)) (by intro q hq;cases hq;exact a7.not (by decide))
     have e2:=((cx.out.below bz).grown aq (Rw.own_not av.out (by decide))).grown (Rw.grown_set b 0 (.slice A6 (out.length+1) c6)) (by intro q hq;cases hq;exact a7.not (by decide))
     have e3:=Rw.own_grown bf (ZS b) (Rw.grown_set b 0 (.slice A6 (out.length+1) c6))
     refine⟨rfl,⟨.slice A6 (out.length+1) c6,ads++[(Am,cm)],a7.set 0 _,?_,by simp[has],e1.app has e2⟩,?_⟩
     · show World.ownsRow _ _ _ _ _ (out++[(c,k,m)]).length (Rw.fl (out++[(c,k,m)]) (ads++[(Am,cm)]))
       rw[Rw.fl_app out ads (c,k,m) (Am,cm) has,Ze]
       exact e3
     · exact ((ar.out.trans (bz.mono (Ya dc))).trans (en.mono (ZZ b))).setCell (p:=⟨b,0,none⟩) (Zb _) _
  · have ho:=HO.out
    simp only[Yt]at ho
    subst ho
    have HT:=HQ.out
    rcases bc with _|_
    · go_wp2_with (first|(go_at_call 52;refine (hU _).mono ?_;rintro e w5 ⟨rfl,rfl⟩)|fail)
      refine (b5 _).mono ?_
      rintro e du ⟨rfl,bu⟩
      have aw:=ai.below bu
      have b7:=cn.below bu
      have bo:=Za (own_below a6.out bu (Zb _))
      have a8:=Za (aj.out.below bu)
      have b6:=Za (bt.out.trans (bu.mono (Ya ai.lt)))
      have dt:w2.heap.size<du.heap.size:=b7.lt
      clear p1 p2 p3 p4 p5 p6 r1 r2 r3 r4 r5 r6 bu
      obtain⟨p1,p2,p3,p4,p5,p6⟩:=aw.three
      obtain⟨r1,r2,r3,r4,r5,r6⟩:=b7.three
      go_wp2_with fail
      refine (b5 _).mono ?_
      rintro e w5 ⟨rfl,ag⟩
      have af:=(aw.set 1 (.int .i32 c)).below ag
      simp only[ZF,ZD]at af
      have ae:=own_below (Rw.own_grown bo.out (ZS b) (Rw.grown_set b 1 (.int .i32 c))) ag (Zb _)
      have aa:=(a8.out.grown (Rw.grown_set b 1 (.int .i32 c)) (by intro q hq;cases hq;exact aw.not (by decide))).below ag
      have ah:Below b w w5:=(b6.out.setCell (p:=⟨b,1,none⟩) (Zb _) (.int .i32 c)).trans (ag.mono (by have:=(KeepsWalks.setCell du ⟨b,1,none⟩ (.int .i32 c)).size;omega))
      have bn:=Za (show Rw.Rd w5 b (out,c,o) from ⟨v,ads,af,ae,has,aa⟩)
      have ar:=Za ah
      clear af ae aa ah ag
      go_wp2_with fail
      go_ret
      exact⟨rfl,bn.out,ar.out⟩
    · go_wp2_with (first|(go_at_call 52;refine (hU _).mono ?_;rintro e w5 ⟨rfl,rfl⟩)|fail)
      refine (b5 _).mono ?_
      rintro e w5 ⟨rfl,ag⟩
      have af:=(ai.set 1 (.int .i32 c)).below ag
      simp only[ZF,ZD]at af
      have ae:=own_below (Rw.own_grown a6.out (ZS b) (Rw.grown_set b 1 (.int .i32 c))) ag (Zb _)
      have aa:=(aj.out.grown (Rw.grown_set b 1 (.int .i32 c)) (by intro q hq;cases hq;exact ai.not (by decide))).below ag
      have ah:Below b w w5:=(bt.out.setCell (p:=⟨b,1,none⟩) (Zb _) (.int .i32 c)).trans (ag.mono (by have:=(KeepsWalks.setCell w4 ⟨b,1,none⟩ (.int .i32 c)).size;omega))
      have bn:=Za (show Rw.Rd w5 b (out,c,o) from ⟨v,ads,af,ae,has,aa⟩)
      have ar:=Za ah
      clear af ae aa ah ag
      go_wp2_with fail
      go_ret
      exact⟨rfl,bn.out,ar.out⟩
def Bd.At (w:World) (b D:Nat) (bs:List Value):Prop :=
 ∃p v,(p=.pointer none∨p=.pointer (some ⟨b,0,none⟩))∧Rw.At w b 108 [p,v]∧w.ownsRow D 5 1 v bs.length bs
def Bd.Kept (w w':World):Prop:=∀(t:TypeId) (A:Option Addr) (xs:List Value),t≠108→t≠5→Slt w t A xs→Slt w' t A xs
set_option maxHeartbeats 1000000 in
set_option maxRecDepth 100000 in
theorem Bd.write2 (b D:Nat) (bs:List Value) (s:ByteArray) (w:World) (hD:b<D) (bh:D≤w.heap.size) (h:Bd.At w b D bs) (hlen:bs.length+s.size≤140737488355328) :
 Calls Tryz.prog 61 #[.pointer (some ⟨b,0,none⟩),.string s] w fun e w'=>e=.returned (.tuple #[.int .i64 s.size,.nilIface])∧Bd.At w' b D (bs++Lib.strCells s)∧Bd.Kept w w'∧Below b w w':=by
 obtain⟨i0,hi,ay,a6,a8⟩:=Z7 Bd.infoByte
 obtain⟨p,v,hp,aj,ak⟩:=h
 have ap:∀W,W=w→Calls Tryz.prog 93 #[.pointer (some ⟨b,0,none⟩)] W fun e w'=>e=.returned (.tuple #[])∧(w'=w∨w'=w.setCell ⟨b,0,none⟩ (.pointer (some ⟨b,0,none⟩)))∧Rw.At w' b 108 [.pointer (some ⟨b,0,none⟩),v]:=by
  rintro W rfl
  rcases hp with rfl|rfl
  · refine (Bd.check_fresh b W (aj.cell 0 rfl) ?_ (aj.frozen 0)).mono ?_
    · unfold Rw.At at aj
      simp[World.shape?,aj]
    · rintro e w' ⟨rfl,rfl⟩
      exact⟨rfl,.inr rfl,aj.set 0 _⟩
  · refine (Bd.check_used b W (aj.cell 0 rfl)).mono ?_
    rintro e w' ⟨rfl,rfl⟩
    exact⟨rfl,.inl rfl,aj⟩
 have aq:=Za ak
 have bg:=Za aj
 clear ak aj hp
 go_enter Tryz.func61,Tryz.ntmps61
 go_wp2_with fail
 refine (ap _ rfl).mono ?_
 rintro e w1 ⟨rfl,ar,ai⟩
 have ae:w1.ownsRow D 5 1 v bs.length bs:=by
  rcases ar with rfl|rfl
  · exact aq.out
  · exact Rw.own_grown aq.out hD (Rw.grown_set b 0 _)
 have ax:Bd.Kept w w1:=by
  rcases ar with rfl|rfl
  · exact fun t A xs _ _ h=>h
  · exact fun t A xs h1 _ h=>h.setAt bg.out (fun e=>h1 e.symm) 0 _
 have au:Below b w w1:=by
  rcases ar with rfl|rfl
  · exact Zd _ _
  · exact (Zd _ _).setCell (p:=⟨b,0,none⟩) (Zb _) _
 have hne:=Rw.own_ne ae b hD
 have c0:=ai.cell 0 rfl
 have c1:=ai.cell 1 rfl
 have ba:=au.size
 have ah:=Za ae
 have bc:=Za ax
 have a1:=Za au
 have az:=Za hne
 clear ar ae ax au hne ap
 go_wp2_with (at_builtin;refine Lib.wpList_append_own_string _ rfl _ _ 77 9 rfl D 5 i0 Tryz.underlying77 Tryz.underlying9 hi ay a6 a8 _ _ _ rfl ah.out s rfl ?c3 ?c4 ?c5 ?_)
 case c3=>unfold maxLen;omega
 case c4=>omega
 case c5=>omega
 intro v' w2 ag aa _
 have af:=ai.grown aa az.out
 have d0:=af.cell 0 rfl
 have d1:=af.cell 1 rfl
 have f1:=af.frozen 1
 obtain⟨ao,cap,rfl⟩:=own_form ag
 have aw:Bd.Kept w1 w2:=fun t A xs _ h2 h=>h.grown aa (Rw.own_not ah.out (fun e=>h2 e.symm))
 have av:Below b w1 w2:=Rw.below_grown aa (Ya ai.lt) (fun k hk=>by have:=(ah.out.lt k hk).1;omega)
 have a7:=Za aw
 have bb:=Za av
 have bf:=Za ag
 clear aw av ag aa c0 c1
 go_wp2_with fail
 go_ret2
 refine⟨rfl,⟨_,_,.inr rfl,af.set 1 _,?_⟩,?_,(a1.out.trans bb.out).setCell (p:=⟨b,1,none⟩) (Zb _) _⟩
 · have:=Rw.own_grown bf.out hD (Rw.grown_set b 1 (.slice ao (bs.length+s.size) cap))
   rw[Ze,Lib.strCells_length]
   exact this
 · exact fun t A xs h1 h2 h=>(a7.out t A xs h1 h2 (bc.out t A xs h1 h2 h)).setAt af (fun e=>h1 e.symm) 1 _
def Ex.btxt (X:List Int):List UInt8:=X.flatMap fun c=>Fi.text c.toNat++[10]
theorem Ex.btxt_snoc (X:List Int) (c:Int):Ex.btxt (X++[c])=Ex.btxt X++(Fi.text c.toNat++[10]):=by simp[Ex.btxt]
theorem Ex.btxt_len:∀(X:List Int),(∀c∈X,0≤c∧c≤1114111)→(Ex.btxt X).length≤7*X.length
 | [],_=>by simp[Ex.btxt]
 | c::X,h=>by
   have h1:=Fi.text_le c.toNat (by have:=(h c Zv).2;omega)
   have h2:=Ex.btxt_len X fun d hd=>h d (Zx _ hd)
   unfold Ex.btxt at h2 ⊢
   rw[Xn]
   simp only[Ze,ZI,Z6]
   omega
theorem Ex.strip_text (n:Nat):Fi.strip (Fi.text n)=Fi.text n:=by
 obtain⟨x,m,y,h1,h2,h3,h4⟩:=Ex.text_ends n
 unfold Fi.strip
 rw[Ex.cut_miss _ (Ex.text_no35 n)]
 have:=Ex.trim_pad 0 (Fi.text n) x y m h1 h2 h3 h4 0
 simpa using this
theorem Ex.steps_texts:∀(l:List Int) (seen:List Int),(∀c∈l,C.isC c=true)→l.Nodup→(∀c∈l,c∉seen)→Ex.steps seen (l.map fun c=>Fi.text c.toNat)=some (seen++l)
 | [],seen,_,_,_=>by simp[Ex.steps]
 | c::l,seen,h1,h2,h3=>by
   have hc:=h1 c Zv
   have aa:0≤c∧c≤1114111:=by
    unfold C.isC at hc
    have:=Yg hc
    omega
   have hl:Ex.line seen (Fi.text c.toNat)=some (seen++[c]):=by
    unfold Ex.line
    rw[Ex.strip_text,Zl (Rw.text_ne _),Fi.hex_text _ (by omega),Zr,Rw.nat_cast aa.1,Zp ⟨hc,h3 c Zv⟩]
   rw[ZT,Ex.steps,hl,Zr,Ex.steps_texts l (seen++[c]) (fun d hd=>h1 d (Zx _ hd)) (List.nodup_cons.1 h2).2 (fun d hd hm=>by
    rcases List.mem_append.1 hm with h|h
    · exact h3 d (Zx _ hd) h
    · rw[ZA]at h
      subst h
      exact (List.nodup_cons.1 h2).1 hd)]
   simp
theorem Ex.parse_btxt (l:List Int) (h1:∀c∈l,C.isC c=true) (h2:l.Nodup) (hn:l.length≤1000):Ex.parse (Ex.btxt l)=some l:=by
 have hb:∀c∈l,0≤c∧c≤1114111:=fun c hc=>by
  have:=h1 c hc
  unfold C.isC at this
  have:=Yg this
  omega
 have ae:∀x∈l.map (fun c=>Fi.text c.toNat),Rw.okl x=true:=by
  intro x hx
  obtain⟨c,hc,rfl⟩:=List.mem_map.1 hx
  have:=Fi.text_le c.toNat (by have:=(hb c hc).2;omega)
  exact Ex.ok_of (by omega) fun b af=>by have:=Rw.text_bytes _ b af;omega
 have aa:Rw.lns [] (Ex.btxt l)=l.map fun c=>Fi.text c.toNat:=by
  have:=Rw.lns_text (l.map fun c=>Fi.text c.toNat) fun x hx=>Ex.ok_no (ae x hx)
  rw[List.flatMap_map]at this
  exact this
 unfold Ex.parse
 rw[aa,Zp ⟨by rw[Yh];exact ae,by simp;omega⟩,Ex.steps_texts l [] h1 h2 (fun c _=>by simp)]
 simp
set_option maxRecDepth 100000 in
set_option maxHeartbeats 4000000 in
theorem Ex.text_any (A:Option Addr) (c n:Nat) (S X:List Int) (w:World) (hn:S.length=n) (b5:n≤1000) (bu:C.ok S) (hX:C.all1 (C.rngs S)=X) (bj:∀c∈X,C.isC c=true) (bw:X.length≤1000)
 (hA:Slt w 21 A (S.map (Value.int .i32))) (hL:Fi.Laid w) :
 Calls Tryz.prog 65 #[.agg #[.slice A n c]] w fun e w'=>e=.returned (.string ⟨(Ex.btxt X).toArray⟩)∧Below w.heap.size w w':=by
 have bk:∀c∈X,0≤c∧c≤1114111:=fun c hc=>by
  have:=bj c hc
  unfold C.isC at this
  have:=Yg this
  omega
 obtain⟨wa,ak⟩:∃wa,(w.alloc (.cells #[.slice A n c] 100)).alloc (.cells #[.pointer none,.slice none 0 0] 108)=wa:=⟨_,rfl⟩
 have a1:Below w.heap.size w wa:=by rw[←ak];exact ((Zd _ _).alloc (Zb _) _).alloc (by simp) _
 have aq:Rw.At wa w.heap.size 100 [.slice A n c]:=by rw[←ak];exact (Rw.At.new w 100 [.slice A n c]).alloc _
 have ai:Rw.At wa (w.heap.size+1) 108 [.pointer none,.slice none 0 0]:=by
  have h:=Rw.At.new (w.alloc (.cells #[.slice A n c] 100)) 108 [.pointer none,.slice none 0 0]
  rw[ZH]at h
  rw[←ak]
  exact h
 have bn:w.heap.size+1<wa.heap.size:=ai.lt
 have au:=C.setchars_any A c n wa.heap.size S wa hn (by omega) bu (Zb _) (hA.below a1).sl
 rw[hX]at au
 obtain⟨m,hm⟩:∃m,X.length=m:=⟨_,rfl⟩
 unfold C.RetRunes at au
 rw[hm]at au bw
 have br:=Za ak
 have HM:=Za hm
 have bg:=Za bk
 have bh:=Za a1
 have HL:=Za hL
 have z0:=aq.cell 0 rfl
 clear ak hm bk a1 hL hA hX bj hn
 go_enter Tryz.func65,Tryz.ntmps65
 go_upto_region 2 with (fail)
 rw[br.out]
 go_wp2_with fail
 refine au.mono ?_
 rintro e w2 ⟨A5,c5,rfl,ag,ax⟩
 have a6:Bd.At w2 (w.heap.size+1) w2.heap.size []:=⟨_,_,.inl rfl,ai.below ax,ZC _ _ _ _⟩
 have b1:=Za (Slt.of_own ag)
 have bt:=Za (bh.out.trans (ax.mono bh.out.size))
 have bq:w.heap.size+1<w2.heap.size:=Zf bn ax.size
 clear ag ax au aq ai z0
 go_wp2_with fail
 go_loopw [5,9] (fun _ i wr=>∃k:Nat,k≤m∧i=.int .i64 k∧Bd.At wr (w.heap.size+1) w2.heap.size (Lib.byteCells (Ex.btxt (X.take k)))∧Slt wr 21 A5 (X.map (Value.int .i32))∧Below (w.heap.size+1) w2 wr) (fun _ i _=>m-(intOf i).toNat)
 case atStart=>exact⟨0,ZE _,rfl,a6,b1.out,Zd _ _⟩
 case round =>
  obtain⟨k,hk,rfl,aw,hS,ae⟩:=hrel
  have bl:w2.heap.size≤wr.heap.size:=ae.size
  have az:Below w.heap.size w wr:=bt.out.trans (ae.mono (ZZ _))
  by_cases hlt:k<m
  · obtain⟨x,hx⟩:∃x,X[k]?=some x:=⟨_,Zc (by rw[HM.out];exact hlt)⟩
    have hxb:=bg.out x (Zk hx)
    obtain⟨ab,ao,rfl,b4,bc⟩:=hS.sl (by rw[Zg,HM.out];omega)
    have hc:=bc k (by rw[Zg,HM.out];exact hlt)
    rw[Zu,hx,Zt]at hc
    obtain⟨xn,rfl⟩:∃xn:Nat,x=xn:=⟨x.toNat,by omega⟩
    have hT:=Fi.text_any xn (by omega) wr (HL.out.below az)
    have af:Ex.btxt (X.take (k+1))=Ex.btxt (X.take k)++(Fi.text xn++[10]):=by
     rw[Zw,hx]
     show Ex.btxt (X.take k++[(xn:Int)])=_
     rw[Ex.btxt_snoc,YX]
    have bm:=Ex.btxt_len (X.take k) fun d hd=>bg.out d (Yf hd)
    have bo:(X.take k).length≤k:=Xs _ _
    obtain⟨tx,ay⟩:∃y:ByteArray,⟨(Fi.text xn).toArray⟩=y:=⟨_,rfl⟩
    rw[ay]at hT
    have bs:tx.size≤6:=by
     rw[←ay]
     show (Fi.text xn).toArray.size≤6
     have:=Fi.text_le xn (by omega)
     simpa using this
    have s1:(⟨#[10]⟩:ByteArray).size=1:=rfl
    have c1:¬9223372036854775807<tx.size+(⟨#[10]⟩:ByteArray).size:=by omega
    have aa:Lib.byteCells (Ex.btxt (X.take (k+1)))=Lib.byteCells (Ex.btxt (X.take k))++Lib.strCells (tx++⟨#[10]⟩):=by
     rw[af,←ay,show (⟨#[10]⟩:ByteArray)=⟨[10].toArray⟩ from rfl,Fi.ba_app]
     unfold Lib.byteCells Lib.strCells
     simp
    have kI:(k:Int)<m:=by omega
    have HC:=Za aa
    have b2:=Za aw
    have HS:=Za hS
    have a8:=Za ae
    have ah:(Lib.byteCells (Ex.btxt (X.take k))).length+7≤140737488355328:=by
     have:(Lib.byteCells (Ex.btxt (X.take k))).length=(Ex.btxt (X.take k)).length:=by unfold Lib.byteCells;simp
     omega
    have bx:=Za ah
    clear bc hx af bm bo ay aa aw hS ae ah hxb az
    go_wp2_with fail
    refine hT.mono ?_
    rintro e w3 ⟨rfl,aj⟩
    have ap:Bd.At w3 (w.heap.size+1) w2.heap.size (Lib.byteCells (Ex.btxt (X.take k))):=by
     obtain⟨p,v,h1,h2,h3⟩:=b2.out
     exact⟨p,v,h1,h2.below aj,own_below h3 aj (Zb _)⟩
    have hW:=Bd.write2 (w.heap.size+1) w2.heap.size (Lib.byteCells (Ex.btxt (X.take k))) (tx++⟨#[10]⟩) w3 bq (Zh bl aj.size) ap (by rw[ZR];have:=bx.out;omega)
    have bp:=Za (HS.out.below aj)
    have bz:=Za (a8.out.trans (aj.mono (by omega)))
    clear aj hT ap
    go_wp2_with fail
    refine hW.mono ?_
    rintro e w4 ⟨rfl,ar,bi,av⟩
    have ba:=Za ar
    have b3:=Za (bi _ _ _ (by decide) (by decide) bp.out)
    have a7:=Za (bz.out.trans av)
    clear ar bi av hW
    go_wp2_with fail
    exact⟨⟨k+1,by omega,by go_num,by rw[HC.out];exact ba.out,b3.out,a7.out⟩,by simp[intOf];omega⟩
  · obtain rfl:k=m:=by omega
    have kI:¬(k:Int)<k:=by omega
    rw[Zj (by rw[HM.out];exact Zb _)]at aw
    have bf:Lib.IsBuilder 108 5 (w.heap.size+1) (w.heap.size+1) (Lib.byteCells (Ex.btxt X)) wr:=by
     obtain⟨p,v,h1,h2,h3⟩:=aw
     have h4:Lib.BuilderAt 108 5 (w.heap.size+1) (w.heap.size+1) p (Lib.byteCells (Ex.btxt X)) wr:=⟨Zb _,v,h2,R.own_base h3 (by omega),Rw.own_ne h3 _ (by omega)⟩
     rcases h1 with rfl|rfl
     · exact .inl h4
     · exact .inr h4
    have bb:=Tryz.Builder_String_any (w.heap.size+1) (w.heap.size+1) (Ex.btxt X) wr bf (by omega)
    have HB:=Za az
    clear aw hS ae bf az
    go_wp2_with fail
    refine bb.mono ?_
    rintro e w4 ⟨rfl,av⟩
    have a7:=Za (HB.out.trans (av.mono (ZZ _)))
    clear av bb
    go_wp2_with fail
    go_ret
    exact⟨rfl,a7.out⟩
end Go.Proofs.YtikiplbhlohmdaaGreatDoor
