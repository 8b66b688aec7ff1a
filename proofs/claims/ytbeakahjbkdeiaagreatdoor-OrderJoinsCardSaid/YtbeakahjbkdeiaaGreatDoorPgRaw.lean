/- The layer model: Check, by walking its text. -/
import Derived.Test.YtbeakahjbkdeiaaGreatDoorAl1
import Derived.Test.YtbeakahjbkdeiaaGreatDoorFaCh
import Derived.Test.YtbeakahjbkdeiaaGreatDoorMap
import Derived.Test.YtbeakahjbkdeiaaGreatDoorSlt
import Derived.Laws.Rows
namespace Go.Proofs.YtbeakahjbkdeiaaGreatDoor
open Go.RowKit
set_option linter.unusedSimpArgs false
set_option linter.unusedVariables false
theorem Md.wrong_any (s:ByteArray) (w:World):Calls Tryz.prog 155 #[.string s] w (F.RetCh [(8,0,s)] w):=by
 have HA:=Za (F.at_any 8 0 s w)
 rw[Zs (by decide)]at HA
 go_enter Tryz.func155,Tryz.ntmps155
 go_wp2_with fail
 refine HA.out.mono ?_
 rintro e w1 ⟨q,v,rfl,hl,hq,hb⟩
 go_wp2
 go_ret
 exact⟨q,v,rfl,hl,hq,hb⟩
def Md.err (k:Nat):List (Int × Int × ByteArray):=if k=0 then [] else [(8,0,Md.note k)]
theorem Md.ret_err {k j:Nat} {W w w':World} {e:Ending} (hj:k=j) (h0:j≠0) (h:F.RetCh [(8,0,Md.note j)] W e w') (hb:Below w.heap.size w W):F.RetCh (Md.err k) w e w':=by
 subst hj
 unfold Md.err
 rw[Zs h0]
 obtain⟨q,v,h1,h2,h3,h4⟩:=h
 exact⟨q,v,h1,h2,h3,hb.trans (h4.mono hb.size)⟩
theorem Md.ret_nil {k:Nat} {w w':World} (hk:k=0) (hb:Below w.heap.size w w'):F.RetCh (Md.err k) w (.returned .nilIface) w':=by
 subst hk
 exact⟨[],.nilIface,rfl,rfl,rfl,hb⟩
theorem Md.drop_cons {α:Type} {l:List α} {k:Nat} {x:α} (h:l[k]?=some x):l.drop k=x::l.drop (k+1):=by
 obtain⟨h1,rfl⟩:=List.getElem?_eq_some_iff.1 h
 exact ZS h1
theorem Md.wf32 {x:Int} (h1 : -2147483648≤x) (h2:x≤2147483647):(Lit.int .i32 x).wf=true:=by
 simp only[Lit.wf,Zx,Zp]
 exact⟨Xn (by decide) h1,Xn h2 (by decide)⟩
def Md.pk (x y:Int):Value:=.agg #[.int .i32 x,.int .i32 y]
theorem Md.pk_inj {x y x' y':Int}:Md.pk x y=Md.pk x' y'↔x=x'∧y=y':=by simp[Md.pk]
theorem Md.pairKey:Go.WideMaps.ArrKey Tryz.prog 239 21 2:=⟨Tryz.underlying239,by kernel_rfl,by kernel_rfl,by kernel_rfl⟩
theorem Md.keyed:Go.Maps.Keyed Tryz.prog 239:=Go.Maps.Keyed.of_law Md.pairKey.law
theorem Md.pk_key {x y:Int} (hx : -2147483648≤x∧x≤2147483647) (hy : -2147483648≤y∧y≤2147483647):∃l,keyOf Tryz.prog 239 (Md.pk x y)=some l:=by
 refine Mp.keyArr Md.pairKey Tryz.underlying21 ⟨375-1,by kernel_rfl⟩ [x,y] rfl fun z hz=>?_
 simp only[XO,Y7,or_false]at hz
 rcases hz with rfl|rfl
 · exact Md.wf32 hx.1 hx.2
 · exact Md.wf32 hy.1 hy.2
def Md.Seen (F:Value→Option Value) (seen:List (List Int)):Prop:=∀x y,(F (Md.pk x y)).isSome=seen.contains [x,y]
theorem Md.Seen.look {w:World} {b:Nat} {F:Value→Option Value} {seen:List (List Int)} (h:Mp.Is Tryz.prog 239 w b F) (hs:Md.Seen F seen) {x y:Int} (hx : -2147483648≤x∧x≤2147483647) (hy : -2147483648≤y∧y≤2147483647) :
 ∃v,(Instr.lookup 237 (.map (some b)) (.agg #[.int .i32 x,.int .i32 y]) true).run Tryz.prog w=.ok (.tuple #[v,.bool (seen.contains [x,y])]) w:=by
 obtain⟨l,hl⟩:=Md.pk_key hx hy
 have hz:(zeroValue 21).run Tryz.prog w=.ok (.int .i32 0) w:=by kernel_rfl
 have:=h.look Md.keyed Tryz.underlying237 hz hl true
 rw[Zv rfl,hs x y]at this
 exact⟨_,this⟩
theorem Md.Seen.put {w:World} {b:Nat} {F:Value→Option Value} {seen:List (List Int)} (h:Mp.Is Tryz.prog 239 w b F) (hs:Md.Seen F seen) {x y:Int} (hx : -2147483648≤x∧x≤2147483647) (hy : -2147483648≤y∧y≤2147483647) (v:Value) :
 ∃w' F',(Instr.mapUpdate 237 (.map (some b)) (.agg #[.int .i32 x,.int .i32 y]) v).run Tryz.prog w=.ok () w'∧Mp.Is Tryz.prog 239 w' b F'∧Md.Seen F' (seen++[[x,y]])∧w.grownBy w' (some b):=by
 obtain⟨l,hl⟩:=Md.pk_key hx hy
 obtain⟨F',h1,h2⟩:∃F':Value→Option Value,F' (Md.pk x y)=some v∧∀z,z≠Md.pk x y→F' z=F z:=by
  classical
  exact⟨fun z=>if z=Md.pk x y then some v else F z,by simp,fun z hz=>by simp[hz]⟩
 obtain⟨w',g1,g2,g3⟩:=h.put Md.keyed Tryz.underlying237 hl F' h1 h2
 refine⟨w',F',g1,g2,fun x' y'=>?_,g3⟩
 by_cases e:x'=x∧y'=y
 · obtain⟨rfl,rfl⟩:=e
   rw[h1]
   simp
 · rw[h2 _ (fun e'=>e (Md.pk_inj.1 e')),hs x' y']
   simp
   intro e1 e2
   exact absurd ⟨e1,e2⟩ e
theorem Md.twice_step {T:List Rw.Row} {X:Int→Bool} {seen:List (List Int)} {r:Rw.Row} {l:List Rw.Row} {a:Bool} (h:a=Md.twice T X seen (r::l)) :
 a=if Md.comp T X r=true then (seen.contains r.2.2||Md.twice T X (seen++[r.2.2]) l) else Md.twice T X seen l:=by rw[h,Md.twice]
set_option maxRecDepth 100000 in
set_option maxHeartbeats 4000000 in
theorem Md.check_any (v:Value) (T:List Rw.Row) (S:List Int) (w:World) (ep:T.length≤1000000) (cq:Md.bd T) (ez:∀r∈T,r.2.2.length≤1000000) (h:Md.Is w v T S) (hS:C.srt S) (fe:S.length≤1000000) :
 Calls Tryz.prog 118 #[v] w (F.RetCh (Md.err (Md.chk T (C.mem S))) w):=by
 obtain⟨A,c,XA,xc,rfl,h2,hX⟩:=id h
 obtain⟨xn,dt⟩:∃k,S.length=k:=⟨_,rfl⟩
 obtain⟨n,hn⟩:∃k,T.length=k:=⟨_,rfl⟩
 have dl:=Za h
 rw[hn,dt]at dl ⊢
 obtain⟨res,bo⟩:∃k,Md.chk T (C.mem S)=k:=⟨_,rfl⟩
 rw[bo]
 rw[hn]at ep
 have cw:Below w.heap.size w (w.alloc (.cells #[.slice A n c,.slice XA xn xc] 120)):=(Zd _ _).alloc (Zb _) _
 have ch:Rw.At (w.alloc (.cells #[.slice A n c,.slice XA xn xc] 120)) w.heap.size 120 [.slice A n c,.slice XA xn xc]:=Rw.At.new w 120 [.slice A n c,.slice XA xn xc]
 obtain⟨wa,dp⟩:∃wa,w.alloc (.cells #[.slice A n c,.slice XA xn xc] 120)=wa:=⟨_,rfl⟩
 rw[dp]at cw ch
 have b7:=h2.below cw
 have z0:=ch.cell 0 rfl
 have z1:=ch.cell 1 rfl
 have fy:=Za dp
 have ah:=Za cw
 have fj:=Za ch
 have b1:=Za b7
 have HN:=Za hn
 have gh:=Za dt
 have ax:=Za bo
 have cu:=Za cq
 have df:=Za ez
 have ft:=Za hS
 clear dp cw ch b7 hn dt bo cq ez h h2 hX hS
 unfold Md.tv at *
 go_enter Tryz.func118,Tryz.ntmps118
 go_upto_region 1 with (fail)
 rw[fy.out]
 go_wp2_with fail
 go_loopw [3,20] (fun v3 i wr=>∃(k:Nat) (last:Int),k≤n∧i=.int .i64 k∧v3=.int .i32 last∧(-2147483648≤last∧last≤2147483647)∧Md.rowsBad (-1) T=Md.rowsBad last (T.drop k)∧Below wa.heap.size wa wr) (fun _ i _=>n-(intOf i).toNat)
 case atStart=>exact⟨0,-1,Zz _,rfl,rfl,by omega,rfl,Zd _ _⟩
 case round =>
  obtain⟨k,last,hk,rfl,rfl,ck,ag,aw⟩:=hrel
  have aa:=fj.out.below aw
  have z0:=aa.cell 0 rfl
  have z1:=aa.cell 1 rfl
  have b8:=Za ag
  have cd:=Za aw
  have cy:=Za aa
  clear ag aa
  by_cases hlt:k<n
  · obtain⟨r,hr⟩:∃r,T[k]?=some r:=⟨_,Zc (by rw[HN.out];exact hlt)⟩
    have ay:=Zk hr
    have ag:=cu.out r ay
    obtain⟨b,o,a,b6,hb,c0,c1,c2,bl⟩:=(b1.out.below aw).row hr
    have aj:Below wr.heap.size wr (wr.alloc (.cells #[.int .i32 r.1,.int .i64 r.2.1,.slice a.1 r.2.2.length a.2] 103)):=(Zd _ _).alloc (Zb _) _
    have bt:=Za (Md.row_any r a.1 a.2 last (wr.alloc (.cells #[.int .i32 r.1,.int .i64 r.2.1,.slice a.1 r.2.2.length a.2] 103)) ag.1 ck ag.2 (df.out r ay) (bl.below aj aj.size))
    have af:=Rw.At.new wr 103 [.int .i32 r.1,.int .i64 r.2.1,.slice a.1 r.2.2.length a.2]
    have bu:=Za af
    have cb:=Za (aw.trans (aj.mono aw.size))
    have hd:=Md.drop_cons hr
    have a8:=b8.out
    rw[hd,Md.rowsBad]at a8
    have cz:=Md.bad_le last r
    obtain⟨bd,cq⟩:∃k,Md.bad last r=k:=⟨_,rfl⟩
    rw[cq]at a8 bt cz
    have bb:=Za a8
    have ed:(k:Int)<n:=by omega
    have eh:(0:Int)≤k:=by omega
    subst b6
    unfold Md.rv at bt
    have du:=ag.1.1
    have dv:=ag.1.2
    clear hr ay ag bl aj af hd a8 cq aw
    go_wp2_with fail
    refine bt.out.mono ?_
    rintro e w1 ⟨rfl,dm⟩
    have bh:=bu.out.below dm
    obtain⟨y0,y1,y2,_,_,_⟩:=bh.three
    have cx:=Za (cb.out.trans (dm.mono cb.out.size))
    have fw:=bh.lt
    clear dm c0 c1 c2 z0 z1
    rcases bd with _|_|_|_|bd
    · have dw:(Md.note 0).toList.isEmpty=true:=by kernel_rfl
      have bm:Md.rowsBad (-1) T=Md.rowsBad r.1 (T.drop (k+1)):=by rw[bb.out];rfl
      have cg:=Za bm
      clear bm
      go_wp2_with fail
      exact⟨⟨k+1,r.1,by omega,by go_num,rfl,⟨du,dv⟩,cg.out,cx.out⟩,by simp[intOf];omega⟩
    · have dw:(Md.note 1).toList.isEmpty=false:=by kernel_rfl
      have av:res=1:=by rw[←ax.out];unfold Md.chk;rw[bb.out];rfl
      have ba:=Za av
      clear av
      go_wp2_with fail
      refine (Md.wrong_any _ _).mono ?_
      rintro e w2 ⟨q,v,rfl,g1,g2,g3⟩
      go_wp2_with fail
      go_ret
      exact Md.ret_err ba.out (by decide) ⟨q,v,rfl,g1,g2,g3⟩ (ah.out.trans (cx.out.mono ah.out.size))
    · have dw:(Md.note 2).toList.isEmpty=false:=by kernel_rfl
      have av:res=2:=by rw[←ax.out];unfold Md.chk;rw[bb.out];rfl
      have ba:=Za av
      clear av
      go_wp2_with fail
      refine (Md.wrong_any _ _).mono ?_
      rintro e w2 ⟨q,v,rfl,g1,g2,g3⟩
      go_wp2_with fail
      go_ret
      exact Md.ret_err ba.out (by decide) ⟨q,v,rfl,g1,g2,g3⟩ (ah.out.trans (cx.out.mono ah.out.size))
    · have dw:(Md.note 3).toList.isEmpty=false:=by kernel_rfl
      have av:res=3:=by rw[←ax.out];unfold Md.chk;rw[bb.out];rfl
      have ba:=Za av
      clear av
      go_wp2_with fail
      refine (Md.wrong_any _ _).mono ?_
      rintro e w2 ⟨q,v,rfl,g1,g2,g3⟩
      go_wp2_with fail
      go_ret
      exact Md.ret_err ba.out (by decide) ⟨q,v,rfl,g1,g2,g3⟩ (ah.out.trans (cx.out.mono ah.out.size))
    · omega
  · obtain rfl:n=k:=by omega
    have hz:Md.rowsBad (-1) T=0:=by
     rw[b8.out,Xo (by rw[HN.out];exact Zb _)]
     rfl
    obtain⟨b9,bj⟩:=Md.rowsBad_zero T (-1) hz
    have ei:Md.Ok T:=⟨by rw[HN.out];exact ep,bj,cu.out,df.out⟩
    have HZ:=Za hz
    have e1:=Za ei
    obtain⟨wb,rfl⟩:∃wb:World,wb=wr:=⟨_,rfl⟩
    have et:∀c,Md.exp (Md.mp T) (T.length+3) [] c=Md.full T c:=fun _=>rfl
    have e7:=Za et
    clear hz b9 bj ei et hlt
    go_wp2_with fail
    go_loopw [37] (fun i wr=>∃k:Nat,k≤n∧i=.int .i64 k∧(∀r∈T.take k,(Md.full T r.1).isSome=true)∧Below wb.heap.size wb wr) (fun i _=>n-(intOf i).toNat)
    case atStart=>exact⟨0,Zz _,rfl,fun r hr=>by simp at hr,Zd _ _⟩
    case round =>
     obtain⟨k,hk,rfl,a1,ap⟩:=hrel
     have aa:=cy.out.below ap
     have y0:=aa.cell 0 rfl
     have y1:=aa.cell 1 rfl
     have bn:=Za a1
     have bg:=cd.out.trans (ap.mono cd.out.size)
     have ae:=Za bg
     have bc:=Za aa
     have bk:=Za ap
     have e5:=aa.lt
     clear a1 aa ap z0 z1
     by_cases hlt:k<n
     · obtain⟨r,hr⟩:∃r,T[k]?=some r:=⟨_,Zc (by rw[HN.out];exact hlt)⟩
       have ay:=Zk hr
       have ag:=cu.out r ay
       obtain⟨b,o,a,b6,hb,c0,c1,c2,bl⟩:=(b1.out.below bg).row hr
       have aj:Below wr.heap.size wr (wr.alloc (.cells #[.int .i32 r.1,.int .i64 r.2.1,.slice a.1 r.2.2.length a.2] 103)):=(Zd _ _).alloc (Zb _) _
       have b4:=ae.out.trans (aj.mono ae.out.size)
       have hE:=Md.exp_any T S (wr.alloc (.cells #[.int .i32 r.1,.int .i64 r.2.1,.slice a.1 r.2.2.length a.2] 103)) _ e1.out (dl.out.below (ah.out.trans (b4.mono ah.out.size))) (T.length+3) [] (.slice none 0 0) r.1 0 _ (by omega) ag.1.1 ag.1.2 (by simp) (Zd _ _) (ZG _ _ _ _)
       rw[e7.out]at hE
       have cc:=Za b4
       have ej:=Za (bk.out.trans (aj.mono bk.out.size))
       have af:=Rw.At.new wr 103 [.int .i32 r.1,.int .i64 r.2.1,.slice a.1 r.2.2.length a.2]
       obtain⟨x0,x1,x2,_,_,_⟩:=af.three
       have ed:(k:Int)<n:=by omega
       have eh:(0:Int)≤k:=by omega
       obtain⟨fo,c6⟩:∃fo,Md.full T r.1=fo:=⟨_,rfl⟩
       rw[c6]at hE
       have ea:=Za c6
       have HR:=Za hr
       have fu:=Za ay
       subst b6
       clear hr ay ag bl aj b4 af c6
       go_wp2_with fail
       refine hE.mono ?_
       rintro e w2 ⟨A1,n1,gb,rfl,_,hg⟩
       have ec:=ej.out.trans (Rw.below_grown hg ej.out.size fun k hk=>by cases hk)
       have dc:=Za ec
       have a7:=Za (cc.out.trans (Rw.below_grown hg cc.out.size fun k hk=>by cases hk))
       clear ec hg hE x0 x1 x2 y0 y1 c0 c1 c2
       rcases fo with _|fl
       · have av:res=4:=by
          rw[←ax.out]
          unfold Md.chk
          have:Md.fullBad T=true:=by
           unfold Md.fullBad
           rw[Yv]
           exact⟨r,fu.out,by rw[ea.out];rfl⟩
          rw[Zs (by rw[HZ.out];simp),Zv this]
         have ba:=Za av
         clear av
         go_wp2_with fail
         refine (Md.wrong_any _ _).mono ?_
         rintro e w3 ⟨q,v,rfl,g1,g2,g3⟩
         go_wp2_with fail
         go_ret
         exact Md.ret_err ba.out (by decide) ⟨q,v,rfl,g1,g2,g3⟩ (ah.out.trans (a7.out.mono ah.out.size))
       · have a1:∀r∈T.take (k+1),(Md.full T r.1).isSome=true:=by
          rw[Zr,HR.out]
          intro q hq
          rcases List.mem_append.1 hq with hq|hq
          · exact bn.out q hq
          · simp at hq
            subst hq
            rw[ea.out]
            rfl
         have b5:=Za a1
         clear a1
         go_wp2_with fail
         exact⟨⟨k+1,by omega,by go_num,b5.out,dc.out⟩,by simp[intOf];omega⟩
     · obtain rfl:n=k:=by omega
       have e2:Md.fullBad T=false:=by
        unfold Md.fullBad
        rw[List.any_eq_false]
        intro r hr
        have:=bn.out r (by rw[Zj (by rw[HN.out];exact Zb _)];exact hr)
        cases hf:Md.full T r.1 with
        | none=>rw[hf]at this;cases this
        | some l=>simp
       have cf:res=if Md.twice T (C.mem S) [] T=true then 5 else 0:=by
        rw[←ax.out]
        unfold Md.chk
        rw[Zs (by rw[HZ.out];simp),Zs (by rw[e2];simp)]
       have ew:=Za cf
       obtain⟨wz,rfl⟩:∃wz:World,wz=wr:=⟨_,rfl⟩
       clear e2 cf hlt bn
       have gg:=@run_makeMap Tryz.prog
       have az:=Mp.Is.made wz Tryz.prog 239
       have dn:Below wz.heap.size wz (wz.alloc (.map #[] 0)):=(Zd _ _).alloc (Zb _) _
       have bs:=bc.out.alloc (.map #[] 0)
       have w0:=bs.cell 0 rfl
       have w1:=bs.cell 1 rfl
       obtain⟨wm,dy⟩:∃wm,wz.alloc (.map #[] 0)=wm:=⟨_,rfl⟩
       rw[dy]at az dn w0 w1
       have fg:=Za dy
       have cm:=Za az
       have e8:=Za dn
       clear az dn bs dy
       go_upto_region 18 with (fail)
       rw[fg.out]
       go_wp2_with fail
       go_loopw [56] (fun i wr=>∃(k:Nat) (F:Value→Option Value),k≤n∧i=.int .i64 k∧Md.twice T (C.mem S) [] T=Md.twice T (C.mem S) (((T.take k).filter (Md.comp T (C.mem S))).map fun r=>r.2.2) (T.drop k)∧Mp.Is Tryz.prog 239 wr wz.heap.size F∧Md.Seen F (((T.take k).filter (Md.comp T (C.mem S))).map fun r=>r.2.2)∧Below wz.heap.size wz wr) (fun i _=>n-(intOf i).toNat)
       case atStart=>exact⟨0,fun _=>none,Zz _,rfl,rfl,cm.out,fun x y=>rfl,e8.out⟩
       case round =>
        obtain⟨k,F,hk,rfl,b3,bq,bi,aq⟩:=hrel
        have aa:=bc.out.below aq
        have y0:=aa.cell 0 rfl
        have y1:=aa.cell 1 rfl
        have c8:=Za b3
        have cn:=Za bq
        have au:=Za bi
        have bf:=ae.out.trans (aq.mono ae.out.size)
        have ak:=Za aq
        have a6:=Za bf
        have fq:=aa.lt
        have fx:=bq.lt
        clear b3 bq bi aa aq w0 w1
        obtain⟨seen,dz⟩:∃seen,(((T.take k).filter (Md.comp T (C.mem S))).map fun r=>r.2.2)=seen:=⟨_,rfl⟩
        rw[dz]at c8 au
        have e3:=Za dz
        clear dz
        by_cases hlt:k<n
        · obtain⟨r,hr⟩:∃r,T[k]?=some r:=⟨_,Zc (by rw[HN.out];exact hlt)⟩
          have ay:=Zk hr
          have ag:=cu.out r ay
          obtain⟨b,o,a,b6,hb,c0,c1,c2,bl⟩:=(b1.out.below bf).row hr
          have aj:Below wr.heap.size wr (wr.alloc (.cells #[.int .i32 r.1,.int .i64 r.2.1,.slice a.1 r.2.2.length a.2] 103)):=(Zd _ _).alloc (Zb _) _
          have b4:=a6.out.trans (aj.mono a6.out.size)
          have hC:=Md.comp_any _ T S r a.1 a.2 (wr.alloc (.cells #[.int .i32 r.1,.int .i64 r.2.1,.slice a.1 r.2.2.length a.2] 103)) e1.out (dl.out.below (ah.out.trans (b4.mono ah.out.size))) ft.out fe ag.1 ag.2 (df.out r ay) (bl.below aj aj.size)
          have cb:=Za aj
          have af:=Rw.At.new wr 103 [.int .i32 r.1,.int .i64 r.2.1,.slice a.1 r.2.2.length a.2]
          obtain⟨x0,x1,x2,_,_,_⟩:=af.three
          have bu:=Za af
          have ed:(k:Int)<n:=by omega
          have eh:(0:Int)≤k:=by omega
          have b3:=c8.out
          rw[Md.drop_cons hr]at b3
          have bx:=Za (Md.twice_step b3)
          have eb:(((T.take (k+1)).filter (Md.comp T (C.mem S))).map fun r=>r.2.2)=if Md.comp T (C.mem S) r=true then seen++[r.2.2] else seen:=by
           rw[Zr,hr,Z7,ZO,e3.out]
           by_cases hc:Md.comp T (C.mem S) r=true
           · simp[hc]
           · simp[hc]
          have b2:=Za eb
          have ef:Md.comp T (C.mem S) r=true→∃x y,r.2.2=[x,y]:=by
           intro hc
           unfold Md.comp at hc
           simp only[Zx,Zp]at hc
           have h2:=hc.2.1
           match hh:r.2.2,h2 with
           | [x,y],_=>exact⟨x,y,rfl⟩
          have eo:=Za ef
          obtain⟨cr,eg⟩:∃cr,Md.comp T (C.mem S) r=cr:=⟨_,rfl⟩
          rw[eg]at hC bx b2 eo
          have b8:=Za ag
          have e4:=Za bl
          subst b6
          unfold Md.rv at hC
          clear hr ay ag bl aj b4 af b3 eb ef eg
          go_wp2_with fail
          refine hC.mono ?_
          rintro e w2 ⟨rfl,dx⟩
          have cj:=cb.out.trans (dx.mono cb.out.size)
          have a7:=Za cj
          have ar:=bu.out.below dx
          obtain⟨x0,x1,x2,_,_,_⟩:=ar.three
          have ek:=Za ar
          have e6:=ar.lt
          clear dx cj ar hC y0 y1 c0 c1 c2
          cases cr
          · have bp:=bx.out
            rw[Zs (by decide)]at bp
            have bw:=b2.out
            rw[Zs (by decide)]at bw
            have fc:=Za bp
            have en:=Za bw
            clear bp bw
            go_wp2_with fail
            exact⟨⟨k+1,F,by omega,by go_num,by rw[en.out];exact fc.out,cn.out.below a7.out,by rw[en.out];exact au.out,ak.out.trans (a7.out.mono ak.out.size)⟩,by simp[intOf];omega⟩
          · obtain⟨x,y,br⟩:=eo.out rfl
            have hlen:r.2.2.length=2:=by rw[br];rfl
            have er:=b8.out.2 x (by rw[br];simp)
            have e0:=b8.out.2 y (by rw[br];simp)
            have bz:=e4.out.below a7.out a7.out.size
            rw[br]at bz
            obtain⟨ab,ao,hA2,fz,dk⟩:=bz (by simp)
            have d0:w2.cell? ⟨ab,ao,none⟩=some (.int .i32 x):=by simpa using dk 0 (by simp)
            have d1:w2.cell? ⟨ab,ao+1,none⟩=some (.int .i32 y):=by simpa using dk 1 (by simp)
            rw[hA2,hlen]at x2
            rw[br]at bx b2
            rw[Zv rfl]at bx b2
            have gf:=Za br
            clear dk bz br
            have fp:∀(A:Option Addr) (cp:Nat) (W:World),(Instr.arrayAt 239 (.slice A 2 cp)).run Tryz.prog W=.ok (.pointer A) W:=fun _ _ _=>by kernel_rfl
            have c7:Below w2.heap.size w2 (w2.alloc (.cells #[.int .i32 x,.int .i32 y] 239)):=(Zd _ _).alloc (Zb _) _
            have hmx:=(cn.out.below a7.out).below c7
            obtain⟨lv,fm⟩:=Md.Seen.look hmx au.out er e0
            obtain⟨w4,F',dr,eu,ey,ee⟩:=Md.Seen.put hmx au.out er e0 (.int .i32 r.1)
            have cv:Below wz.heap.size wz (w2.alloc (.cells #[.int .i32 x,.int .i32 y] 239)):=ak.out.trans ((a7.out.trans (c7.mono a7.out.size)).mono ak.out.size)
            have dc:=Za (cv.trans (Rw.below_grown ee cv.size fun k hk=>by cases hk;exact Zb _))
            have e9:=Za cv
            have fk:=Za eu
            have fh:=Za ey
            obtain⟨tw,ct⟩:∃tw,seen.contains [x,y]=tw:=⟨_,rfl⟩
            rw[ct]at fm bx
            clear c7 hmx eu ey ee cv ct
            cases tw
            · have ai:=bx.out
              rw[YO]at ai
              have di:=Za ai
              clear ai
              go_wp2_with fail
              exact⟨⟨k+1,F',by omega,by go_num,by rw[b2.out];exact di.out,fk.out,by rw[b2.out];exact fh.out,dc.out⟩,by simp[intOf];omega⟩
            · have ai:=bx.out
              rw[Xd]at ai
              have av:res=5:=by rw[ew.out,Zv ai]
              have ba:=Za av
              clear ai av dr
              go_wp2_with fail
              refine (Md.wrong_any _ _).mono ?_
              rintro e w3 ⟨q,v,rfl,g1,g2,g3⟩
              go_wp2_with fail
              go_ret
              exact Md.ret_err ba.out (by decide) ⟨q,v,rfl,g1,g2,g3⟩ (ah.out.trans ((ae.out.trans (e9.out.mono ae.out.size)).mono ah.out.size))
        · obtain rfl:n=k:=by omega
          have cf:res=0:=by
           rw[ew.out,c8.out,Xo (by rw[HN.out];exact Zb _)]
           rfl
          have dh:=Za cf
          clear cf hlt
          go_wp2_with fail
          go_ret
          exact Md.ret_nil dh.out (ah.out.trans (a6.out.mono ah.out.size))
end Go.Proofs.YtbeakahjbkdeiaaGreatDoor
namespace Go.Proofs.YtbeakahjbkdeiaaGreatDoor
set_option linter.unusedVariables false
set_option linter.unusedSimpArgs false
def Pg.ok (c:Int):Bool:=decide (0≤c∧c≤1114111)
theorem Pg.last_snoc (L:List (Int × Int)) (x:Int × Int) (c:Int):Pg.last (L++[x]) c=if x.1=c then x.2 else Pg.last L c:=by
 unfold Pg.last
 rw[YY]
 rfl
theorem Pg.blk_skip (L:List (Int × Int)) (x:Int × Int) (h:Pg.ok x.1=false) {m:Nat} (hm:m<4352):Pg.blk (Pg.last (L++[x])) m=Pg.blk (Pg.last L) m:=by
 unfold Pg.blk
 refine YU fun i hi=>?_
 have hi:=List.mem_range.1 hi
 rw[Pg.last_snoc,Zs]
 intro e
 unfold Pg.ok at h
 rw[ZX]at h
 omega
theorem Pg.blk_other (L:List (Int × Int)) (x:Int × Int) {m n:Nat} (hn:x.1/256=(n:Int)) (hne:m≠n):Pg.blk (Pg.last (L++[x])) m=Pg.blk (Pg.last L) m:=by
 unfold Pg.blk
 refine YU fun i hi=>?_
 have hi:=List.mem_range.1 hi
 rw[Pg.last_snoc,Zs]
 intro e
 omega
theorem Pg.blk_set (L:List (Int × Int)) (x:Int × Int) {n j:Nat} (hn:x.1/256=(n:Int)) (hj:x.1%256=(j:Int)):Pg.blk (Pg.last (L++[x])) n=(Pg.blk (Pg.last L) n).set j x.2:=by
 refine Xx fun i=>?_
 rw[List.getElem?_set,Pg.blk_len]
 by_cases hi:i<256
 · rw[Pg.blk_get _ _ hi,Pg.blk_get _ _ hi,Pg.last_snoc]
   by_cases e:j=i
   · subst e
     rw[Zv (by omega),Zv rfl,Zv hi]
   · rw[Zs (by omega),Zs e]
 · rw[Yg (by rw[Pg.blk_len];omega)]
   split
   · rw[Zs (by omega)]
   · rw[Yg (by rw[Pg.blk_len];omega)]
theorem Pg.blk_last_nil (n:Nat):Pg.blk (Pg.last []) n=Pg.zeros:=by
 unfold Pg.blk Pg.zeros
 refine Xx fun i=>?_
 by_cases hi:i<256
 · rw[Zl,XF hi,List.getElem?_replicate,Zv hi];rfl
 · rw[Yg (by rw[Zf,List.length_range];omega),Yg (by rw[List.length_replicate];omega)]
def Pg.place (bl:List (List Int)) (b:List Int):Option Nat:=if b∈bl then some (Pg.at bl b) else none
theorem Pg.place_add {bl:List (List Int)} {b:List Int} (h:b∉bl) (x:List Int):Pg.place (Pg.add bl b) x=if x=b then some bl.length else Pg.place bl x:=by
 unfold Pg.place
 by_cases hx:x=b
 · subst hx
   rw[Zv (Pg.add_mem.2 (.inr rfl)),Zv rfl]
   unfold Pg.add Pg.at
   rw[Zs h,List.idxOf_append,Zs h]
   simp
 · rw[Zs hx]
   by_cases hm:x∈bl
   · rw[Zv (Pg.add_mem.2 (.inl hm)),Zv hm,Pg.add_at hm]
   · rw[Zs fun h'=>(Pg.add_mem.1 h').elim hm hx,Zs hm]
theorem Pg.add_there {bl:List (List Int)} {b:List Int} (h:b∈bl):Pg.add bl b=bl:=Zv h
theorem Pg.add_new {bl:List (List Int)} {b:List Int} (h:b∉bl):Pg.add bl b=bl++[b]:=Zs h
theorem Pg.zeros_mem (f:Int→Int) (m:Nat):Pg.zeros∈Pg.bls f m:=(Pg.bls_mem f m _).2 (.inl rfl)
theorem Pg.at_zeros (f:Int→Int) (m:Nat):Pg.at (Pg.bls f m) Pg.zeros=0:=by
 have h:=Pg.bls_head f m
 obtain⟨l,hl⟩:∃l,Pg.bls f m=Pg.zeros::l:=by
  cases hb:Pg.bls f m with
  | nil=>rw[hb]at h;cases h
  | cons y l=>rw[hb]at h;simp at h;exact⟨l,by rw[h]⟩
 rw[hl]
 unfold Pg.at
 simp
def Pg.idxZ (f:Int→Int) (m:Nat):List Int:=Pg.idx f m++List.replicate (4352-m) 0
theorem Pg.idxZ_len (f:Int→Int) {m:Nat} (h:m≤4352):(Pg.idxZ f m).length=4352:=by
 unfold Pg.idxZ
 rw[Zi,Pg.idx_len,List.length_replicate]
 omega
theorem Pg.idxZ_end (f:Int→Int):Pg.idxZ f 4352=Pg.idx f 4352:=by unfold Pg.idxZ;simp
theorem Pg.idxZ_set (f:Int→Int) {m:Nat} (h:m<4352):Pg.idxZ f (m+1)=(Pg.idxZ f m).set m (Pg.at (Pg.bls f (m+1)) (Pg.blk f m):Int):=by
 unfold Pg.idxZ
 rw[Pg.idx_succ,show 4352-m=(4352-(m+1))+1 by omega,List.replicate_succ,ZN,Yx _ _ (by rw[Pg.idx_len];exact Zb _),Pg.idx_len,Yu]
 rfl
theorem Pg.idxZ_skip (f:Int→Int) {m:Nat} (h:m<4352) (hb:Pg.blk f m=Pg.zeros):Pg.bls f (m+1)=Pg.bls f m∧Pg.idxZ f (m+1)=Pg.idxZ f m:=by
 have h1:Pg.bls f (m+1)=Pg.bls f m:=by rw[Pg.bls,hb,Pg.add_there (Pg.zeros_mem f m)]
 refine⟨h1,?_⟩
 rw[Pg.idxZ_set f h,h1,hb,Pg.at_zeros]
 refine Xx fun i=>?_
 rw[List.getElem?_set]
 by_cases e:m=i
 · subst e
   rw[Zv rfl,Zv (by rw[Pg.idxZ_len f (by omega)];exact h)]
   unfold Pg.idxZ
   rw[ZF (by rw[Pg.idx_len];exact Zb _),Pg.idx_len,Yu,List.getElem?_replicate,Zv (by omega)]
   rfl
 · rw[Zs e]
end Go.Proofs.YtbeakahjbkdeiaaGreatDoor
namespace Go.Proofs.YtbeakahjbkdeiaaGreatDoor
open Go.RowKit
set_option linter.unusedSimpArgs false
set_option linter.unusedVariables false
theorem Pg.run_load {P:Program} (w:World) (t:TypeId) (d:TypeDesc) (b o n:Nat) (xs:List Value) (hx:xs.length=n) (hc:∀(j:Nat) v,xs[j]?=some v→w.cell? ⟨b,o+j,none⟩=some v)
 (hu:P.underlying t=some d) (hd:(match d with | .struct _ | .array _ _=>true|_=>false)=true) (hi:(P.info? t).map (·.size)=some n) :
 (Instr.loadAt t (.pointer (some ⟨b,o,none⟩))).run P w=.ok (.agg xs.toArray) w:=by
 have hl:(loadCells ⟨b,o,none⟩ xs.length).run P w=.ok xs.toArray w :=
  run_loadCells_list (P:=P) w ⟨b,o,none⟩ xs (fun j v hv=>by
   have aa:(⟨b,o,none⟩:Addr).add j=⟨b,o+j,none⟩:=by unfold Addr.add;split <;> simp_all
   rw[aa]
   exact hc j v hv)
 subst hx
 have ae:(isAgg t).run P w=.ok true w:=by cases d <;> simp at hd <;> simp[isAgg,Y9 hu]
 simp only[Instr.loadAt,Instr.sureAddr,Yt,Yl,Result.andThen]
 cases hq:P.info? t with
 | none=>simp[hq]at hi
 | some i =>
   have hs:i.size=xs.length:=by simp[hq]at hi;omega
   simp[loadVar,Yt,ae,sizeOf,typeInfo,hq,hs,hl]
theorem Pg.wp_load {P:Program} {o:Oper} {a:Act} {w:World} {K:Act→World→Prop} {Q:Exit→Act→World→Prop} (t:TypeId) (x:Operand) (ho:o.op=.load t x) (v u:Value) (hx:a.eval x=v)
 (hr:(Instr.loadAt t v).run P w=.ok u w) (h:K (a.put o.dst u) w):o.wp P a w K Q:=by
 unfold Oper.wp execOp
 subst hx
 simp only[ho,Yt,hr,Ym,Yl]
 exact h
theorem Pg.wpList_load {P:Program} {ops:Array Oper} {rest:List Oper} {o:Oper} {a:Act} {w:World} {Q:Exit→Act→World→Prop} (aa:o.guard=none) (t:TypeId) (x:Operand) (ho:o.op=.load t x) (v u:Value) (hx:a.eval x=v)
 (hr:(Instr.loadAt t v).run P w=.ok u w) (h:wpList P ops Q rest (a.put o.dst u) w):wpList P ops Q (o::rest) a w :=
 wpList_plain aa fun _ hK=>Pg.wp_load t x ho v u hx hr (hK _ _ h)
theorem Pg.infoBlk:(Tryz.prog.info? 183).map (·.size)=some 256:=by kernel_rfl
theorem infoCell:(Tryz.prog.info? 178).map (fun i=>(i.zero,i.size,i.bytes))=some (some (.agg #[.int .i32 0,.int .u16 0]),2,8):=by kernel_rfl
def Pg.cellsOk (L:List (Int × Int)):Prop:=∀x∈L,-2147483648≤x.1∧x.1≤2147483647∧0≤x.2∧x.2≤65535
def Pg.IsL (lo:Nat) (w:World) (v:Value) (idx:List Int) (bl:List (List Int)):Prop :=
 ∃g A c,v=.pointer (some ⟨g,0,none⟩)∧lo≤g∧Rw.At w g 187 (idx.map (Value.int .u16)++[.slice A bl.length c])∧Sl w w.heap.size A (bl.flatten.map (Value.int .u16))∧∀a,A=some a→lo≤a.block
theorem Pg.IsL.is {lo:Nat} {w:World} {v:Value} {idx:List Int} {bl:List (List Int)} (h:Pg.IsL lo w v idx bl):Pg.Is w v idx bl:=by
 obtain⟨g,A,c,h1,_,h2,h3,_⟩:=h
 exact⟨g,A,c,h1,h2,h3⟩
theorem Pg.IsL.grown {lo b:Nat} {w w':World} {v:Value} {idx:List Int} {bl:List (List Int)} (h:Pg.IsL lo w v idx bl) (hg:w.grownBy w' (some b)) (hb:b<lo):Pg.IsL lo w' v idx bl:=by
 obtain⟨g,A,c,h1,h0,h2,h3,h4⟩:=h
 refine⟨g,A,c,h1,h0,h2.grown hg (by simp;omega),fun hx=>?_,h4⟩
 obtain⟨q,o,hA,hq,hc⟩:=h3 hx
 have aa:=h4 _ hA
 refine⟨q,o,hA,Ze hq hg.size,fun i hi=>?_⟩
 rw[←hc i hi]
 have hk:=hg.block q hq (by simp;dsimp only at aa;omega)
 simp[World.cell?,hk]
def Pg.OfL (lo:Nat) (w:World) (v:Value) (f:Int→Int):Prop:=Pg.IsL lo w v (Pg.idx f 4352) (Pg.bls f 4352)
theorem Pg.keyed32:Go.Maps.Keyed Tryz.prog 21:=Go.Maps.int_keyed Tryz.underlying21
theorem Pg.key32 {n:Nat} (h:n<4352):keyOf Tryz.prog 21 (.int .i32 n)=some (.int .i32 n):=Go.Maps.keyOf_int_mk Tryz.underlying21 (by simp only[Lit.wf,Zx,Zp];exact⟨Xn (by decide:_≤(0:Int)) (by omega),Xn (by omega:(n:Int)≤4352) (by decide)⟩)
def Pg.ptr (g:Option Nat):Value:=.pointer (g.map fun g=>⟨g,0,none⟩)
def Pg.vs (b:List Int):List Value:=b.map (Value.int .u16)
def Pg.St (lo hi:Nat) (W:World) (mb:Nat) (f:Int→Int) (G:Nat→Option Nat):Prop :=
 (∃F,Mp.Is Tryz.prog 21 W mb F∧∀n:Nat,n<4352→F (.int .i32 n)=(G n).map fun g=>.pointer (some ⟨g,0,none⟩)) ∧
 (∀n,n<4352→G n=none→Pg.blk f n=Pg.zeros)∧(∀n g,n<4352→G n=some g→lo≤g∧g<hi∧Rw.At W g 183 (Pg.vs (Pg.blk f n))) ∧
 (∀n n' g,n<4352→n'<4352→G n=some g→G n'=some g→n=n')
section
variable {lo hi:Nat} {W W':World} {mb:Nat} {f f':Int→Int} {G:Nat→Option Nat}
theorem Pg.St.made (w:World) (lo hi:Nat):Pg.St lo hi (w.alloc (.map #[] 0)) w.heap.size (Pg.last []) fun _=>none :=
 ⟨⟨_,Mp.Is.made w Tryz.prog 21,fun _ _=>rfl⟩,fun n _ _=>Pg.blk_last_nil n,fun _ _ _ h=>(nomatch h),fun _ _ _ _ _ h=>(nomatch h)⟩
theorem Pg.St.lt (h:Pg.St lo hi W mb f G):mb<W.heap.size:=by
 obtain⟨⟨F,hF,_⟩,_⟩:=h
 exact hF.lt
theorem Pg.St.below {B:Nat} (h:Pg.St lo hi W mb f G) (hb:Below B W W') (h1:mb<B) (h2:hi≤B):Pg.St lo hi W' mb f G:=by
 obtain⟨⟨F,⟨es,c,hh,r⟩,hF⟩,h3,h4,h5⟩:=h
 exact⟨⟨F,⟨es,c,(hb.block mb h1).trans hh,r⟩,hF⟩,h3,fun n g hn hg=>⟨(h4 n g hn hg).1,(h4 n g hn hg).2.1,(h4 n g hn hg).2.2.below' hb (by have:=(h4 n g hn hg).2.1;omega)⟩,h5⟩
theorem Pg.St.more {hi':Nat} (h:Pg.St lo hi W mb f G) (hh:hi≤hi'):Pg.St lo hi' W mb f G :=
 ⟨h.1,h.2.1,fun n g hn hg=>⟨(h.2.2.1 n g hn hg).1,Ze (h.2.2.1 n g hn hg).2.1 hh,(h.2.2.1 n g hn hg).2.2⟩,h.2.2.2⟩
theorem Pg.St.turn (h:Pg.St lo hi W mb f G) (hf:∀n,n<4352→Pg.blk f' n=Pg.blk f n):Pg.St lo hi W mb f' G :=
 ⟨h.1,fun n hn hg=>by rw[hf n hn];exact h.2.1 n hn hg,fun n g hn hg=>by rw[hf n hn];exact h.2.2.1 n g hn hg,h.2.2.2⟩
theorem Pg.St.look (h:Pg.St lo hi W mb f G) {n:Nat} (hn:n<4352):(Instr.lookup 242 (.map (some mb)) (.int .i32 n) false).run Tryz.prog W=.ok (Pg.ptr (G n)) W:=by
 obtain⟨⟨F,hF,hG⟩,_⟩:=h
 have hz:(zeroValue 243).run Tryz.prog W=.ok (.pointer none) W:=by kernel_rfl
 have:=hF.look Pg.keyed32 Tryz.underlying242 hz (Pg.key32 hn) false
 rw[hG n hn]at this
 rw[this]
 cases G n <;> rfl
theorem Pg.St.put (h:Pg.St lo hi W mb f G) {n:Nat} (hn:n<4352) (hg:G n=none) (hlo:lo≤W.heap.size) (hhi:hi≤W.heap.size) :
 ∃W' G',(Instr.mapUpdate 242 (.map (some mb)) (.int .i32 n) (.pointer (some ⟨W.heap.size,0,none⟩))).run Tryz.prog (W.alloc (.cells (Pg.vs Pg.zeros).toArray 183))=.ok () W' ∧
  Pg.St lo W'.heap.size W' mb f G'∧G' n=some W.heap.size∧(W.alloc (.cells (Pg.vs Pg.zeros).toArray 183)).grownBy W' (some mb):=by
 have hmb:=h.lt
 obtain⟨⟨F,hF,hG⟩,h2,h3,h4⟩:=h
 have hF1:Mp.Is Tryz.prog 21 (W.alloc (.cells (Pg.vs Pg.zeros).toArray 183)) mb F:=hF.below ((Zd _ _).alloc (Zb _) _)
 obtain⟨F',g1,g2⟩:∃F':Value→Option Value,F' (.int .i32 n)=some (.pointer (some ⟨W.heap.size,0,none⟩))∧∀z,z≠.int .i32 n→F' z=F z:=by
  classical
  exact⟨fun z=>if z=.int .i32 n then some (.pointer (some ⟨W.heap.size,0,none⟩)) else F z,by simp,fun z hz=>by simp[hz]⟩
 obtain⟨W',k1,k2,k3⟩:=hF1.put Pg.keyed32 Tryz.underlying242 (Pg.key32 hn) F' g1 g2
 have hsz:W.heap.size+1≤W'.heap.size:=by have:=k3.size;simpa using this
 refine⟨W',fun k=>if k=n then some W.heap.size else G k,k1,⟨⟨F',k2,fun k hk=>?_⟩,fun k hk=>?_,fun k g hk=>?_,fun k k' g hk hk'=>?_⟩,by simp,k3⟩
 · by_cases e:k=n
   · subst e;rw[g1];simp
   · rw[g2 _ (by simp;omega),hG k hk];simp[e]
 · by_cases e:k=n
   · subst e;simp
   · simp only[Zs e];exact h2 k hk
 · have hne:∀q cs,Rw.At (W.alloc (.cells (Pg.vs Pg.zeros).toArray 183)) q 183 cs→Rw.At W' q 183 cs:=fun q cs hq=>hq.grown k3 (by
    intro e
    cases e
    obtain⟨es,c,hh,_⟩:=hF1
    have:=hq.symm.trans hh
    cases this)
   by_cases e:k=n
   · subst e
     simp only[Yp,Zg]
     rintro rfl
     refine⟨hlo,by omega,hne _ _ ?_⟩
     rw[h2 _ hk hg]
     exact Rw.At.new W 183 (Pg.vs Pg.zeros)
   · simp only[Zs e]
     intro he
     obtain⟨a1,a2,a3⟩:=h3 k g hk he
     exact⟨a1,by omega,hne _ _ (a3.alloc _)⟩
 · by_cases e:k=n
   · by_cases e':k'=n
     · intros;omega
     · simp only[Zv e,Zs e',Zg]
       rintro rfl h6
       have:=(h3 k' _ hk' h6).2.1
       omega
   · by_cases e':k'=n
     · simp only[Zv e',Zs e,Zg]
       rintro h6 rfl
       have:=(h3 k _ hk h6).2.1
       omega
     · simp only[Zs e,Zs e']
       exact h4 k k' g hk hk'
theorem Pg.St.store (h:Pg.St lo hi W mb f G) {n g j:Nat} (hn:n<4352) (hg:G n=some g) (v:Int) (h1:Pg.blk f' n=(Pg.blk f n).set j v) (h2:∀k,k≠n→Pg.blk f' k=Pg.blk f k) :
 Pg.St lo hi (W.setCell ⟨g,j,none⟩ (.int .u16 v)) mb f' G:=by
 obtain⟨⟨F,⟨es,c,hh,r⟩,hG⟩,i2,i3,i4⟩:=h
 obtain⟨a1,a2,a3⟩:=i3 n g hn hg
 have hne:mb≠g:=by
  rintro rfl
  have:=a3.symm.trans hh
  cases this
 refine⟨⟨F,⟨es,c,(Ye _ _ _ mb hne).trans hh,r⟩,hG⟩,fun k hk hk'=>?_,fun k q hk hq=>?_,i4⟩
 · have:k≠n:=by rintro rfl;rw[hg]at hk';cases hk'
   rw[h2 k this]
   exact i2 k hk hk'
 · obtain⟨b1,b2,b3⟩:=i3 k q hk hq
   by_cases e:k=n
   · subst e
     rw[hg]at hq
     cases hq
     refine⟨b1,b2,?_⟩
     rw[h1]
     have:=a3.set j (.int .u16 v)
     rw[show Pg.vs ((Pg.blk f k).set j v)=(Pg.vs (Pg.blk f k)).set j (.int .u16 v) by unfold Pg.vs;rw[List.map_set]]
     exact this
   · refine⟨b1,b2,?_⟩
     rw[h2 k e]
     exact b3.other (by
      rintro rfl
      exact e (i4 k n q hk hn hq hg)) _
theorem Pg.St.at (h:Pg.St lo hi W mb f G) {n g:Nat} (hn:n<4352) (hg:G n=some g):lo≤g∧g<hi∧Rw.At W g 183 (Pg.vs (Pg.blk f n)):=h.2.2.1 n g hn hg
theorem Pg.St.none (h:Pg.St lo hi W mb f G) {n:Nat} (hn:n<4352) (hg:G n=Option.none):Pg.blk f n=Pg.zeros:=h.2.1 n hn hg
end
theorem Pg.At.load {w:World} {g:Nat} {b:List Int} (h:Rw.At w g 183 (Pg.vs b)) (hb:b.length=256):(Instr.loadAt 183 (.pointer (some ⟨g,0,none⟩))).run Tryz.prog w=.ok (.agg (Pg.vs b).toArray) w :=
 Pg.run_load w _ _ g 0 256 _ (by unfold Pg.vs;rw[List.length_map,hb]) (fun j u hu=>by rw[Nat.zero_add];exact h.cell j hu) Tryz.underlying183 rfl Pg.infoBlk
theorem Pg.blkKey:Go.WideMaps.ArrKey Tryz.prog 183 122 256:=⟨Tryz.underlying183,by kernel_rfl,by kernel_rfl,by kernel_rfl⟩
theorem Pg.keyedB:Go.Maps.Keyed Tryz.prog 183:=Go.Maps.Keyed.of_law Pg.blkKey.law
def Pg.u16 (b:List Int):Prop:=b.length=256∧∀x∈b,0≤x∧x≤65535
theorem Pg.key_ok {b:List Int} (h:Pg.u16 b):∃l,keyOf Tryz.prog 183 (.agg (Pg.vs b).toArray)=some l :=
 Mp.keyArr Pg.blkKey Tryz.underlying122 ⟨375-1,by kernel_rfl⟩ b h.1 fun x hx=>by
  obtain⟨h1,h2⟩:=h.2 x hx
  simp only[Lit.wf,Zx,Zp]
  exact⟨Xn (by decide:_≤(0:Int)) h1,Xn h2 (by decide)⟩
theorem Pg.vs_inj {a b:List Int} (h:Value.agg (Pg.vs a).toArray=.agg (Pg.vs b).toArray):a=b:=by
 simp only[Xs]at h
 have h:Pg.vs a=Pg.vs b:=by simpa using congrArg Array.toList h
 unfold Pg.vs at h
 exact (List.map_inj_right fun x y e=>by simpa using e).1 h
theorem Pg.last_u16 {L:List (Int × Int)} (h:∀x∈L,0≤x.2∧x.2≤65535) (c:Int):0≤Pg.last L c∧Pg.last L c≤65535:=by
 unfold Pg.last
 suffices ∀(L:List (Int × Int)) (a:Int),(∀x∈L,0≤x.2∧x.2≤65535)→0≤a∧a≤65535→0≤L.foldl (fun a x=>if x.1=c then x.2 else a) a∧L.foldl (fun a x=>if x.1=c then x.2 else a) a≤65535 from this L 0 h (by decide)
 intro L
 induction L with
 | nil=>intro a _ ha;exact ha
 | cons x l ih =>
   intro a hl ha
   refine ih _ (fun y hy=>hl y (ZB _ hy)) ?_
   by_cases e:x.1=c
   · simp only[Zv e];exact hl x Zw
   · simp only[Zs e];exact ha
theorem Pg.blk_u16 {L:List (Int × Int)} (h:∀x∈L,0≤x.2∧x.2≤65535) (m:Nat):Pg.u16 (Pg.blk (Pg.last L) m):=by
 refine⟨Pg.blk_len _ _,fun x hx=>?_⟩
 unfold Pg.blk at hx
 obtain⟨i,_,rfl⟩:=List.mem_map.1 hx
 exact Pg.last_u16 h _
def Pg.Pl (W:World) (pb:Nat) (bl:List (List Int)):Prop :=
 ∃F,Mp.Is Tryz.prog 183 W pb F∧∀b:List Int,F (.agg (Pg.vs b).toArray)=(Pg.place bl b).map fun k=>.int .i64 k
theorem Pg.Pl.look {W:World} {pb:Nat} {bl:List (List Int)} (h:Pg.Pl W pb bl) {b:List Int} (hb:Pg.u16 b) :
 (Instr.lookup 244 (.map (some pb)) (.agg (Pg.vs b).toArray) true).run Tryz.prog W=.ok (.tuple #[.int .i64 ((Pg.place bl b).getD 0:Nat),.bool (Pg.place bl b).isSome]) W:=by
 obtain⟨F,hF,hp⟩:=h
 obtain⟨l,hl⟩:=Pg.key_ok hb
 have hz:(zeroValue 3).run Tryz.prog W=.ok (.int .i64 0) W:=by kernel_rfl
 have:=hF.look Pg.keyedB Tryz.underlying244 hz hl true
 rw[Zv rfl,hp b]at this
 rw[this]
 cases Pg.place bl b <;> rfl
theorem Pg.Pl.put {W:World} {pb:Nat} {bl:List (List Int)} (h:Pg.Pl W pb bl) {b:List Int} (hb:Pg.u16 b) (hn:b∉bl) :
 ∃W',(Instr.mapUpdate 244 (.map (some pb)) (.agg (Pg.vs b).toArray) (.int .i64 bl.length)).run Tryz.prog W=.ok () W'∧Pg.Pl W' pb (Pg.add bl b)∧W.grownBy W' (some pb):=by
 obtain⟨F,hF,hp⟩:=h
 obtain⟨l,hl⟩:=Pg.key_ok hb
 obtain⟨F',g1,g2⟩:∃F':Value→Option Value,F' (.agg (Pg.vs b).toArray)=some (.int .i64 bl.length)∧∀z,z≠.agg (Pg.vs b).toArray→F' z=F z:=by
  classical
  exact⟨fun z=>if z=.agg (Pg.vs b).toArray then some (.int .i64 bl.length) else F z,by simp,fun z hz=>by simp[hz]⟩
 obtain⟨W',k1,k2,k3⟩:=hF.put Pg.keyedB Tryz.underlying244 hl F' g1 g2
 refine⟨W',k1,⟨F',k2,fun c=>?_⟩,k3⟩
 rw[Pg.place_add hn]
 by_cases e:c=b
 · subst e;rw[g1];simp
 · rw[g2 _ fun e'=>e (Pg.vs_inj e'),hp c,Zs e]
theorem Pg.Pl.made (w:World) (pb:Nat):∃W',(Instr.mapUpdate 244 (.map (some w.heap.size)) (.agg (Pg.vs Pg.zeros).toArray) (.int .i64 0)).run Tryz.prog (w.alloc (.map #[] 0))=.ok () W'∧Pg.Pl W' w.heap.size [Pg.zeros]∧(w.alloc (.map #[] 0)).grownBy W' (some w.heap.size):=by
 have h:Pg.Pl (w.alloc (.map #[] 0)) w.heap.size []:=⟨_,Mp.Is.made w Tryz.prog 183,fun b=>rfl⟩
 have hz:Pg.u16 Pg.zeros:=⟨List.length_replicate,fun x hx=>by unfold Pg.zeros at hx;have:=List.eq_of_mem_replicate hx;omega⟩
 obtain⟨W',h1,h2,h3⟩:=h.put hz (by simp)
 exact⟨W',h1,h2,h3⟩
theorem Pg.Pl.grown {W W':World} {pb:Nat} {bl:List (List Int)} {row:Option Nat} (h:Pg.Pl W pb bl) (hg:W.grownBy W' row) (hne:some pb≠row):Pg.Pl W' pb bl:=by
 obtain⟨F,hF,hp⟩:=h
 exact⟨F,hF.grown hg hne,hp⟩
theorem Pg.Pl.notAt {W:World} {pb g:Nat} {bl:List (List Int)} (h:Pg.Pl W pb bl) {t:TypeId} {cs:Array Value} {fr:Nat × Nat} (hg:W.heap[g]?=some (.cells cs t fr)):pb≠g:=by
 rintro rfl
 obtain⟨F,⟨es,c,hh,_⟩,_⟩:=h
 have:=hg.symm.trans hh
 cases this
end Go.Proofs.YtbeakahjbkdeiaaGreatDoor
