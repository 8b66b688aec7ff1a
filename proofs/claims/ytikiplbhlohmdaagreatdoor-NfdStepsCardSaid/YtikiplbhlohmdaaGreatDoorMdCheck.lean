/- The layer model: Check, by walking its text. -/
import Derived.Test.YtikiplbhlohmdaaGreatDoorFaCh
set_option linter.unusedVariables false
set_option linter.unusedSimpArgs false
namespace Go.Proofs.YtikiplbhlohmdaaGreatDoor
open Go.RowKit
theorem Md.wrong_any (s:ByteArray) (w:World):Calls Tryz.prog 119 #[.string s] w (F.RetCh [(8,0,s)] w):=by
 have HA:=Za (F.at_any 8 0 s w)
 rw[Zl (by decide)]at HA
 go_enter Tryz.func119,Tryz.ntmps119
 go_wp2_with fail
 refine HA.out.mono ?_
 rintro e w1 ⟨q,v,rfl,hl,hq,hb⟩
 go_wp2
 go_ret
 exact⟨q,v,rfl,hl,hq,hb⟩
def Md.err (k:Nat):List (Int × Int × ByteArray):=if k=0 then [] else [(8,0,Md.note k)]
theorem Md.ret_err {k j:Nat} {W w w':World} {e:Ending} (hj:k=j) (h0:j≠0) (h:F.RetCh [(8,0,Md.note j)] W e w') (hb:Below w.heap.size w W):F.RetCh (Md.err k) w e w':=by
 subst hj
 unfold Md.err
 rw[Zl h0]
 obtain⟨q,v,h1,h2,h3,h4⟩:=h
 exact⟨q,v,h1,h2,h3,hb.trans (h4.mono hb.size)⟩
theorem Md.ret_nil {k:Nat} {w w':World} (hk:k=0) (hb:Below w.heap.size w w'):F.RetCh (Md.err k) w (.returned .nilIface) w':=by
 subst hk
 exact⟨[],.nilIface,rfl,rfl,rfl,hb⟩
theorem Md.drop_cons {α:Type} {l:List α} {k:Nat} {x:α} (h:l[k]?=some x):l.drop k=x::l.drop (k+1):=by
 obtain⟨h1,rfl⟩:=List.getElem?_eq_some_iff.1 h
 exact ZV h1
theorem Md.wf32 {x:Int} (h1 : -2147483648≤x) (h2:x≤2147483647):(Lit.int .i32 x).wf=true:=by
 simp only[Lit.wf,ZB,Zm]
 exact⟨Z9 (by decide) h1,Z9 h2 (by decide)⟩
def Md.pk (x y:Int):Value:=.agg #[.int .i32 x,.int .i32 y]
theorem Md.pk_inj {x y x' y':Int}:Md.pk x y=Md.pk x' y'↔x=x'∧y=y':=by simp[Md.pk]
theorem Md.pairKey:Go.WideMaps.ArrKey Tryz.prog 217 21 2:=⟨Tryz.underlying217,by kernel_rfl,by kernel_rfl,by kernel_rfl⟩
theorem Md.keyed:Go.Maps.Keyed Tryz.prog 217:=Go.Maps.Keyed.of_law Md.pairKey.law
theorem Md.pk_key {x y:Int} (hx : -2147483648≤x∧x≤2147483647) (hy : -2147483648≤y∧y≤2147483647):∃l,keyOf Tryz.prog 217 (Md.pk x y)=some l:=by
 refine Mp.keyArr Md.pairKey Tryz.underlying21 ⟨365-1,by kernel_rfl⟩ [x,y] rfl fun z hz=>?_
 simp only[Xd,YS,or_false]at hz
 rcases hz with rfl|rfl
 · exact Md.wf32 hx.1 hx.2
 · exact Md.wf32 hy.1 hy.2
def Md.Seen (F:Value→Option Value) (seen:List (List Int)):Prop:=∀x y,(F (Md.pk x y)).isSome=seen.contains [x,y]
theorem Md.Seen.look {w:World} {b:Nat} {F:Value→Option Value} {seen:List (List Int)} (h:Mp.Is Tryz.prog 217 w b F) (hs:Md.Seen F seen) {x y:Int} (hx : -2147483648≤x∧x≤2147483647) (hy : -2147483648≤y∧y≤2147483647) :
 ∃v,(Instr.lookup 215 (.map (some b)) (.agg #[.int .i32 x,.int .i32 y]) true).run Tryz.prog w=.ok (.tuple #[v,.bool (seen.contains [x,y])]) w:=by
 obtain⟨l,hl⟩:=Md.pk_key hx hy
 have hz:(zeroValue 21).run Tryz.prog w=.ok (.int .i32 0) w:=by kernel_rfl
 have:=h.look Md.keyed Tryz.underlying215 hz hl true
 rw[Zp rfl,hs x y]at this
 exact⟨_,this⟩
theorem Md.Seen.put {w:World} {b:Nat} {F:Value→Option Value} {seen:List (List Int)} (h:Mp.Is Tryz.prog 217 w b F) (hs:Md.Seen F seen) {x y:Int} (hx : -2147483648≤x∧x≤2147483647) (hy : -2147483648≤y∧y≤2147483647) (v:Value) :
 ∃w' F',(Instr.mapUpdate 215 (.map (some b)) (.agg #[.int .i32 x,.int .i32 y]) v).run Tryz.prog w=.ok () w'∧Mp.Is Tryz.prog 217 w' b F'∧Md.Seen F' (seen++[[x,y]])∧w.grownBy w' (some b):=by
 obtain⟨l,hl⟩:=Md.pk_key hx hy
 obtain⟨F',h1,h2⟩:∃F':Value→Option Value,F' (Md.pk x y)=some v∧∀z,z≠Md.pk x y→F' z=F z:=by
  classical
  exact⟨fun z=>if z=Md.pk x y then some v else F z,by simp,fun z hz=>by simp[hz]⟩
 obtain⟨w',g1,g2,g3⟩:=h.put Md.keyed Tryz.underlying215 hl F' h1 h2
 refine⟨w',F',g1,g2,fun x' y'=>?_,g3⟩
 by_cases e:x'=x∧y'=y
 · obtain⟨rfl,rfl⟩:=e
   rw[h1]
   simp
 · rw[h2 _ (fun e'=>e (Md.pk_inj.1 e')),hs x' y']
   simp
   intro e1 e2
   exact absurd ⟨e1,e2⟩ e
theorem Md.twice_step {T:List Rw.Row} {X:Int→Bool} {seen:List (List Int)} {r:Rw.Row} {l:List Rw.Row} {a:Bool} (h:a=Md.twice T X seen (r::l)) :
 a=if Md.comp T X r=true then (seen.contains r.2.2||Md.twice T X (seen++[r.2.2]) l) else Md.twice T X seen l:=by rw[h,Md.twice]
set_option maxRecDepth 100000 in
set_option maxHeartbeats 4000000 in
theorem Md.check_any (v:Value) (T:List Rw.Row) (S:List Int) (w:World) (eh:T.length≤1000000) (hbd:Md.bd T) (ep:∀r∈T,r.2.2.length≤1000000) (h:Md.Is w v T S) (hS:C.srt S) (e5:S.length≤1000000) :
 Calls Tryz.prog 88 #[v] w (F.RetCh (Md.err (Md.chk T (C.mem S))) w):=by
 obtain⟨A,c,XA,xc,rfl,h2,hX⟩:=id h
 obtain⟨xn,hxn⟩:∃k,S.length=k:=⟨_,rfl⟩
 obtain⟨n,hn⟩:∃k,T.length=k:=⟨_,rfl⟩
 have dp:=Za h
 rw[hn,hxn]at dp ⊢
 obtain⟨res,bt⟩:∃k,Md.chk T (C.mem S)=k:=⟨_,rfl⟩
 rw[bt]
 rw[hn]at eh
 have ct:Below w.heap.size w (w.alloc (.cells #[.slice A n c,.slice XA xn xc] 105)):=(Zd _ _).alloc (Zb _) _
 have cq:Rw.At (w.alloc (.cells #[.slice A n c,.slice XA xn xc] 105)) w.heap.size 105 [.slice A n c,.slice XA xn xc]:=Rw.At.new w 105 [.slice A n c,.slice XA xn xc]
 obtain⟨wa,dm⟩:∃wa,w.alloc (.cells #[.slice A n c,.slice XA xn xc] 105)=wa:=⟨_,rfl⟩
 rw[dm]at ct cq
 have cg:=h2.below ct
 have z0:=cq.cell 0 rfl
 have z1:=cq.cell 1 rfl
 have fj:=Za dm
 have ah:=Za ct
 have e8:=Za cq
 have bo:=Za cg
 have HN:=Za hn
 have fz:=Za hxn
 have a1:=Za bt
 have cu:=Za hbd
 have cz:=Za ep
 have ft:=Za hS
 clear dm ct cq cg hn hxn bt hbd ep h h2 hX hS
 unfold Md.tv at *
 go_enter Tryz.func88,Tryz.ntmps88
 go_upto_region 1 with (fail)
 rw[fj.out]
 go_wp2_with fail
 go_loopw [3,20] (fun v3 i wr=>∃(k:Nat) (last:Int),k≤n∧i=.int .i64 k∧v3=.int .i32 last∧(-2147483648≤last∧last≤2147483647)∧Md.rowsBad (-1) T=Md.rowsBad last (T.drop k)∧Below wa.heap.size wa wr) (fun _ i _=>n-(intOf i).toNat)
 case atStart=>exact⟨0,-1,ZE _,rfl,rfl,by omega,rfl,Zd _ _⟩
 case round =>
  obtain⟨k,last,hk,rfl,rfl,ck,ag,aw⟩:=hrel
  have aa:=e8.out.below aw
  have z0:=aa.cell 0 rfl
  have z1:=aa.cell 1 rfl
  have cj:=Za ag
  have cn:=Za aw
  have cy:=Za aa
  clear ag aa
  by_cases hlt:k<n
  · obtain⟨r,hr⟩:∃r,T[k]?=some r:=⟨_,Zc (by rw[HN.out];exact hlt)⟩
    have ax:=Zk hr
    have ag:=cu.out r ax
    obtain⟨b,o,a,cf,hb,c0,c1,c2,bg⟩:=(bo.out.below aw).row hr
    have aq:Below wr.heap.size wr (wr.alloc (.cells #[.int .i32 r.1,.int .i64 r.2.1,.slice a.1 r.2.2.length a.2] 113)):=(Zd _ _).alloc (Zb _) _
    have bu:=Za (Md.row_any r a.1 a.2 last (wr.alloc (.cells #[.int .i32 r.1,.int .i64 r.2.1,.slice a.1 r.2.2.length a.2] 113)) ag.1 ck ag.2 (cz.out r ax) (bg.below aq aq.size))
    have af:=Rw.At.new wr 113 [.int .i32 r.1,.int .i64 r.2.1,.slice a.1 r.2.2.length a.2]
    have bn:=Za af
    have b5:=Za (aw.trans (aq.mono aw.size))
    have hd:=Md.drop_cons hr
    have a7:=cj.out
    rw[hd,Md.rowsBad]at a7
    have dh:=Md.bad_le last r
    obtain⟨bd,hbd⟩:∃k,Md.bad last r=k:=⟨_,rfl⟩
    rw[hbd]at a7 bu dh
    have a8:=Za a7
    have ej:(k:Int)<n:=by omega
    have eb:(0:Int)≤k:=by omega
    subst cf
    unfold Md.rv at bu
    have dr:=ag.1.1
    have dw:=ag.1.2
    clear hr ax ag bg aq af hd a7 hbd aw
    go_wp2_with fail
    refine bu.out.mono ?_
    rintro e w1 ⟨rfl,dl⟩
    have bk:=bn.out.below dl
    obtain⟨y0,y1,y2,_,_,_⟩:=bk.three
    have cw:=Za (b5.out.trans (dl.mono b5.out.size))
    have e6:=bk.lt
    clear dl c0 c1 c2 z0 z1
    rcases bd with _|_|_|_|bd
    · have dv:(Md.note 0).toList.isEmpty=true:=by kernel_rfl
      have bj:Md.rowsBad (-1) T=Md.rowsBad r.1 (T.drop (k+1)):=by rw[a8.out];rfl
      have cc:=Za bj
      clear bj
      go_wp2_with fail
      exact⟨⟨k+1,r.1,by omega,by go_num,rfl,⟨dr,dw⟩,cc.out,cw.out⟩,by simp[intOf];omega⟩
    · have dv:(Md.note 1).toList.isEmpty=false:=by kernel_rfl
      have ap:res=1:=by rw[←a1.out];unfold Md.chk;rw[a8.out];rfl
      have bb:=Za ap
      clear ap
      go_wp2_with fail
      refine (Md.wrong_any _ _).mono ?_
      rintro e w2 ⟨q,v,rfl,g1,g2,g3⟩
      go_wp2_with fail
      go_ret
      exact Md.ret_err bb.out (by decide) ⟨q,v,rfl,g1,g2,g3⟩ (ah.out.trans (cw.out.mono ah.out.size))
    · have dv:(Md.note 2).toList.isEmpty=false:=by kernel_rfl
      have ap:res=2:=by rw[←a1.out];unfold Md.chk;rw[a8.out];rfl
      have bb:=Za ap
      clear ap
      go_wp2_with fail
      refine (Md.wrong_any _ _).mono ?_
      rintro e w2 ⟨q,v,rfl,g1,g2,g3⟩
      go_wp2_with fail
      go_ret
      exact Md.ret_err bb.out (by decide) ⟨q,v,rfl,g1,g2,g3⟩ (ah.out.trans (cw.out.mono ah.out.size))
    · have dv:(Md.note 3).toList.isEmpty=false:=by kernel_rfl
      have ap:res=3:=by rw[←a1.out];unfold Md.chk;rw[a8.out];rfl
      have bb:=Za ap
      clear ap
      go_wp2_with fail
      refine (Md.wrong_any _ _).mono ?_
      rintro e w2 ⟨q,v,rfl,g1,g2,g3⟩
      go_wp2_with fail
      go_ret
      exact Md.ret_err bb.out (by decide) ⟨q,v,rfl,g1,g2,g3⟩ (ah.out.trans (cw.out.mono ah.out.size))
    · omega
  · obtain rfl:n=k:=by omega
    have hz:Md.rowsBad (-1) T=0:=by
     rw[cj.out,Xz (by rw[HN.out];exact Zb _)]
     rfl
    obtain⟨b8,bi⟩:=Md.rowsBad_zero T (-1) hz
    have ee:Md.Ok T:=⟨by rw[HN.out];exact eh,bi,cu.out,cz.out⟩
    have HZ:=Za hz
    have en:=Za ee
    obtain⟨wb,rfl⟩:∃wb:World,wb=wr:=⟨_,rfl⟩
    have ec:∀c,Md.exp (Md.mp T) (T.length+3) [] c=Md.full T c:=fun _=>rfl
    have e1:=Za ec
    clear hz b8 bi ee ec hlt
    go_wp2_with fail
    go_loopw [37] (fun i wr=>∃k:Nat,k≤n∧i=.int .i64 k∧(∀r∈T.take k,(Md.full T r.1).isSome=true)∧Below wb.heap.size wb wr) (fun i _=>n-(intOf i).toNat)
    case atStart=>exact⟨0,ZE _,rfl,fun r hr=>by simp at hr,Zd _ _⟩
    case round =>
     obtain⟨k,hk,rfl,ay,au⟩:=hrel
     have aa:=cy.out.below au
     have y0:=aa.cell 0 rfl
     have y1:=aa.cell 1 rfl
     have b1:=Za ay
     have bl:=cn.out.trans (au.mono cn.out.size)
     have ae:=Za bl
     have bh:=Za aa
     have bc:=Za au
     have fe:=aa.lt
     clear ay aa au z0 z1
     by_cases hlt:k<n
     · obtain⟨r,hr⟩:∃r,T[k]?=some r:=⟨_,Zc (by rw[HN.out];exact hlt)⟩
       have ax:=Zk hr
       have ag:=cu.out r ax
       obtain⟨b,o,a,cf,hb,c0,c1,c2,bg⟩:=(bo.out.below bl).row hr
       have aq:Below wr.heap.size wr (wr.alloc (.cells #[.int .i32 r.1,.int .i64 r.2.1,.slice a.1 r.2.2.length a.2] 113)):=(Zd _ _).alloc (Zb _) _
       have b2:=ae.out.trans (aq.mono ae.out.size)
       have hE:=Md.exp_any T S (wr.alloc (.cells #[.int .i32 r.1,.int .i64 r.2.1,.slice a.1 r.2.2.length a.2] 113)) _ en.out (dp.out.below (ah.out.trans (b2.mono ah.out.size))) (T.length+3) [] (.slice none 0 0) r.1 0 _ (by omega) ag.1.1 ag.1.2 (by simp) (Zd _ _) (ZC _ _ _ _)
       rw[e1.out]at hE
       have cd:=Za b2
       have ed:=Za (bc.out.trans (aq.mono bc.out.size))
       have af:=Rw.At.new wr 113 [.int .i32 r.1,.int .i64 r.2.1,.slice a.1 r.2.2.length a.2]
       obtain⟨x0,x1,x2,_,_,_⟩:=af.three
       have ej:(k:Int)<n:=by omega
       have eb:(0:Int)≤k:=by omega
       obtain⟨fo,dc⟩:∃fo,Md.full T r.1=fo:=⟨_,rfl⟩
       rw[dc]at hE
       have ey:=Za dc
       have HR:=Za hr
       have fc:=Za ax
       subst cf
       clear hr ax ag bg aq b2 af dc
       go_wp2_with fail
       refine hE.mono ?_
       rintro e w2 ⟨A1,n1,fy,rfl,_,hg⟩
       have ef:=ed.out.trans (Rw.below_grown hg ed.out.size fun k hk=>by cases hk)
       have du:=Za ef
       have ba:=Za (cd.out.trans (Rw.below_grown hg cd.out.size fun k hk=>by cases hk))
       clear ef hg hE x0 x1 x2 y0 y1 c0 c1 c2
       rcases fo with _|fl
       · have ap:res=4:=by
          rw[←a1.out]
          unfold Md.chk
          have:Md.fullBad T=true:=by
           unfold Md.fullBad
           rw[YB]
           exact⟨r,fc.out,by rw[ey.out];rfl⟩
          rw[Zl (by rw[HZ.out];simp),Zp this]
         have bb:=Za ap
         clear ap
         go_wp2_with fail
         refine (Md.wrong_any _ _).mono ?_
         rintro e w3 ⟨q,v,rfl,g1,g2,g3⟩
         go_wp2_with fail
         go_ret
         exact Md.ret_err bb.out (by decide) ⟨q,v,rfl,g1,g2,g3⟩ (ah.out.trans (ba.out.mono ah.out.size))
       · have ay:∀r∈T.take (k+1),(Md.full T r.1).isSome=true:=by
          rw[Zw,HR.out]
          intro q hq
          rcases List.mem_append.1 hq with hq|hq
          · exact b1.out q hq
          · simp at hq
            subst hq
            rw[ey.out]
            rfl
         have cb:=Za ay
         clear ay
         go_wp2_with fail
         exact⟨⟨k+1,by omega,by go_num,cb.out,du.out⟩,by simp[intOf];omega⟩
     · obtain rfl:n=k:=by omega
       have eg:Md.fullBad T=false:=by
        unfold Md.fullBad
        rw[List.any_eq_false]
        intro r hr
        have:=b1.out r (by rw[Zj (by rw[HN.out];exact Zb _)];exact hr)
        cases hf:Md.full T r.1 with
        | none=>rw[hf]at this;cases this
        | some l=>simp
       have b6:res=if Md.twice T (C.mem S) [] T=true then 5 else 0:=by
        rw[←a1.out]
        unfold Md.chk
        rw[Zl (by rw[HZ.out];simp),Zl (by rw[eg];simp)]
       have ez:=Za b6
       obtain⟨wz,rfl⟩:∃wz:World,wz=wr:=⟨_,rfl⟩
       clear eg b6 hlt b1
       have gb:=@run_makeMap Tryz.prog
       have az:=Mp.Is.made wz Tryz.prog 217
       have dn:Below wz.heap.size wz (wz.alloc (.map #[] 0)):=(Zd _ _).alloc (Zb _) _
       have bz:=bh.out.alloc (.map #[] 0)
       have w0:=bz.cell 0 rfl
       have w1:=bz.cell 1 rfl
       obtain⟨wm,c7⟩:∃wm,wz.alloc (.map #[] 0)=wm:=⟨_,rfl⟩
       rw[c7]at az dn w0 w1
       have e0:=Za c7
       have cm:=Za az
       have fg:=Za dn
       clear az dn bz c7
       go_upto_region 18 with (fail)
       rw[e0.out]
       go_wp2_with fail
       go_loopw [56] (fun i wr=>∃(k:Nat) (F:Value→Option Value),k≤n∧i=.int .i64 k∧Md.twice T (C.mem S) [] T=Md.twice T (C.mem S) (((T.take k).filter (Md.comp T (C.mem S))).map fun r=>r.2.2) (T.drop k)∧Mp.Is Tryz.prog 217 wr wz.heap.size F∧Md.Seen F (((T.take k).filter (Md.comp T (C.mem S))).map fun r=>r.2.2)∧Below wz.heap.size wz wr) (fun i _=>n-(intOf i).toNat)
       case atStart=>exact⟨0,fun _=>none,ZE _,rfl,rfl,cm.out,fun x y=>rfl,fg.out⟩
       case round =>
        obtain⟨k,F,hk,rfl,b3,bp,bm,av⟩:=hrel
        have aa:=bh.out.below av
        have y0:=aa.cell 0 rfl
        have y1:=aa.cell 1 rfl
        have c6:=Za b3
        have ch:=Za bp
        have aj:=Za bm
        have bf:=ae.out.trans (av.mono ae.out.size)
        have ar:=Za av
        have a6:=Za bf
        have fp:=aa.lt
        have e4:=bp.lt
        clear b3 bp bm aa av w0 w1
        obtain⟨seen,df⟩:∃seen,(((T.take k).filter (Md.comp T (C.mem S))).map fun r=>r.2.2)=seen:=⟨_,rfl⟩
        rw[df]at c6 aj
        have e9:=Za df
        clear df
        by_cases hlt:k<n
        · obtain⟨r,hr⟩:∃r,T[k]?=some r:=⟨_,Zc (by rw[HN.out];exact hlt)⟩
          have ax:=Zk hr
          have ag:=cu.out r ax
          obtain⟨b,o,a,cf,hb,c0,c1,c2,bg⟩:=(bo.out.below bf).row hr
          have aq:Below wr.heap.size wr (wr.alloc (.cells #[.int .i32 r.1,.int .i64 r.2.1,.slice a.1 r.2.2.length a.2] 113)):=(Zd _ _).alloc (Zb _) _
          have b2:=a6.out.trans (aq.mono a6.out.size)
          have hC:=Md.comp_any _ T S r a.1 a.2 (wr.alloc (.cells #[.int .i32 r.1,.int .i64 r.2.1,.slice a.1 r.2.2.length a.2] 113)) en.out (dp.out.below (ah.out.trans (b2.mono ah.out.size))) ft.out e5 ag.1 ag.2 (cz.out r ax) (bg.below aq aq.size)
          have b5:=Za aq
          have af:=Rw.At.new wr 113 [.int .i32 r.1,.int .i64 r.2.1,.slice a.1 r.2.2.length a.2]
          obtain⟨x0,x1,x2,_,_,_⟩:=af.three
          have bn:=Za af
          have ej:(k:Int)<n:=by omega
          have eb:(0:Int)≤k:=by omega
          have b3:=c6.out
          rw[Md.drop_cons hr]at b3
          have bs:=Za (Md.twice_step b3)
          have er:(((T.take (k+1)).filter (Md.comp T (C.mem S))).map fun r=>r.2.2)=if Md.comp T (C.mem S) r=true then seen++[r.2.2] else seen:=by
           rw[Zw,hr,Yj,ZM,e9.out]
           by_cases hc:Md.comp T (C.mem S) r=true
           · simp[hc]
           · simp[hc]
          have b4:=Za er
          have dy:Md.comp T (C.mem S) r=true→∃x y,r.2.2=[x,y]:=by
           intro hc
           unfold Md.comp at hc
           simp only[ZB,Zm]at hc
           have h2:=hc.2.1
           match hh:r.2.2,h2 with
           | [x,y],_=>exact⟨x,y,rfl⟩
          have dz:=Za dy
          obtain⟨cr,eo⟩:∃cr,Md.comp T (C.mem S) r=cr:=⟨_,rfl⟩
          rw[eo]at hC bs b4 dz
          have cj:=Za ag
          have fk:=Za bg
          subst cf
          unfold Md.rv at hC
          clear hr ax ag bg aq b2 af b3 er dy eo
          go_wp2_with fail
          refine hC.mono ?_
          rintro e w2 ⟨rfl,dk⟩
          have b9:=b5.out.trans (dk.mono b5.out.size)
          have ba:=Za b9
          have ak:=bn.out.below dk
          obtain⟨x0,x1,x2,_,_,_⟩:=ak.three
          have ea:=Za ak
          have fh:=ak.lt
          clear dk b9 ak hC y0 y1 c0 c1 c2
          cases cr
          · have bx:=bs.out
            rw[Zl (by decide)]at bx
            have bw:=b4.out
            rw[Zl (by decide)]at bw
            have e7:=Za bx
            have ek:=Za bw
            clear bx bw
            go_wp2_with fail
            exact⟨⟨k+1,F,by omega,by go_num,by rw[ek.out];exact e7.out,ch.out.below ba.out,by rw[ek.out];exact aj.out,ar.out.trans (ba.out.mono ar.out.size)⟩,by simp[intOf];omega⟩
          · obtain⟨x,y,bq⟩:=dz.out rfl
            have hlen:r.2.2.length=2:=by rw[bq];rfl
            have hxb:=cj.out.2 x (by rw[bq];simp)
            have et:=cj.out.2 y (by rw[bq];simp)
            have br:=fk.out.below ba.out ba.out.size
            rw[bq]at br
            obtain⟨ab,ao,hA2,fx,di⟩:=br (by simp)
            have d0:w2.cell? ⟨ab,ao,none⟩=some (.int .i32 x):=by simpa using di 0 (by simp)
            have d1:w2.cell? ⟨ab,ao+1,none⟩=some (.int .i32 y):=by simpa using di 1 (by simp)
            rw[hA2,hlen]at x2
            rw[bq]at bs b4
            rw[Zp rfl]at bs b4
            have fw:=Za bq
            clear di br bq
            have e3:∀(A:Option Addr) (cp:Nat) (W:World),(Instr.arrayAt 217 (.slice A 2 cp)).run Tryz.prog W=.ok (.pointer A) W:=fun _ _ _=>by kernel_rfl
            have c8:Below w2.heap.size w2 (w2.alloc (.cells #[.int .i32 x,.int .i32 y] 217)):=(Zd _ _).alloc (Zb _) _
            have hmx:=(ch.out.below ba.out).below c8
            obtain⟨lv,e2⟩:=Md.Seen.look hmx aj.out hxb et
            obtain⟨w4,F',dt,ei,ew,eu⟩:=Md.Seen.put hmx aj.out hxb et (.int .i32 r.1)
            have cv:Below wz.heap.size wz (w2.alloc (.cells #[.int .i32 x,.int .i32 y] 217)):=ar.out.trans ((ba.out.trans (c8.mono ba.out.size)).mono ar.out.size)
            have du:=Za (cv.trans (Rw.below_grown eu cv.size fun k hk=>by cases hk;exact Zb _))
            have fq:=Za cv
            have fm:=Za ei
            have fu:=Za ew
            obtain⟨tw,b7⟩:∃tw,seen.contains [x,y]=tw:=⟨_,rfl⟩
            rw[b7]at e2 bs
            clear c8 hmx ei ew eu cv b7
            cases tw
            · have ai:=bs.out
              rw[YV]at ai
              have cx:=Za ai
              clear ai
              go_wp2_with fail
              exact⟨⟨k+1,F',by omega,by go_num,by rw[b4.out];exact cx.out,fm.out,by rw[b4.out];exact fu.out,du.out⟩,by simp[intOf];omega⟩
            · have ai:=bs.out
              rw[Xo]at ai
              have ap:res=5:=by rw[ez.out,Zp ai]
              have bb:=Za ap
              clear ai ap dt
              go_wp2_with fail
              refine (Md.wrong_any _ _).mono ?_
              rintro e w3 ⟨q,v,rfl,g1,g2,g3⟩
              go_wp2_with fail
              go_ret
              exact Md.ret_err bb.out (by decide) ⟨q,v,rfl,g1,g2,g3⟩ (ah.out.trans ((ae.out.trans (fq.out.mono ae.out.size)).mono ah.out.size))
        · obtain rfl:n=k:=by omega
          have b6:res=0:=by
           rw[ez.out,c6.out,Xz (by rw[HN.out];exact Zb _)]
           rfl
          have dx:=Za b6
          clear b6 hlt
          go_wp2_with fail
          go_ret
          exact Md.ret_nil dx.out (ah.out.trans (a6.out.mono ah.out.size))
end Go.Proofs.YtikiplbhlohmdaaGreatDoor
