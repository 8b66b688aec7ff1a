/- ucd.Of, by walking its text. -/
import Derived.Test.YtikiplbhlohmdaaGreatDoorPgNew
import Derived.Test.YtikiplbhlohmdaaGreatDoorMdOwn
set_option linter.unusedVariables false
set_option linter.unusedSimpArgs false
namespace Go.Proofs.YtikiplbhlohmdaaGreatDoor
open Go.RowKit
theorem Pg.IsL.below {lo:Nat} {w w':World} {v:Value} {idx:List Int} {bl:List (List Int)} (h:Pg.IsL lo w v idx bl) (hb:Below w.heap.size w w'):Pg.IsL lo w' v idx bl:=by
 obtain⟨g,A,c,h1,h0,h2,h3,h4⟩:=h
 exact⟨g,A,c,h1,h0,h2.below hb,h3.below hb hb.size,h4⟩
set_option maxRecDepth 100000 in
theorem Ud.says_any (c k:Int) (A:Option Addr) (n cap:Nat) (w:World) :
 Calls Tryz.prog 89 #[.agg #[.int .i32 c,.int .i64 k,.slice A n cap]] w fun e w'=>e=.returned (.bool (decide (0<k)||decide (0<n)))∧Below w.heap.size w w':=by
 have af:Below w.heap.size w (w.alloc (.cells #[.int .i32 c,.int .i64 k,.slice A n cap] 113)):=(Zd _ _).alloc (Zb _) _
 have ah:=Rw.At.new w 113 [.int .i32 c,.int .i64 k,.slice A n cap]
 obtain⟨wa,ae⟩:∃wa,w.alloc (.cells #[.int .i32 c,.int .i64 k,.slice A n cap] 113)=wa:=⟨_,rfl⟩
 have aa:Rw.At wa w.heap.size 113 [.int .i32 c,.int .i64 k,.slice A n cap]:=by rw[←ae];exact ah
 rw[ae]at af
 have aj:=Za ae
 have ag:=Za af
 have z1:=aa.cell 1 rfl
 have z2:=aa.cell 2 rfl
 have hl:=aa.lt
 clear af ah aa ae
 go_enter Tryz.func89,Tryz.ntmps89
 go_upto_region 1 with (fail)
 rw[aj.out]
 by_cases hk:0<k
 · go_wp2_with fail
   go_ret
   exact⟨by simp[hk],ag.out⟩
 · by_cases hn:0<n
   · have ai:(0:Int)<n:=by omega
     go_wp2_with fail
     go_ret
     exact⟨by simp[hn],ag.out⟩
   · have ai:¬(0:Int)<n:=by omega
     go_wp2_with fail
     go_ret
     exact⟨by simp[hk,hn],ag.out⟩
theorem infoEntry:(Tryz.prog.info? 79).map (fun i=>(i.zero,i.size,i.bytes))=some (some (.agg #[.slice none 0 0,.slice none 0 0,.bool false]),3,56):=by kernel_rfl
theorem Ud.Inv.below {T:List Rw.Row} {X:Int→Bool} {K M:List Rw.Row} {w w':World} {base D mb jb:Nat} {XA:Option Addr} {xn xc:Nat} {vc vp vi vs vm:Value} (h:Ud.Inv T X K M w base D mb jb XA xn xc vc vp vi vs vm) (hb:Below w.heap.size w w'):Ud.Inv T X K M w' base D mb jb XA xn xc vc vp vi vs vm:=by
 obtain⟨f,vT,ve,ads,es,G,J,h1,h2,h3,h4,h5,h6,h7,h8⟩:=h
 exact⟨f,vT,ve,ads,es,G,J,h1.below hb,h2.below hb,h3.below hb,h4.below hb,Zh h5 hb.size,h6,h7,h8⟩
theorem Ud.build_data (mb jb:Nat) (w:World):(Instr.build 135 #[(4,Value.map (some mb)),(5,Value.map (some jb))]).run Tryz.prog w=.ok (.agg (Ud.cells (.slice none 0 0) none 0 0 (.slice none 0 0) mb jb).toArray) w:=by kernel_rfl
def Ud.RetOf (T:List Rw.Row) (S:List Int) (w:World) (e:Ending) (w':World):Prop:=∃p,e=.returned (.tuple #[p,.nilIface])∧Ud.Is w' p T S∧Below w.heap.size w w'
set_option maxRecDepth 100000 in
set_option maxHeartbeats 4000000 in
theorem Ud.of_any (v:Value) (T:List Rw.Row) (S:List Int) (w:World) (oq:Md.Is w v T S) (ok:Ud.Ok T S) (hbd:Md.bd T) :
 Calls Tryz.prog 58 #[v] w (Ud.RetOf T S w):=by
 obtain⟨i0,Bs,Ct,C2,C4⟩:=Z7 infoRow
 have fy:=ok.good
 have ke:=ok.rises
 have yk:∀r∈T,r.2.2.length≤2:=fun r hr=>(fy r hr).2.2.2.1
 have ui:Md.Ok T:=⟨Zh ok.len (by decide),ke,hbd,fun r hr=>Zh (yk r hr) (by decide)⟩
 have qz:∀v W,Md.Is W v T S→Calls Tryz.prog 88 #[v] W fun e w'=>e=.returned .nilIface∧Below W.heap.size W w':=fun v W h=>by
  refine (Md.check_any v T S W ui.1 hbd ui.2.2.2 h ok.srt ok.slen).mono ?_
  rintro e w' ⟨q,v,rfl,hq,Du,hb⟩
  rw[ok.chk]at hq
  obtain rfl:q=[]:=by
   cases q with
   | nil=>rfl
   | cons x l=>simp[F.lk,Md.err]at hq
  obtain rfl:v=.nilIface:=Du
  exact⟨rfl,hb⟩
 have xp:=oq
 obtain⟨A,c,XA,xc,rfl,pz,hX⟩:=xp
 obtain⟨n,hn⟩:∃k,T.length=k:=⟨_,rfl⟩
 obtain⟨xn,hxn⟩:∃k,S.length=k:=⟨_,rfl⟩
 obtain⟨X,B0⟩:∃X,C.mem S=X:=⟨_,rfl⟩
 rw[hn,hxn]at oq ⊢
 unfold Md.tv at oq ⊢
 have zn:n≤10000:=by rw[←hn];exact ok.len
 obtain⟨wa,th⟩:∃wa,w.alloc (.cells #[.slice A n c,.slice XA xn xc] 105)=wa:=⟨_,rfl⟩
 have ng:Below w.heap.size w wa:=by rw[←th];exact (Zd _ _).alloc (Zb _) _
 have p5:Rw.At wa w.heap.size 105 [.slice A n c,.slice XA xn xc]:=by rw[←th];exact Rw.At.new w 105 [.slice A n c,.slice XA xn xc]
 have B7:=Za th
 have xe:=Za ng
 have zt:=Za p5
 have wt:=Za (oq.below ng)
 have rk:=Za (pz.below ng)
 have HX:=Za (hX.below ng ng.size)
 have qi:=Za qz
 have zg:=Za ui
 have j0:=Za ok
 have HN:=Za hn
 have Dm:=Za hxn
 have Aa:=Za B0
 have s9:=Za hbd
 have Cx:=Za yk
 have kq:=Za fy
 have yh:=p5.lt
 have z0:=p5.cell 0 rfl
 have z1:=p5.cell 1 rfl
 have D5:=@run_makeMap Tryz.prog
 have D4:=Ud.build_data
 clear th ng p5 oq pz hX qz ui ok hn hxn B0 hbd yk fy ke
 go_enter Tryz.func58,Tryz.ntmps58
 go_upto_region 1 with (fail)
 rw[B7.out]
 go_wp2_with fail
 refine (qi.out _ wa wt.out).mono ?_
 rintro e w1 ⟨rfl,na⟩
 have dm:=Za (zt.out.below na)
 have ly:=Za (wt.out.below na)
 have kp:=Za (rk.out.below na)
 have zy:=Za (HX.out.below na na.size)
 have B6:=Za (xe.out.trans (na.mono xe.out.size))
 clear na z0 z1 yh wt zt rk HX xe B7 qi
 have z0:=dm.out.cell 0 rfl
 have z1:=dm.out.cell 1 rfl
 have xy:=dm.out.lt
 obtain⟨w2,iw⟩:∃w2,((w1.alloc (.map #[] 0)).alloc (.map #[] 0)).alloc (.cells (Ud.cells (.slice none 0 0) none 0 0 (.slice none 0 0) w1.heap.size (w1.heap.size+1)).toArray 135)=w2:=⟨_,rfl⟩
 have lz:Below w1.heap.size w1 w2:=by
  rw[←iw]
  exact (((Zd _ _).alloc (Zb _) _).alloc (by simp) _).alloc (by simp;omega) _
 have sk:Rw.At w2 (w1.heap.size+1+1) 135 (Ud.cells (.slice none 0 0) none 0 0 (.slice none 0 0) w1.heap.size (w1.heap.size+1)):=by
  rw[←iw]
  have:=Rw.At.new ((w1.alloc (.map #[] 0)).alloc (.map #[] 0)) 135 (Ud.cells (.slice none 0 0) none 0 0 (.slice none 0 0) w1.heap.size (w1.heap.size+1))
  simpa using this
 have ew:Mp.Is Tryz.prog 21 w2 w1.heap.size fun _=>none:=by
  rw[←iw]
  exact ((Mp.Is.made w1 Tryz.prog 21).below ((Zd _ _).alloc (Zb _) _)).below ((Zd _ _).alloc (Zb _) _)
 have zp:Mp.Is Tryz.prog 168 w2 (w1.heap.size+1) fun _=>none:=by
  rw[←iw]
  have:=(Mp.Is.made (w1.alloc (.map #[] 0)) Tryz.prog 168).below ((Zd _ _).alloc (Zb _) (.cells (Ud.cells (.slice none 0 0) none 0 0 (.slice none 0 0) w1.heap.size (w1.heap.size+1)).toArray 135))
  simpa using this
 have Ag:w2.heap.size=w1.heap.size+3:=by rw[←iw];simp
 have fe:=Za (dm.out.below lz)
 have C9:=Za (ly.out.below lz)
 have zu:=Za (kp.out.below lz)
 have D1:=Za (zy.out.below lz lz.size)
 have Bl:=Za lz
 have C3:=Za iw
 have p7:=Za sk
 have yy:=Za ew
 have yx:=Za zp
 have Ck:=Za Ag
 go_upto_region 5 with (fail)
 unfold Ud.cells at iw
 rw[iw]
 have k0:=fe.out.cell 0 rfl
 have k1:=fe.out.cell 1 rfl
 have k2:=fe.out.lt
 have d0:=p7.out.cell 1 rfl
 have d1:=p7.out.frozen 1
 have d2:=p7.out.lt
 clear iw lz sk ew zp Ag z0 z1 xy
 obtain⟨w3,ss⟩:∃w3,w2.setCell ⟨w1.heap.size+1+1,1,none⟩ (.slice XA xn xc)=w3:=⟨_,rfl⟩
 have Bi:w2.grownBy w3 (some (w1.heap.size+1+1)):=by rw[←ss];exact Rw.grown_set _ _ _
 have Bt:Rw.At w3 (w1.heap.size+1+1) 135 (Ud.cells (.slice none 0 0) XA xn xc (.slice none 0 0) w1.heap.size (w1.heap.size+1)):=by rw[←ss];exact p7.out.set 1 _
 have zq:=Za ss
 have n7:=Za Bi
 have By:=Za Bt
 clear ss Bi Bt
 go_upto_region 6 with (fail)
 rw[zq.out]
 have ap:Below w1.heap.size w1 w3:=Bl.out.trans (Below.grown (Zd _ _) n7.out Bl.out.size (by intro k hk;simp only[Zi]at hk;omega))
 obtain⟨f0,wo⟩:∃f:Ud.Ix→Option Fam.Row,f=Fam.set (Fam.set (Fam.set (Fam.set (Fam.set (Fam.set (Fam.set (fun _=>none) (0,0) ⟨113,3,.slice none 0 0,0,[]⟩) (0,1) ⟨166,2,.slice none 0 0,0,[]⟩) (0,2) ⟨166,2,.slice none 0 0,0,[]⟩) (0,3) ⟨79,3,.slice none 0 0,0,[]⟩) (0,4) (Ud.rowV (.slice none 0 0) [])) (0,5) (Ud.rowV (.slice none 0 0) [])) (0,6) (Ud.rowV (.slice none 0 0) []):=⟨_,rfl⟩
 have kg:Fam w3 (w1.heap.size+3) f0:=by
  rw[wo]
  have ib:∀g,(Value.slice none 0 0).ownBlock=some g→w3.heap.size≤g:=fun g hg=>by simp[Value.ownBlock]at hg
  exact (((((((Fam.mk' w3 _).new (Zd _ _) _ (ZC _ _ _ _) ib).new (Zd _ _) _ (ZC _ _ _ _) ib).new (Zd _ _) _ (ZC _ _ _ _) ib).new (Zd _ _) _ (ZC _ _ _ _) ib).new (Zd _ _) _ (ZC _ _ _ _) ib).new (Zd _ _) _ (ZC _ _ _ _) ib).new (Zd _ _) _ (ZC _ _ _ _) ib
 have qy:Ud.Inv T X [] [] w3 (w1.heap.size+3) (w1.heap.size+1+1) w1.heap.size (w1.heap.size+1) XA xn xc (.slice none 0 0) (.slice none 0 0) (.slice none 0 0) (.slice none 0 0) (.slice none 0 0):=by
  refine⟨f0,.slice none 0 0,.slice none 0 0,[],[],fun _=>none,fun _=>none,kg,By.out,yy.out.grown n7.out (by simp;omega),yx.out.grown n7.out (by simp),by rw[←Ck.out];exact n7.out.size,?_,fun c=>.inl ⟨rfl,rfl⟩,fun a c=>rfl⟩
  rw[wo]
  refine⟨rfl,rfl,by simp[Fam.set,Rw.fl],by simp[Fam.set,Pg.fl,Ud.clK],by simp[Fam.set,Pg.fl,Ud.plG],by simp[Fam.set,Ud.flE],by simp[Fam.set,Ud.innM],by simp[Fam.set,Ud.secM,Ud.prsM],by simp[Fam.set,Ud.mpdM],fun j r a hj=>by simp at hj,fun j r a hj=>by simp at hj⟩
 have wm:=Za qy
 have xo:=Za ap
 have lb:=Za (fe.out.grown n7.out (by have:=dm.out.lt;simp only[X3,Zi];omega))
 clear qy kg wo ap k0 k1 k2 d0 d1 d2 fe p7 yy yx n7 By zq C3
 have k0:=lb.out.cell 0 rfl
 have k1:=lb.out.cell 1 rfl
 have k2:=lb.out.lt
 go_wp2_with fail
 go_loopw [6,7,8,9,10,33] (fun v6 v7 v8 v9 v10 i wr=>∃(j:Nat) (vc vp vi vs vm:Value),j≤n∧i=.int .i64 j∧v6=vc∧v7=vp∧v8=vi∧v9=vs∧v10=vm ∧
  Ud.Inv T X (Ud.keep (T.take j)) (Ud.mr (T.take j)) wr (w1.heap.size+3) (w1.heap.size+1+1) w1.heap.size (w1.heap.size+1) XA xn xc vc vp vi vs vm∧Below w1.heap.size w1 wr) (fun _ _ _ _ _ i _=>n-(intOf i).toNat)
 case atStart=>exact⟨0,_,_,_,_,_,ZE _,rfl,rfl,rfl,rfl,rfl,rfl,wm.out,xo.out⟩
 case round =>
  obtain⟨j,vc,vp,vi,vs,vm,hj,rfl,h6,h7,h8,h9,x7,hinv,bo⟩:=hrel
  replace h6:=h6.symm;replace h7:=h7.symm;replace h8:=h8.symm;replace h9:=h9.symm;replace x7:=x7.symm
  subst h6;subst h7;subst h8;subst h9;subst x7
  have du:=Za hinv
  have ch:=Za bo
  have kz:=dm.out.below bo
  have Co:=Za kz
  clear hinv
  by_cases hlt:j<n
  · obtain⟨r,hr⟩:∃r,T[j]?=some r:=⟨_,Zc (by rw[HN.out];exact hlt)⟩
    have oo:=Zk hr
    have zo:=s9.out r oo
    have Cl:=Cx.out r oo
    have y8:=kq.out r oo
    have ze:T.take (j+1)=T.take j++[r]:=by rw[Zw,hr];rfl
    obtain⟨b,o,a,C0,hb,y2,Aw,B9,B2⟩:=kp.out.row hr
    have c0:=((bcell bo).1 b (o+j*3) hb).trans y2
    have c1:=((bcell bo).1 b (o+j*3+1) hb).trans Aw
    have c2:=((bcell bo).1 b (o+j*3+2) hb).trans B9
    have Dz:b<wr.heap.size:=Zf hb bo.size
    obtain⟨ml,lm⟩:∃k,r.2.2.length=k:=⟨_,rfl⟩
    rw[lm]at c2 Cl
    have jI:(j:Int)<n:=by omega
    have D0:(0:Int)≤j:=by omega
    obtain⟨wb,tz⟩:∃wb,wr.alloc (.cells #[.int .i32 r.1,.int .i64 r.2.1,.slice a.1 ml a.2] 113)=wb:=⟨_,rfl⟩
    have u7:Below wr.heap.size wr wb:=by rw[←tz];exact (Zd _ _).alloc (Zb _) _
    have re:Rw.At wb wr.heap.size 113 [.int .i32 r.1,.int .i64 r.2.1,.slice a.1 ml a.2]:=by rw[←tz];exact Rw.At.new wr 113 [.int .i32 r.1,.int .i64 r.2.1,.slice a.1 ml a.2]
    have Be:=Za tz
    have ul:=Za u7
    have ei:=Za re
    have o2:=Za ((B2.below bo (Zb _)).below (u7.mono bo.size) (Zb _))
    have bl:=Za lm
    have uh:=Za ze
    have C1:=Za oo
    have l4:=Za zo
    have xz:=Za y8
    have HR:=Za hr
    subst C0
    clear y2 Aw B9 B2 hr oo lm tz u7 re ze zo y8 kz k0 k1 k2
    go_upto_region 11 with (fail)
    rw[Be.out]
    have b0:=ei.out.cell 0 rfl
    have b1:=ei.out.cell 1 rfl
    have b2:=ei.out.cell 2 rfl
    have b3:=ei.out.lt
    clear c0 c1 c2
    go_wp2_with fail
    refine (Ud.says_any r.1 r.2.1 a.1 ml a.2 wb).mono ?_
    rintro e w4 ⟨rfl,o0⟩
    have j8:=Za (ul.out.trans (o0.mono ul.out.size))
    have pg:=Za o0
    have ea:=Za (ei.out.below o0)
    have lh:=Za (o2.out.below (o0.mono (Zh bo.size ul.out.size)) (Zb _))
    clear o0 b0 b1 b2 b3 bo
    rcases hsay:(decide (0<r.2.1)||decide (0<ml)) with _|_
    · have ib:Ud.says r=false:=by unfold Ud.says;rw[bl.out];exact hsay
      obtain⟨q1,q2⟩:=Ud.add_none (T:=T) (X:=X) ib (R:=T.take j)
      have az:Ud.Inv T X (Ud.keep (T.take (j+1))) (Ud.mr (T.take (j+1))) w4 (w1.heap.size+3) (w1.heap.size+1+1) w1.heap.size (w1.heap.size+1) XA xn xc vc vp vi vs vm:=by
       rw[uh.out,q1,q2]
       exact du.out.below j8.out
      have nf:=Za az
      have Cw:=Za (ch.out.trans (j8.out.mono ch.out.size))
      clear az ib q1 q2
      go_wp2_with fail
      exact⟨⟨j+1,_,_,_,_,_,by omega,by go_num,rfl,rfl,rfl,rfl,rfl,nf.out,Cw.out⟩,by simp[intOf];omega⟩
    · have ri:Ud.says r=true:=by unfold Ud.says;rw[bl.out];exact hsay
      obtain⟨f,vT,ve,ads,es,G,J,hF,hD,hM,hJ,bi,ax,cu,cx⟩:=du.out
      obtain⟨Kr,ig⟩:∃K,Ud.keep (T.take j)=K:=⟨_,rfl⟩
      obtain⟨Mr,rz⟩:∃M,Ud.mr (T.take j)=M:=⟨_,rfl⟩
      have Ax:Kr.length≤10000:=by rw[←ig];unfold Ud.keep;exact Nat.le_trans (List.length_filter_le _ _) (by rw[List.length_take];omega)
      have s4:Mr.length≤10000:=by rw[←rz];unfold Ud.mr;exact Nat.le_trans (List.length_filter_le _ _) (by rw[List.length_take];omega)
      rw[ig,rz]at ax
      rw[rz]at cu cx
      have r3:wr.ownsRow (w1.heap.size+3) 113 3 vT Kr.length (Rw.fl Kr ads):=hF.own _ _ ax.t
      obtain⟨AT,cT,rfl⟩:=own_form r3
      have nz:wr.ownsRow (w1.heap.size+3) 166 2 vc Kr.length (Pg.fl (Ud.clK Kr)):=hF.own _ _ ax.c
      obtain⟨Ac,cc,rfl⟩:=own_form nz
      clear r3 nz
      obtain⟨Kl,i1⟩:∃k,Kr.length=k:=⟨_,rfl⟩
      have Cn:Kl≤10000:=by rw[←i1];exact Ax
      rw[i1]at hD ⊢
      have Dy:w1.heap.size+3≤wr.heap.size:=bi
      obtain⟨k0,yw,Ba,Ao,y9⟩:=Z7 infoCell
      obtain⟨l0,Cg,Di,Cd,Df⟩:=Z7 infoEntry
      obtain⟨p0,nn,ny,nw,ol⟩:=Z7 infoRune
      have ek:IntKind.u16.wrap r.2.1=r.2.1:=by have h1:=xz.out.2.1;have h2:=xz.out.2.2.1;rw[IntKind.wrap_u16];omega
      obtain⟨f1,xq⟩:∃f1,f1=Fam.set f (9,0) ⟨113,3,.slice (some ⟨wr.heap.size,0,none⟩) 1 1,1,[.int .i32 r.1,.int .i64 r.2.1,.slice a.1 ml a.2]⟩:=⟨_,rfl⟩
      have Bb:Fam w4 (w1.heap.size+3) f1:=by
       have:=(hF.box bi (9,0) [.int .i32 r.1,.int .i64 r.2.1,.slice a.1 ml a.2] 113 1 3 rfl (by decide))
       rw[Be.out,←xq]at this
       exact this.below pg.out
      have Bh:=hD.below j8.out
      have Au:=hM.below j8.out
      have Ae:=hJ.below j8.out
      have dl:=Zh bi j8.out.size
      have Bo:=Za Bb
      have mg:=Za xq
      have uf:=Za Bh
      have zm:=Za Au
      have z7:=Za Ae
      have aj:=Za ax
      have ja:=Za cu
      have ef:=Za cx
      have xr:=Za ig
      have Az:=Za rz
      have n9:=Za i1
      have vt:=Za ri
      have e1:=Stg.Keep.cells (s:=fun b=>b=wr.heap.size∨b=w1.heap.size+1+1) (w:=w4.drew) (uf.out.cell 0 rfl) (.inr rfl)
      have e2:=Stg.Keep.cells (s:=fun b=>b=wr.heap.size∨b=w1.heap.size+1+1) (w:=w4.drew) (ea.out.cell 0 rfl) (.inl rfl)
      have e3:=Stg.Keep.cells (s:=fun b=>b=wr.heap.size∨b=w1.heap.size+1+1) (w:=w4.drew) (ea.out.cell 1 rfl) (.inl rfl)
      have e4:=Stg.Keep.cells (s:=fun b=>b=wr.heap.size∨b=w1.heap.size+1+1) (w:=w4.drew) (ea.out.cell 2 rfl) (.inl rfl)
      clear hF hD hM hJ ax cu cx ig rz i1 ri Bb xq Bh Au Ae bi du
      go_wp2_with fail
      refine Stg.wp_region (Stg.Keep fun b=>b=wr.heap.size∨b=w1.heap.size+1+1) (Stg.Keep.rel _) (by kernel_rfl) (by kernel_rfl) (by kernel_rfl) ?_
      iterate 5 (refine Stg.readW (by kernel_rfl) (by kernel_rfl) (by kernel_rfl) ?_;intro K hK;go_big_quiet_op;go_big_quiet_on)
      refine Stg.read 0 (by kernel_rfl) (by kernel_rfl) (by kernel_rfl) w4.drew rfl (by kernel_rfl) ?_;intro K hK;go_big_quiet_op;go_big_quiet_on
      refine Stg.readW (by kernel_rfl) (by kernel_rfl) (by kernel_rfl) ?_;intro K hK;go_big_quiet_op;go_big_quiet_on
      refine Stg.read 0 (by kernel_rfl) (by kernel_rfl) (by kernel_rfl) w4.drew rfl (by kernel_rfl) ?_;intro K hK;go_big_quiet_op;go_big_quiet_on
      refine Stg.readW (by kernel_rfl) (by kernel_rfl) (by kernel_rfl) ?_;intro K hK;go_big_quiet_op;go_big_quiet_on
      refine Stg.read 0 (by kernel_rfl) (by kernel_rfl) (by kernel_rfl) w4.drew rfl (by kernel_rfl) ?_;intro K hK;go_big_quiet_op;go_big_quiet_on
      refine Stg.readW (by kernel_rfl) (by kernel_rfl) (by kernel_rfl) ?_;intro K hK;go_big_quiet_op;go_big_quiet_on
      refine Stg.read 0 (by kernel_rfl) (by kernel_rfl) (by kernel_rfl) w4.drew rfl (by kernel_rfl) ?_;intro K hK;go_big_quiet_op;go_big_quiet_on
      refine Stg.call 42 _ _ rfl (C.enter Tryz.func42 (by kernel_rfl) rfl) [.slice a.1 ml a.2] rfl w4.drew _ (R.clone_any a.1 ml a.2 w1.heap.size r.2.2 w4.drew bl.out (by omega) (Zh ch.out.size j8.out.size) (lh.out.below (Zd _ _).drew (Zb _))) (by kernel_rfl) rfl (by kernel_rfl) ?_
      rintro e w5 ⟨A5,c5,rfl,cv,ue⟩
      refine⟨_,rfl,Stg.Keep.of_below ue (by rintro q (rfl|rfl);exact ea.out.lt;exact uf.out.lt),?_⟩
      intro A' aa;simp only[Act.put,Zs,ZF,ZD]at aa;subst aa
      obtain⟨f2,pd⟩:∃f2,f2=Fam.set f1 (2,(Kl:Int)) ⟨21,1,.slice A5 ml c5,ml,Ud.ints r.2.2⟩:=⟨_,rfl⟩
      have Ak:Fam w5 (w1.heap.size+3) f2:=by rw[pd];exact (Bo.out.below (Zd _ _).drew).new ue _ (own_mono cv dl) (fun g hg=>(own_at cv hg).1)
      have bz:Below w4.heap.size w4 w5:=(Zd _ _).drew.trans ue
      have my:=ea.out.below bz
      have xl:=uf.out.below bz
      have gv:=Zh dl bz.size
      refine Stg.readW (by kernel_rfl) (by kernel_rfl) (by kernel_rfl) ?_;intro K hK;go_big_quiet_op;go_big_quiet_on
      refine Stg.stepW w5 (by kernel_rfl) (by kernel_rfl) rfl (by kernel_rfl) ?_;intro K hK;go_simp
      obtain⟨w6,s8⟩:∃w6,w5.alloc (.cells #[.int .i32 r.1,.int .i64 r.2.1,.slice A5 ml c5] 113)=w6:=⟨_,rfl⟩
      have ie:Below w5.heap.size w5 w6:=by rw[←s8];exact (Zd _ _).alloc (Zb _) _
      have si:Sl w6 w6.heap.size (some ⟨w5.heap.size,0,none⟩) [.int .i32 r.1,.int .i64 r.2.1,.slice A5 ml c5]:=by rw[←s8];exact (Rw.At.new w5 113 [.int .i32 r.1,.int .i64 r.2.1,.slice A5 ml c5]).slt.sl
      have nk:=Ak.below ie
      have lq:=my.below ie
      have uo:=xl.below ie
      have ba:=Zh gv ie.size
      rw[s8]
      refine hK _ _ (Stg.Keep.of_below ie (by rintro q (rfl|rfl);exact my.lt;exact xl.lt)) ?_
      intro A' aa;subst aa
      have dy:f2 (0,0)=some ⟨113,3,.slice AT Kl cT,Kl,Rw.fl Kr ads⟩:=by rw[pd,Fam.set_other _ _ (by intro e;cases e),mg.out,Fam.set_other _ _ (by intro e;cases e),aj.out.t,n9.out]
      have sb:f2 (9,0)=some ⟨113,3,.slice (some ⟨wr.heap.size,0,none⟩) 1 1,1,[.int .i32 r.1,.int .i64 r.2.1,.slice a.1 ml a.2]⟩:=by rw[pd,Fam.set_other _ _ (by intro e;cases e),mg.out,Fam.set_same]
      refine Stg.stepW w6 (by kernel_rfl) (by kernel_rfl) rfl (by kernel_rfl) ?_;intro K hK
      refine Fam.wp_append w6 _ _ _ rfl nk (0,0) _ dy i0 _ 40 Tryz.underlying95 Bs Ct C2 C4 rfl (by show 0<3;decide) rfl w6.heap.size (some ⟨w5.heap.size,0,none⟩) 1 1 [.int .i32 r.1,.int .i64 r.2.1,.slice A5 ml c5] rfl rfl si (by simp[Value.oneCell']) (by simp only[maxLen];omega) (by simp only;omega) ba ?_
      intro v7 w7 xv oh nu
      have ee:=nk.ne (i:=(0,0)) (j:=(9,0)) (by intro e;cases e) dy sb (b:=wr.heap.size) rfl
      have ag:=nk.low dy (b:=w1.heap.size+1+1) (by omega)
      have r5:=uo.grown nu ag
      refine hK _ _ (Stg.Keep.of_grown nu (by rintro q (rfl|rfl);exact⟨lq.lt,Z8 ee⟩;exact⟨uo.lt,Z8 ag⟩)) ?_
      have kn:w7.ownsRow (w1.heap.size+3) 113 3 v7 (Kl+1) (Rw.fl Kr ads++[.int .i32 r.1,.int .i64 r.2.1,.slice A5 ml c5]):=xv.own _ _ (Fam.set_same _ _ _)
      obtain⟨A7,c7,rfl⟩:=own_form kn
      intro A' aa;simp only[Act.put,Zs,ZF,ZD]at aa;subst aa
      iterate 3 (refine Stg.readW (by kernel_rfl) (by kernel_rfl) (by kernel_rfl) ?_;intro K hK;go_big_quiet_op;go_big_quiet_on)
      have u0:=r5.cell 0 rfl
      have u1:=r5.frozen 0
      have u2:=r5.lt
      refine Stg.last w7 (by kernel_rfl) (by kernel_rfl) (by kernel_rfl) rfl (by kernel_rfl) ?_;intro K hK;go_simp
      obtain⟨w8,s5⟩:∃w8,w7.setCell ⟨w1.heap.size+1+1,0,none⟩ (.slice A7 (Kl+1) c7)=w8:=⟨_,rfl⟩
      rw[s5]
      refine hK _ _ ?_
      intro A' aa;subst aa
      refine Stg.nil w8 rfl ?_
      have qs:=lq.grown nu ee
      have j6:w7.grownBy w8 (some (w1.heap.size+1+1)):=by rw[←s5];exact Rw.grown_set _ _ _
      have ej:Hid (Rw.At w8 wr.heap.size 113 [.int .i32 r.1,.int .i64 r.2.1,.slice a.1 ml a.2]):=Za (qs.grown j6 (by simp only[X3,Zi];omega))
      obtain⟨f3,wh⟩:∃f3,f3=Fam.set f2 (0,0) ⟨113,3,.slice A7 (Kl+1) c7,Kl+1,Rw.fl Kr ads++[.int .i32 r.1,.int .i64 r.2.1,.slice A5 ml c5]⟩:=⟨_,rfl⟩
      have q3:Hid (Fam w8 (w1.heap.size+3) f3):=Za (by rw[wh];exact xv.other j6 (by omega))
      have z8:Hid (Rw.At w8 (w1.heap.size+1+1) 135 (Ud.cells (.slice A7 (Kl+1) c7) XA xn xc ve w1.heap.size (w1.heap.size+1))):=Za (by rw[←s5];exact r5.set 0 _)
      have B4:=Za ((((zm.out.below bz).below ie).grown nu (Z8 (nk.low dy (b:=w1.heap.size) (by omega)))).grown j6 (by simp only[X3,Zi];omega))
      have Bu:=Za ((((z7.out.below bz).below ie).grown nu (Z8 (nk.low dy (b:=w1.heap.size+1) (by omega)))).grown j6 (by simp only[X3,Zi];omega))
      have wq:w1.heap.size≤w4.heap.size:=by omega
      have Bg:Hid (Below w1.heap.size w1 w8):=Za (ch.out.trans ((j8.out.mono (by omega)).trans ((bz.mono wq).trans ((ie.mono (by have:=bz.size;omega)).trans ((oh.mono (by omega)).trans (Below.grown (Zd _ _) j6 (by have:=oh.size;omega) (by intro k hk;simp only[Zi]at hk;omega)))))))
      have gm:w1.heap.size+3≤w8.heap.size:=Zh ba (Zh oh.size j6.size)
      have n8:=Za pd
      have l5:=Za wh
      have ox:=Za (lh.out.below ((bz.mono wq).trans ((ie.mono (by have:=bz.size;omega)).trans ((oh.mono (by omega)).trans (Below.grown (Zd _ _) j6 (by have:=oh.size;omega) (by intro k hk;simp only[Zi]at hk;omega))))) (Zb _))
      clear qs j6 xv r5 oh nu ee ag nk lq uo ie si s8 s5 my xl ue bz Ak cv kn pd wh dy sb u0 u1 u2 ba gv dl wq e1 e2 e3 e4 lh ea uf zm z7 Bo pg ei o2
      have b0:=ej.out.cell 0 rfl
      have b1:=ej.out.cell 1 rfl
      have b2:=ej.out.cell 2 rfl
      have b3:=ej.out.lt
      have jz:f3 (0,1)=some ⟨166,2,.slice Ac Kl cc,Kl,Pg.fl (Ud.clK Kr)⟩:=by rw[l5.out,Fam.set_other _ _ (by intro e;cases e),n8.out,Fam.set_other _ _ (by intro e;cases e),mg.out,Fam.set_other _ _ (by intro e;cases e),aj.out.c,n9.out]
      obtain⟨w9,su⟩:∃w9,w8.alloc (.cells #[.int .i32 r.1,.int .u16 r.2.1] 166)=w9:=⟨_,rfl⟩
      have s6:Below w8.heap.size w8 w9:=by rw[←su];exact (Zd _ _).alloc (Zb _) _
      have o5:Sl w9 w9.heap.size (some ⟨w8.heap.size,0,none⟩) [.int .i32 r.1,.int .u16 r.2.1]:=by rw[←su];exact (Rw.At.new w8 166 [.int .i32 r.1,.int .u16 r.2.1]).slt.sl
      have ey:=Za (q3.out.below s6)
      have af:=Zh gm s6.size
      have y5:=Za su
      have il:=Za s6
      have qa:=Za o5
      clear su s6 o5
      go_upto_region 14 with (first|(at_builtin;rw[y5.out];refine Fam.wpList_append w9 rfl _ _ _ rfl ey.out (0,1) _ jz k0 _ 8 Tryz.underlying163 yw Ba Ao y9 rfl (by show 0<2;decide) rfl w9.heap.size (some ⟨w8.heap.size,0,none⟩) 1 1 [.int .i32 r.1,.int .u16 r.2.1] rfl rfl qa.out (by simp[Value.oneCell']) (by simp only[maxLen];omega) (by simp only;omega) af ?_;intro v10 ao mh iz gz)|fail)
      have kt:f3 (9,0)=some ⟨113,3,.slice (some ⟨wr.heap.size,0,none⟩) 1 1,1,[.int .i32 r.1,.int .i64 r.2.1,.slice a.1 ml a.2]⟩:=by rw[l5.out,Fam.set_other _ _ (by intro e;cases e),n8.out,Fam.set_other _ _ (by intro e;cases e),mg.out,Fam.set_same]
      have ee:=ey.out.ne (i:=(0,1)) (j:=(9,0)) (by intro e;cases e) jz kt (b:=wr.heap.size) rfl
      have ag:=fun b (hb:b<w1.heap.size+3)=>ey.out.low jz (b:=b) hb
      have cw:=Za ((ej.out.below il.out).grown gz ee)
      have pj:=Za ((z8.out.below il.out).grown gz (ag _ (by omega)))
      have r9:=Za ((B4.out.below il.out).grown gz (Z8 (ag _ (by omega))))
      have po:=Za ((Bu.out.below il.out).grown gz (Z8 (ag _ (by omega))))
      have e0:ao.ownsRow (w1.heap.size+3) 166 2 v10 (Kl+1) (Pg.fl (Ud.clK Kr)++[.int .i32 r.1,.int .u16 r.2.1]):=mh.own _ _ (Fam.set_same _ _ _)
      have ay:Hid (Below w1.heap.size w1 ao):=Za (Bg.out.trans ((il.out.mono (by omega)).trans (iz.mono (by omega))))
      have j5:=Za (ox.out.below ((il.out.mono (by omega)).trans (iz.mono (by omega))) (Zb _))
      have ah:=Zh af iz.size
      obtain⟨np,oc,rfl⟩:=own_form e0
      obtain⟨f4,kj⟩:∃f4,f4=Fam.set f3 (0,1) ⟨166,2,.slice np (Kl+1) oc,Kl+1,Pg.fl (Ud.clK Kr)++[.int .i32 r.1,.int .u16 r.2.1]⟩:=⟨_,rfl⟩
      have o9:Hid (Fam ao (w1.heap.size+3) f4):=Za (by rw[kj];exact mh)
      have kc:Ud.keep (T.take (j+1))=Kr++[r]:=by rw[uh.out,Ud.add_keep vt.out,xr.out]
      have dx:=Za kc
      have gl:Ud.Rows T X (Kr++[r]) Mr f4 (.slice A7 (Kl+1) c7) (.slice np (Kl+1) oc) vp ve vi vs vm (ads++[(A5,c5)]) es:=by
       refine aj.out.addK ?_ ?_ ?_ fun ix hx h0 h1 h2=>?_
       · rw[kj,Fam.set_other _ _ (by intro e;cases e),l5.out,Fam.set_same,n9.out,bl.out]
       · rw[kj,Fam.set_same,n9.out]
       · rw[kj,Fam.set_other _ _ (by intro e;cases e),l5.out,Fam.set_other _ _ (by intro e;cases e),n9.out,n8.out,Fam.set_same]
         unfold Ud.rowOf
         rw[bl.out]
       · rw[n9.out]at h2
         rw[kj,Fam.set_other _ _ h1,l5.out,Fam.set_other _ _ h0,n8.out,Fam.set_other _ _ h2,mg.out,Fam.set_other _ _ (by intro e;rw[e]at hx;exact absurd hx (by decide))]
      have j4:Ud.BegI T Mr f4 G:=ja.out.keep fun c=>by
       rw[kj,Fam.set_other _ _ (by intro e;cases e),l5.out,Fam.set_other _ _ (by intro e;cases e),n8.out,Fam.set_other _ _ (by intro e;cases e),mg.out,Fam.set_other _ _ (by intro e;cases e)]
      have ra:f4 (9,0)=some ⟨113,3,.slice (some ⟨wr.heap.size,0,none⟩) 1 1,1,[.int .i32 r.1,.int .i64 r.2.1,.slice a.1 ml a.2]⟩:=by rw[kj,Fam.set_other _ _ (by intro e;cases e),kt]
      have ar:=Za gl
      have cr:=Za j4
      have ov:=Za ra
      clear mh iz gz ee ag e0 kj gl j4 kc b0 b1 b2 b3 jz kt ra af gm ey y5 il qa q3 ej z8 B4 Bu Bg mg n8 l5 ox aj ja
      have b2:=cw.out.cell 2 rfl
      have b3:=cw.out.lt
      rcases hz:((ml:Int) == 0) with _|_
      · have ya:0<ml:=by
         rcases Yz ml with h|h
         · rw[h]at hz;cases hz
         · exact h
        obtain⟨Ml,mj⟩:∃k,Mr.length=k:=⟨_,rfl⟩
        have qt:Ml≤10000:=by rw[←mj];exact s4
        have bj:=Za mj
        obtain⟨lf,oy⟩:=Md.full_some j0.out.chk r.1
        obtain⟨Do,sw,vw,_⟩:=Md.full_none oy
        have Aj:=Md.full_bd s9.out l4.out.1 oy
        have z6:Ud.full T r.1=lf:=by unfold Ud.full;rw[oy];rfl
        obtain⟨pr,xw⟩:∃q,Md.prim T X r.1=q:=⟨_,rfl⟩
        obtain⟨ll,xu⟩:∃k,lf.length=k:=⟨_,rfl⟩
        have uv:Hid (∀W,Below w1.heap.size w1 W→Calls Tryz.prog 90 #[.agg #[.slice (some ⟨b,o,none⟩) n c,.slice XA xn xc],.int .i32 r.1] W (Md.RetOwn lf W)):=Za fun W hW=>by
         have:=Md.full_any _ T S r.1 W zg.out (ly.out.below hW) l4.out.1.1 l4.out.1.2
         rw[oy]at this
         exact this
        have td:Hid (∀W,Below w1.heap.size w1 W→Calls Tryz.prog 91 #[.agg #[.slice (some ⟨b,o,none⟩) n c,.slice XA xn xc],.int .i32 r.1] W fun e w'=>e=.returned (.bool pr)∧Below W.heap.size W w'):=Za fun W hW=>by
         have:=Md.prim_any _ T S r.1 W zg.out (ly.out.below hW) j0.out.srt j0.out.slen l4.out.1.1 l4.out.1.2
         rw[Aa.out,xw]at this
         exact this
        rw[xu]at sw vw
        have jv:=Za xu
        have Dh:=Za Aj
        have ud:=Za z6
        have et:=Za xw
        have lj:=Za (dm.out.below ay.out)
        clear mj Do Aj z6 xw xu oy
        go_upto_region 15 with (fail)
        go_cut [13] (fun x wx=>∃(b8:Option Addr) (aw:Nat) (bt:Option Addr) (c12 xb:Nat) (f5:Ud.Ix→Option Fam.Row),x=.pointer (some ⟨xb,0,none⟩)∧Fam wx (w1.heap.size+3) f5∧f5 (3,(Ml:Int))=some ⟨21,1,.slice b8 ml aw,ml,Ud.ints r.2.2⟩∧f5 (4,(Ml:Int))=some ⟨21,1,.slice bt ll c12,ll,Ud.ints lf⟩ ∧
         f5 (9,1)=some ⟨79,3,.slice (some ⟨xb,0,none⟩) 1 1,1,[.slice b8 ml aw,.slice bt ll c12,.bool pr]⟩∧(∀ix:Ud.Ix,ix≠(3,(Ml:Int))→ix≠(4,(Ml:Int))→ix≠(9,1)→f5 ix=f4 ix)∧Below ao.heap.size ao wx)
        case first =>
         go_wp2_with fail
         refine Stg.wp_regionX (Stg.Keep fun q=>q=wr.heap.size∨q=w.heap.size) (Stg.Keep.rel _) (by kernel_rfl) ?_
         have bg:Below ao.heap.size ao ao.drew:=(Zd _ _).drew
         have A2:=o9.out.below bg
         have q4:ml≤1000000:=by omega
         have jl:w1.heap.size≤ao.heap.size:=by omega
         have b5:wr.heap.size<ao.heap.size:=cw.out.lt
         have b6:w.heap.size<ao.heap.size:=lj.out.lt
         have e1:=Stg.Keep.cells (s:=fun q=>q=wr.heap.size∨q=w.heap.size) (w:=ao.drew) (cw.out.cell 0 rfl) (.inl rfl)
         have e2:=Stg.Keep.cells (s:=fun q=>q=wr.heap.size∨q=w.heap.size) (w:=ao.drew) (cw.out.cell 2 rfl) (.inl rfl)
         have e3:=Stg.Keep.cells (s:=fun q=>q=wr.heap.size∨q=w.heap.size) (w:=ao.drew) (lj.out.cell 0 rfl) (.inr rfl)
         have e4:=Stg.Keep.cells (s:=fun q=>q=wr.heap.size∨q=w.heap.size) (w:=ao.drew) (lj.out.cell 1 rfl) (.inr rfl)
         refine Stg.takeX (Stg.Keep.rel _) 0 _ rfl (by kernel_rfl) (by kernel_rfl) (by kernel_rfl) (by kernel_rfl) (by kernel_rfl) ?_;intro K hK;go_big_quiet_op;go_big_quiet_on
         refine Stg.takeX (Stg.Keep.rel _) 1 _ rfl (by kernel_rfl) (by kernel_rfl) (by kernel_rfl) (by kernel_rfl) (by kernel_rfl) ?_;intro K hK;go_big_quiet_op;go_big_quiet_on
         refine Stg.takeX (Stg.Keep.rel _) 3 _ rfl (by kernel_rfl) (by kernel_rfl) (by kernel_rfl) (by kernel_rfl) (by kernel_rfl) ?_;intro K hK;go_big_quiet_op;go_big_quiet_on
         refine Stg.takeX (Stg.Keep.rel _) 4 _ rfl (by kernel_rfl) (by kernel_rfl) (by kernel_rfl) (by kernel_rfl) (by kernel_rfl) ?_;intro K hK;go_big_quiet_op;go_big_quiet_on
         refine Stg.takeX (Stg.Keep.rel _) 5 _ rfl (by kernel_rfl) (by kernel_rfl) (by kernel_rfl) (by kernel_rfl) (by kernel_rfl) ?_;intro K hK;go_big_quiet_op;go_big_quiet_on
         refine Stg.takeX (Stg.Keep.rel _) 7 _ rfl (by kernel_rfl) (by kernel_rfl) (by kernel_rfl) (by kernel_rfl) (by kernel_rfl) ?_;intro K hK;go_big_quiet_op;go_big_quiet_on
         refine Stg.takeX (Stg.Keep.rel _) 8 _ rfl (by kernel_rfl) (by kernel_rfl) (by kernel_rfl) (by kernel_rfl) (by kernel_rfl) ?_;intro K hK;go_big_quiet_op;go_big_quiet_on
         refine Stg.takeX (Stg.Keep.rel _) 9 _ rfl (by kernel_rfl) (by kernel_rfl) (by kernel_rfl) (by kernel_rfl) (by kernel_rfl) ?_;intro K hK;go_big_quiet_op;go_big_quiet_on
         clear e1 e2 e3 e4
         refine Stg.two 2 12 (by kernel_rfl) ?_ ?_
         · skip
           refine Stg.callX 2 _ rfl (by kernel_rfl) (by kernel_rfl) 42 _ _ rfl (C.enter Tryz.func42 (by kernel_rfl) rfl) [.slice a.1 ml a.2] rfl _ (R.clone_any a.1 ml a.2 w1.heap.size r.2.2 ao.drew bl.out q4 (Zh jl bg.size) (j5.out.below (bg.mono jl) (Zb _))) ?_
           rintro e cn ⟨b8,aw,rfl,br,cz⟩
           refine⟨_,rfl,(Stg.Keep.of_below cz (by rintro q (rfl|rfl);exact Zf b5 bg.size;exact Zf b6 bg.size)),?_⟩
           intro A' aa;simp only[Act.put,Zs,ZF,ZD]at aa;subst aa
           have av:=bg.trans (cz.mono bg.size)
           have iy:=A2.new cz (3,(Ml:Int)) (q:=⟨21,1,.slice b8 ml aw,ml,Ud.ints r.2.2⟩) (own_mono br (Zh ah bg.size)) (fun g hg=>(own_at br hg).1)
           refine Stg.two 6 12 (by kernel_rfl) ?_ ?_
           · skip
             refine Stg.callX 6 _ rfl (by kernel_rfl) (by kernel_rfl) 90 _ _ rfl (C.enter Tryz.func90 (by kernel_rfl) rfl) [.agg #[.slice (some ⟨b,o,none⟩) n c,.slice XA xn xc],.int .i32 r.1] rfl _ (uv.out cn (ay.out.trans (av.mono ay.out.size))) ?_
             rintro e cj ⟨bt,c12,rfl,ai,bh⟩
             rw[jv.out]at ai ⊢
             refine⟨_,rfl,(Stg.Keep.of_below bh (by rintro q (rfl|rfl);exact Zf b5 av.size;exact Zf b6 av.size)),?_⟩
             intro A' aa;simp only[Act.put,Zs,ZF,ZD]at aa;subst aa
             have ak:=av.trans (bh.mono av.size)
             have ep:=iy.new bh (4,(Ml:Int)) (q:=⟨21,1,.slice bt ll c12,ll,Ud.ints lf⟩) (own_mono ai (Zh ah av.size)) (fun g hg=>(own_at ai hg).1)
             refine Stg.two 10 12 (by kernel_rfl) ?_ ?_
             · skip
               refine Stg.callX 10 _ rfl (by kernel_rfl) (by kernel_rfl) 91 _ _ rfl (C.enter Tryz.func91 (by kernel_rfl) rfl) [.agg #[.slice (some ⟨b,o,none⟩) n c,.slice XA xn xc],.int .i32 r.1] rfl _ (td.out cj (ay.out.trans (ak.mono ay.out.size))) ?_
               rintro e bp ⟨rfl,ap⟩
               refine⟨_,rfl,(Stg.Keep.of_below ap (by rintro q (rfl|rfl);exact Zf b5 ak.size;exact Zf b6 ak.size)),?_⟩
               intro A' aa;simp only[Act.put,Zs,ZF,ZD]at aa;subst aa
               have aq:=ak.trans (ap.mono ak.size)
               have dt:=ep.below ap
               refine Stg.takeX (Stg.Keep.rel _) 11 _ rfl (by kernel_rfl) (by kernel_rfl) (by kernel_rfl) (by kernel_rfl) (by kernel_rfl) ?_;intro K hK;go_big_quiet_op;go_big_quiet_on
               refine Stg.one 12 (by kernel_rfl) ?_
               refine Stg.stepX 12 _ rfl (by kernel_rfl) (by kernel_rfl) (by kernel_rfl) ?_;intro K hK;go_simp
               obtain⟨wz,cf⟩:∃wz,bp.alloc (.cells #[.slice none 0 0,.slice none 0 0,.bool false] 79)=wz:=⟨_,rfl⟩
               have gf:Below bp.heap.size bp wz:=by rw[←cf];exact (Zd _ bp).alloc (Zb _) _
               have bc:Rw.At wz bp.heap.size 79 [.slice none 0 0,.slice none 0 0,.bool false]:=by rw[←cf];exact Rw.At.new bp 79 [.slice none 0 0,.slice none 0 0,.bool false]
               have ic:=dt.box (Zh ah aq.size) (9,1) [.slice none 0 0,.slice none 0 0,.bool false] 79 1 3 rfl (by decide)
               rw[cf]at ic
               rw[cf]
               refine hK _ _ (Stg.Keep.of_below gf (by rintro q (rfl|rfl);exact Zf b5 aq.size;exact Zf b6 aq.size)) ?_
               intro A' aa;subst aa
               have hzz:=aq.trans (gf.mono aq.size)
               refine Stg.one 13 (by kernel_rfl) ?_
               have u0:=bc.cell 0 rfl
               have u1:=bc.cell 1 rfl
               have u2:=bc.cell 2 rfl
               have u3:=bc.frozen 0
               have u4:=bc.frozen 1
               have u5:=bc.frozen 2
               have u6:=bc.lt
               refine Stg.stepX 13 _ rfl (by kernel_rfl) (by kernel_rfl) (by kernel_rfl) ?_;intro K hK;go_simp
               obtain⟨au,a8⟩:∃au,((wz.setCell ⟨bp.heap.size,0,none⟩ (.slice b8 ml aw)).setCell ⟨bp.heap.size,1,none⟩ (.slice bt ll c12)).setCell ⟨bp.heap.size,2,none⟩ (.bool pr)=au:=⟨_,rfl⟩
               rw[a8]
               have bn:Rw.At au (bp.heap.size) 79 [.slice b8 ml aw,.slice bt ll c12,.bool pr]:=by rw[←a8];exact ((bc.set 0 _).set 1 _).set 2 _
               have a6:wz.grownBy au (some (bp.heap.size)):=by rw[←a8];exact Rw.grown_trans (Rw.grown_trans (Rw.grown_set _ _ _) (Rw.grown_set _ _ _)) (Rw.grown_set _ _ _)
               have dr:=ic.store (i:=(9,1)) (e:=79) (size:=3) (n:=1) (b:=bp.heap.size) (cs:=[.slice none 0 0,.slice none 0 0,.bool false]) (by simp[Fam.set]) a6 bn rfl (by decide)
               have hxb:ao.heap.size≤bp.heap.size:=aq.size
               have a7:Below ao.heap.size ao au:=hzz.trans (grown_belowB a6 hzz.size hxb)
               refine hK _ _ (Stg.Keep.of_grown a6 (by rintro q (rfl|rfl);exact⟨Zf b5 hzz.size,some_ne (Zf b5 hxb)⟩;exact⟨Zf b6 hzz.size,some_ne (Zf b6 hxb)⟩)) ?_
               intro A' aa;subst aa
               refine Stg.endX (by kernel_rfl) ?_
               go_wp2_with fail
               go_meet
               exact⟨b8,aw,bt,c12,bp.heap.size,_,rfl,dr,by simp[Fam.set],by simp[Fam.set],by simp[Fam.set],fun ix h1 h2 h3=>by simp[Fam.set,h1,h2,h3],a7⟩
             · skip
               refine Stg.stepX 12 _ rfl (by kernel_rfl) (by kernel_rfl) (by kernel_rfl) ?_;intro K hK;go_simp
               obtain⟨wz,cf⟩:∃wz,cj.alloc (.cells #[.slice none 0 0,.slice none 0 0,.bool false] 79)=wz:=⟨_,rfl⟩
               have gf:Below cj.heap.size cj wz:=by rw[←cf];exact (Zd _ cj).alloc (Zb _) _
               have bc:Rw.At wz cj.heap.size 79 [.slice none 0 0,.slice none 0 0,.bool false]:=by rw[←cf];exact Rw.At.new cj 79 [.slice none 0 0,.slice none 0 0,.bool false]
               have ic:=ep.box (Zh ah ak.size) (9,1) [.slice none 0 0,.slice none 0 0,.bool false] 79 1 3 rfl (by decide)
               rw[cf]at ic
               rw[cf]
               refine hK _ _ (Stg.Keep.of_below gf (by rintro q (rfl|rfl);exact Zf b5 ak.size;exact Zf b6 ak.size)) ?_
               intro A' aa;subst aa
               have hzz:=ak.trans (gf.mono ak.size)
               refine Stg.one 10 (by kernel_rfl) ?_
               refine Stg.callX 10 _ rfl (by kernel_rfl) (by kernel_rfl) 91 _ _ rfl (C.enter Tryz.func91 (by kernel_rfl) rfl) [.agg #[.slice (some ⟨b,o,none⟩) n c,.slice XA xn xc],.int .i32 r.1] rfl _ (td.out wz (ay.out.trans (hzz.mono ay.out.size))) ?_
               rintro e bp ⟨rfl,ap⟩
               refine⟨_,rfl,(Stg.Keep.of_below ap (by rintro q (rfl|rfl);exact Zf b5 hzz.size;exact Zf b6 hzz.size)),?_⟩
               intro A' aa;simp only[Act.put,Zs,ZF,ZD]at aa;subst aa
               have aq:=hzz.trans (ap.mono hzz.size)
               have dt:=ic.below ap
               have ae:=bc.below ap
               refine Stg.takeX (Stg.Keep.rel _) 11 _ rfl (by kernel_rfl) (by kernel_rfl) (by kernel_rfl) (by kernel_rfl) (by kernel_rfl) ?_;intro K hK;go_big_quiet_op;go_big_quiet_on
               refine Stg.one 13 (by kernel_rfl) ?_
               have u0:=ae.cell 0 rfl
               have u1:=ae.cell 1 rfl
               have u2:=ae.cell 2 rfl
               have u3:=ae.frozen 0
               have u4:=ae.frozen 1
               have u5:=ae.frozen 2
               have u6:=ae.lt
               refine Stg.stepX 13 _ rfl (by kernel_rfl) (by kernel_rfl) (by kernel_rfl) ?_;intro K hK;go_simp
               obtain⟨au,a8⟩:∃au,((bp.setCell ⟨cj.heap.size,0,none⟩ (.slice b8 ml aw)).setCell ⟨cj.heap.size,1,none⟩ (.slice bt ll c12)).setCell ⟨cj.heap.size,2,none⟩ (.bool pr)=au:=⟨_,rfl⟩
               rw[a8]
               have bn:Rw.At au (cj.heap.size) 79 [.slice b8 ml aw,.slice bt ll c12,.bool pr]:=by rw[←a8];exact ((ae.set 0 _).set 1 _).set 2 _
               have a6:bp.grownBy au (some (cj.heap.size)):=by rw[←a8];exact Rw.grown_trans (Rw.grown_trans (Rw.grown_set _ _ _) (Rw.grown_set _ _ _)) (Rw.grown_set _ _ _)
               have dr:=dt.store (i:=(9,1)) (e:=79) (size:=3) (n:=1) (b:=cj.heap.size) (cs:=[.slice none 0 0,.slice none 0 0,.bool false]) (by simp[Fam.set]) a6 bn rfl (by decide)
               have hxb:ao.heap.size≤cj.heap.size:=ak.size
               have a7:Below ao.heap.size ao au:=aq.trans (grown_belowB a6 aq.size hxb)
               refine hK _ _ (Stg.Keep.of_grown a6 (by rintro q (rfl|rfl);exact⟨Zf b5 aq.size,some_ne (Zf b5 hxb)⟩;exact⟨Zf b6 aq.size,some_ne (Zf b6 hxb)⟩)) ?_
               intro A' aa;subst aa
               refine Stg.endX (by kernel_rfl) ?_
               go_wp2_with fail
               go_meet
               exact⟨b8,aw,bt,c12,cj.heap.size,_,rfl,dr,by simp[Fam.set],by simp[Fam.set],by simp[Fam.set],fun ix h1 h2 h3=>by simp[Fam.set,h1,h2,h3],a7⟩
           · skip
             refine Stg.stepX 12 _ rfl (by kernel_rfl) (by kernel_rfl) (by kernel_rfl) ?_;intro K hK;go_simp
             obtain⟨wz,cf⟩:∃wz,cn.alloc (.cells #[.slice none 0 0,.slice none 0 0,.bool false] 79)=wz:=⟨_,rfl⟩
             have gf:Below cn.heap.size cn wz:=by rw[←cf];exact (Zd _ cn).alloc (Zb _) _
             have bc:Rw.At wz cn.heap.size 79 [.slice none 0 0,.slice none 0 0,.bool false]:=by rw[←cf];exact Rw.At.new cn 79 [.slice none 0 0,.slice none 0 0,.bool false]
             have ic:=iy.box (Zh ah av.size) (9,1) [.slice none 0 0,.slice none 0 0,.bool false] 79 1 3 rfl (by decide)
             rw[cf]at ic
             rw[cf]
             refine hK _ _ (Stg.Keep.of_below gf (by rintro q (rfl|rfl);exact Zf b5 av.size;exact Zf b6 av.size)) ?_
             intro A' aa;subst aa
             have hzz:=av.trans (gf.mono av.size)
             refine Stg.one 6 (by kernel_rfl) ?_
             refine Stg.callX 6 _ rfl (by kernel_rfl) (by kernel_rfl) 90 _ _ rfl (C.enter Tryz.func90 (by kernel_rfl) rfl) [.agg #[.slice (some ⟨b,o,none⟩) n c,.slice XA xn xc],.int .i32 r.1] rfl _ (uv.out wz (ay.out.trans (hzz.mono ay.out.size))) ?_
             rintro e cj ⟨bt,c12,rfl,ai,bh⟩
             rw[jv.out]at ai ⊢
             refine⟨_,rfl,(Stg.Keep.of_below bh (by rintro q (rfl|rfl);exact Zf b5 hzz.size;exact Zf b6 hzz.size)),?_⟩
             intro A' aa;simp only[Act.put,Zs,ZF,ZD]at aa;subst aa
             have ak:=hzz.trans (bh.mono hzz.size)
             have ep:=ic.new bh (4,(Ml:Int)) (q:=⟨21,1,.slice bt ll c12,ll,Ud.ints lf⟩) (own_mono ai (Zh ah hzz.size)) (fun g hg=>(own_at ai hg).1)
             have fm:=bc.below bh
             refine Stg.one 10 (by kernel_rfl) ?_
             refine Stg.callX 10 _ rfl (by kernel_rfl) (by kernel_rfl) 91 _ _ rfl (C.enter Tryz.func91 (by kernel_rfl) rfl) [.agg #[.slice (some ⟨b,o,none⟩) n c,.slice XA xn xc],.int .i32 r.1] rfl _ (td.out cj (ay.out.trans (ak.mono ay.out.size))) ?_
             rintro e bp ⟨rfl,ap⟩
             refine⟨_,rfl,(Stg.Keep.of_below ap (by rintro q (rfl|rfl);exact Zf b5 ak.size;exact Zf b6 ak.size)),?_⟩
             intro A' aa;simp only[Act.put,Zs,ZF,ZD]at aa;subst aa
             have aq:=ak.trans (ap.mono ak.size)
             have dt:=ep.below ap
             have ae:=fm.below ap
             refine Stg.takeX (Stg.Keep.rel _) 11 _ rfl (by kernel_rfl) (by kernel_rfl) (by kernel_rfl) (by kernel_rfl) (by kernel_rfl) ?_;intro K hK;go_big_quiet_op;go_big_quiet_on
             refine Stg.one 13 (by kernel_rfl) ?_
             have u0:=ae.cell 0 rfl
             have u1:=ae.cell 1 rfl
             have u2:=ae.cell 2 rfl
             have u3:=ae.frozen 0
             have u4:=ae.frozen 1
             have u5:=ae.frozen 2
             have u6:=ae.lt
             refine Stg.stepX 13 _ rfl (by kernel_rfl) (by kernel_rfl) (by kernel_rfl) ?_;intro K hK;go_simp
             obtain⟨au,a8⟩:∃au,((bp.setCell ⟨cn.heap.size,0,none⟩ (.slice b8 ml aw)).setCell ⟨cn.heap.size,1,none⟩ (.slice bt ll c12)).setCell ⟨cn.heap.size,2,none⟩ (.bool pr)=au:=⟨_,rfl⟩
             rw[a8]
             have bn:Rw.At au (cn.heap.size) 79 [.slice b8 ml aw,.slice bt ll c12,.bool pr]:=by rw[←a8];exact ((ae.set 0 _).set 1 _).set 2 _
             have a6:bp.grownBy au (some (cn.heap.size)):=by rw[←a8];exact Rw.grown_trans (Rw.grown_trans (Rw.grown_set _ _ _) (Rw.grown_set _ _ _)) (Rw.grown_set _ _ _)
             have dr:=dt.store (i:=(9,1)) (e:=79) (size:=3) (n:=1) (b:=cn.heap.size) (cs:=[.slice none 0 0,.slice none 0 0,.bool false]) (by simp[Fam.set]) a6 bn rfl (by decide)
             have hxb:ao.heap.size≤cn.heap.size:=av.size
             have a7:Below ao.heap.size ao au:=aq.trans (grown_belowB a6 aq.size hxb)
             refine hK _ _ (Stg.Keep.of_grown a6 (by rintro q (rfl|rfl);exact⟨Zf b5 aq.size,some_ne (Zf b5 hxb)⟩;exact⟨Zf b6 aq.size,some_ne (Zf b6 hxb)⟩)) ?_
             intro A' aa;subst aa
             refine Stg.endX (by kernel_rfl) ?_
             go_wp2_with fail
             go_meet
             exact⟨b8,aw,bt,c12,cn.heap.size,_,rfl,dr,by simp[Fam.set],by simp[Fam.set],by simp[Fam.set],fun ix h1 h2 h3=>by simp[Fam.set,h1,h2,h3],a7⟩
         · skip
           refine Stg.stepX 12 _ rfl (by kernel_rfl) (by kernel_rfl) (by kernel_rfl) ?_;intro K hK;go_simp
           obtain⟨wz,cf⟩:∃wz,(ao.alloc (.cells #[.slice none 0 0,.slice none 0 0,.bool false] 79)).drew=wz:=⟨_,rfl⟩
           have gf:Below ao.drew.heap.size ao.drew wz:=by rw[←cf];exact (Zd _ ao.drew).alloc (Zb _) _
           have bc:Rw.At wz ao.heap.size 79 [.slice none 0 0,.slice none 0 0,.bool false]:=by rw[←cf];exact Rw.At.new ao.drew 79 [.slice none 0 0,.slice none 0 0,.bool false]
           have ic:Fam wz (w1.heap.size+3) (Fam.set f4 (9,1) ⟨79,3,.slice (some ⟨ao.heap.size,0,none⟩) 1 1,1,[.slice none 0 0,.slice none 0 0,.bool false]⟩):=by rw[←cf];exact A2.box ah (9,1) [.slice none 0 0,.slice none 0 0,.bool false] 79 1 3 rfl (by decide)
           rw[cf]
           refine hK _ _ (Stg.Keep.of_below gf (by rintro q (rfl|rfl);exact Zf b5 bg.size;exact Zf b6 bg.size)) ?_
           intro A' aa;subst aa
           have hzz:=bg.trans (gf.mono bg.size)
           refine Stg.one 2 (by kernel_rfl) ?_
           refine Stg.callX 2 _ rfl (by kernel_rfl) (by kernel_rfl) 42 _ _ rfl (C.enter Tryz.func42 (by kernel_rfl) rfl) [.slice a.1 ml a.2] rfl _ (R.clone_any a.1 ml a.2 w1.heap.size r.2.2 wz bl.out q4 (Zh jl hzz.size) (j5.out.below (hzz.mono jl) (Zb _))) ?_
           rintro e cn ⟨b8,aw,rfl,br,cz⟩
           refine⟨_,rfl,(Stg.Keep.of_below cz (by rintro q (rfl|rfl);exact Zf b5 hzz.size;exact Zf b6 hzz.size)),?_⟩
           intro A' aa;simp only[Act.put,Zs,ZF,ZD]at aa;subst aa
           have av:=hzz.trans (cz.mono hzz.size)
           have iy:=ic.new cz (3,(Ml:Int)) (q:=⟨21,1,.slice b8 ml aw,ml,Ud.ints r.2.2⟩) (own_mono br (Zh ah hzz.size)) (fun g hg=>(own_at br hg).1)
           have ru:=bc.below cz
           refine Stg.one 6 (by kernel_rfl) ?_
           refine Stg.callX 6 _ rfl (by kernel_rfl) (by kernel_rfl) 90 _ _ rfl (C.enter Tryz.func90 (by kernel_rfl) rfl) [.agg #[.slice (some ⟨b,o,none⟩) n c,.slice XA xn xc],.int .i32 r.1] rfl _ (uv.out cn (ay.out.trans (av.mono ay.out.size))) ?_
           rintro e cj ⟨bt,c12,rfl,ai,bh⟩
           rw[jv.out]at ai ⊢
           refine⟨_,rfl,(Stg.Keep.of_below bh (by rintro q (rfl|rfl);exact Zf b5 av.size;exact Zf b6 av.size)),?_⟩
           intro A' aa;simp only[Act.put,Zs,ZF,ZD]at aa;subst aa
           have ak:=av.trans (bh.mono av.size)
           have ep:=iy.new bh (4,(Ml:Int)) (q:=⟨21,1,.slice bt ll c12,ll,Ud.ints lf⟩) (own_mono ai (Zh ah av.size)) (fun g hg=>(own_at ai hg).1)
           have fm:=ru.below bh
           refine Stg.one 10 (by kernel_rfl) ?_
           refine Stg.callX 10 _ rfl (by kernel_rfl) (by kernel_rfl) 91 _ _ rfl (C.enter Tryz.func91 (by kernel_rfl) rfl) [.agg #[.slice (some ⟨b,o,none⟩) n c,.slice XA xn xc],.int .i32 r.1] rfl _ (td.out cj (ay.out.trans (ak.mono ay.out.size))) ?_
           rintro e bp ⟨rfl,ap⟩
           refine⟨_,rfl,(Stg.Keep.of_below ap (by rintro q (rfl|rfl);exact Zf b5 ak.size;exact Zf b6 ak.size)),?_⟩
           intro A' aa;simp only[Act.put,Zs,ZF,ZD]at aa;subst aa
           have aq:=ak.trans (ap.mono ak.size)
           have dt:=ep.below ap
           have ae:=fm.below ap
           refine Stg.takeX (Stg.Keep.rel _) 11 _ rfl (by kernel_rfl) (by kernel_rfl) (by kernel_rfl) (by kernel_rfl) (by kernel_rfl) ?_;intro K hK;go_big_quiet_op;go_big_quiet_on
           refine Stg.one 13 (by kernel_rfl) ?_
           have u0:=ae.cell 0 rfl
           have u1:=ae.cell 1 rfl
           have u2:=ae.cell 2 rfl
           have u3:=ae.frozen 0
           have u4:=ae.frozen 1
           have u5:=ae.frozen 2
           have u6:=ae.lt
           refine Stg.stepX 13 _ rfl (by kernel_rfl) (by kernel_rfl) (by kernel_rfl) ?_;intro K hK;go_simp
           obtain⟨au,a8⟩:∃au,((bp.setCell ⟨ao.heap.size,0,none⟩ (.slice b8 ml aw)).setCell ⟨ao.heap.size,1,none⟩ (.slice bt ll c12)).setCell ⟨ao.heap.size,2,none⟩ (.bool pr)=au:=⟨_,rfl⟩
           rw[a8]
           have bn:Rw.At au (ao.heap.size) 79 [.slice b8 ml aw,.slice bt ll c12,.bool pr]:=by rw[←a8];exact ((ae.set 0 _).set 1 _).set 2 _
           have a6:bp.grownBy au (some (ao.heap.size)):=by rw[←a8];exact Rw.grown_trans (Rw.grown_trans (Rw.grown_set _ _ _) (Rw.grown_set _ _ _)) (Rw.grown_set _ _ _)
           have dr:=dt.store (i:=(9,1)) (e:=79) (size:=3) (n:=1) (b:=ao.heap.size) (cs:=[.slice none 0 0,.slice none 0 0,.bool false]) (by simp[Fam.set]) a6 bn rfl (by decide)
           have hxb:ao.heap.size≤ao.heap.size:=bg.size
           have a7:Below ao.heap.size ao au:=aq.trans (grown_belowB a6 aq.size hxb)
           refine hK _ _ (Stg.Keep.of_grown a6 (by rintro q (rfl|rfl);exact⟨Zf b5 aq.size,some_ne (Zf b5 hxb)⟩;exact⟨Zf b6 aq.size,some_ne (Zf b6 hxb)⟩)) ?_
           intro A' aa;subst aa
           refine Stg.endX (by kernel_rfl) ?_
           go_wp2_with fail
           go_meet
           exact⟨b8,aw,bt,c12,ao.heap.size,_,rfl,dr,by simp[Fam.set],by simp[Fam.set],by simp[Fam.set],fun ix h1 h2 h3=>by simp[Fam.set,h1,h2,h3],a7⟩
        case rest =>
         obtain⟨b8,aw,bt,c12,xb,f5,rfl,l8,um,xf,ir,mq,a7⟩:=hcut
         obtain⟨au,rfl⟩:∃q:World,q=wc:=⟨_,rfl⟩
         have Bm:=Za l8
         have Dr:=Za um
         have A9:=Za xf
         have p4:=Za ir
         have dc:=Za mq
         have Ci:=Za a7
         have p1:=Za (pj.out.below a7)
         have p3:=Za (r9.out.below a7)
         have p8:=Za (po.out.below a7)
         have j9:=Za (ay.out.trans (a7.mono ay.out.size))
         have cd:=Zh ah a7.size
         have o7:=(own_at (l8.own _ _ ir) (g:=xb) rfl)
         have qj:au.ownsRow (w1.heap.size+3) 79 3 ve Mr.length (Ud.flE T X Mr es):=l8.own (0,3) _ (by rw[mq _ (by intro e;cases e) (by intro e;cases e) (by intro e;cases e)];exact ar.out.e)
         obtain⟨AE,cE,rfl⟩:=own_form qj
         have jh:au.ownsRow (w1.heap.size+3) 21 1 (.slice bt ll c12) ll (Ud.ints lf):=l8.own _ _ xf
         obtain⟨fb,fc,Av,Cm,Ce⟩:=jh.form (by omega)
         obtain⟨rfl,_,rfl⟩:=Value.slice.inj Av
         have nj:au.ownsRow (w1.heap.size+3) 21 1 (.slice b8 ml aw) ml (Ud.ints r.2.2):=l8.own _ _ um
         obtain⟨mk,mc,zd,Dc,sq⟩:=nj.form (by omega)
         obtain⟨rfl,_,rfl⟩:=Value.slice.inj zd
         obtain⟨hd,tl,rp⟩:∃hd tl,lf=hd::tl:=by
          cases lf with
          | nil=>have:=jv.out;simp at this;omega
          | cons x l=>exact⟨x,l,rfl⟩
         have vd:=Za rp
         clear jh nj Av zd rp
         have ez:au.ownsRow (w1.heap.size+3) 79 3 (.slice (some ⟨xb,0,none⟩) 1 1) 1 [.slice (some ⟨mk,0,none⟩) ml aw,.slice (some ⟨fb,0,none⟩) ll c12,.bool pr]:=l8.own _ _ ir
         have x0:=own_cell ez (i:=0) rfl
         have x1:=own_cell ez (i:=1) rfl
         have x2:=own_cell ez (i:=2) rfl
         have yo:=p1.out
         rw[bj.out]at yo
         have dv:=Za yo
         have e1:=Stg.Keep.cells (s:=fun q=>q=xb∨q=w1.heap.size+1+1) (w:=au.drew) (dv.out.cell 4 rfl) (.inr rfl)
         have e2:=Stg.Keep.cells (s:=fun q=>q=xb∨q=w1.heap.size+1+1) (w:=au.drew) x0 (.inl rfl)
         have e3:=Stg.Keep.cells (s:=fun q=>q=xb∨q=w1.heap.size+1+1) (w:=au.drew) x1 (.inl rfl)
         have e4:=Stg.Keep.cells (s:=fun q=>q=xb∨q=w1.heap.size+1+1) (w:=au.drew) x2 (.inl rfl)
         have sw:=dv.out.lt
         clear l8 um xf ir mq a7 qj ez x0 x1 x2 yo b2 b3
         go_wp2_with fail
         refine Stg.wp_region (Stg.Keep fun q=>q=xb∨q=w1.heap.size+1+1) (Stg.Keep.rel _) (by kernel_rfl) (by kernel_rfl) (by decide +kernel) ?_
         iterate 4 (refine Stg.readW (by kernel_rfl) (by kernel_rfl) (by kernel_rfl) ?_;intro K hK;go_big_quiet_op;go_big_quiet_on)
         iterate 2 (refine Stg.read 0 (by kernel_rfl) (by kernel_rfl) (by kernel_rfl) au.drew rfl (by kernel_rfl) ?_;intro K hK;go_big_quiet_op;go_big_quiet_on)
         refine Stg.stepW au.drew (by kernel_rfl) (by kernel_rfl) rfl (by kernel_rfl) ?_;intro K hK;go_simp
         obtain⟨ka,jd⟩:∃ka,(au.alloc (.cells #[.slice (some ⟨mk,0,none⟩) ml aw,.slice (some ⟨fb,0,none⟩) ll c12,.bool pr] 79)).drew=ka:=⟨_,rfl⟩
         have bk:Below au.heap.size au ka:=by rw[←jd];exact ((Zd _ _).alloc (Zb _) _).drew
         have kb:Sl ka ka.heap.size (some ⟨au.heap.size,0,none⟩) [.slice (some ⟨mk,0,none⟩) ml aw,.slice (some ⟨fb,0,none⟩) ll c12,.bool pr]:=by rw[←jd];exact (Rw.At.new au 79 [.slice (some ⟨mk,0,none⟩) ml aw,.slice (some ⟨fb,0,none⟩) ll c12,.bool pr]).slt.sl
         rw[jd]
         refine hK _ _ (fun q hq=>bk.block q (by rcases hq with rfl|rfl;exact o7.2;exact sw)) ?_
         intro A' aa;subst aa
         have eg:=Bm.out.below bk
         have od:f5 (0,3)=some ⟨79,3,.slice AE Ml cE,Ml,Ud.flE T X Mr es⟩:=by rw[dc.out _ (by intro e;cases e) (by intro e;cases e) (by intro e;cases e),ar.out.e,bj.out]
         refine Stg.stepW ka (by kernel_rfl) (by kernel_rfl) rfl (by kernel_rfl) ?_;intro K hK
         refine Fam.wp_append ka _ _ _ rfl eg (0,3) _ od l0 _ 56 Tryz.underlying131 Cg Di Cd Df rfl (by show 0<3;decide) rfl ka.heap.size (some ⟨au.heap.size,0,none⟩) 1 1 [.slice (some ⟨mk,0,none⟩) ml aw,.slice (some ⟨fb,0,none⟩) ll c12,.bool pr] rfl rfl kb (by simp[Value.oneCell']) (by simp only[maxLen];omega) (by simp only;omega) (Zh cd bk.size) ?_
         intro Db ub kx iv fz
         have gj:=eg.ne (i:=(0,3)) (j:=(9,1)) (by intro e;cases e) od p4.out (b:=xb) rfl
         have ag:=eg.low od (b:=w1.heap.size+1+1) (by omega)
         have fh:=(dv.out.below bk).grown fz ag
         refine hK _ _ (Stg.Keep.of_grown fz (by rintro q (rfl|rfl);exact⟨Zf o7.2 bk.size,Z8 gj⟩;exact⟨Zf sw bk.size,Z8 ag⟩)) ?_
         have hh:ub.ownsRow (w1.heap.size+3) 79 3 Db (Ml+1) (Ud.flE T X Mr es++[.slice (some ⟨mk,0,none⟩) ml aw,.slice (some ⟨fb,0,none⟩) ll c12,.bool pr]):=kx.own _ _ (Fam.set_same _ _ _)
         obtain⟨rh,ou,rfl⟩:=own_form hh
         intro A' aa;simp only[Act.put,Zs,ZF,ZD]at aa;subst aa
         iterate 2 (refine Stg.readW (by kernel_rfl) (by kernel_rfl) (by kernel_rfl) ?_;intro K hK;go_big_quiet_op;go_big_quiet_on)
         have u0:=fh.cell 4 rfl
         have u1:=fh.frozen 4
         have u2:=fh.lt
         refine Stg.last ub (by kernel_rfl) (by kernel_rfl) (by kernel_rfl) rfl (by kernel_rfl) ?_;intro K hK;go_simp
         obtain⟨b4,jg⟩:∃b4,ub.setCell ⟨w1.heap.size+1+1,4,none⟩ (.slice rh (Ml+1) ou)=b4:=⟨_,rfl⟩
         rw[jg]
         refine hK _ _ ?_
         intro A' aa;subst aa
         refine Stg.nil b4 rfl ?_
         have er:ub.grownBy b4 (some (w1.heap.size+1+1)):=by rw[←jg];exact Rw.grown_set _ _ _
         obtain⟨f6,tr⟩:∃f6,f6=Fam.set f5 (0,3) ⟨79,3,.slice rh (Ml+1) ou,Ml+1,Ud.flE T X Mr es++[.slice (some ⟨mk,0,none⟩) ml aw,.slice (some ⟨fb,0,none⟩) ll c12,.bool pr]⟩:=⟨_,rfl⟩
         have sz:Hid (Fam b4 (w1.heap.size+3) f6):=Za (by rw[tr];exact kx.other er (by omega))
         have tx:Hid (Rw.At b4 (w1.heap.size+1+1) 135 (Ud.cells (.slice A7 (Kl+1) c7) XA xn xc (.slice rh (Ml+1) ou) w1.heap.size (w1.heap.size+1))):=Za (by rw[←jg];exact fh.set 4 _)
         have Bw:=Za (((p3.out.below bk).grown fz (Z8 (eg.low od (b:=w1.heap.size) (by omega)))).grown er (by simp only[X3,Zi];omega))
         have zl:=Za (((p8.out.below bk).grown fz (Z8 (eg.low od (b:=w1.heap.size+1) (by omega)))).grown er (by simp only[X3,Zi];omega))
         have zx:Hid (Below w1.heap.size w1 b4):=Za (j9.out.trans ((bk.mono (by omega)).trans ((iv.mono (by omega)).trans (Below.grown (Zd _ _) er (by have:=bk.size;have:=iv.size;omega) (by intro k hk;simp only[Zi]at hk;omega)))))
         have ba:w1.heap.size+3≤b4.heap.size:=Zh cd (Zh bk.size (Zh iv.size er.size))
         have ik:Hid (∀ix:Ud.Ix,ix≠(0,3)→f6 ix=f5 ix):=Za fun ix h=>by rw[tr,Fam.set_other _ _ h]
         have Bc:Hid (f6 (0,3)=some ⟨79,3,.slice rh (Ml+1) ou,Ml+1,Ud.flE T X Mr es++[.slice (some ⟨mk,0,none⟩) ml aw,.slice (some ⟨fb,0,none⟩) ll c12,.bool pr]⟩):=Za (by rw[tr,Fam.set_same])
         clear er kx fh iv fz gj ag eg bk kb jd jg hh tr od u0 u1 u2 e1 e2 e3 e4 p1 dv p3 p8 Bm j9 cd
         have qk:f6 (0,2)=some ⟨166,2,vp,Ml,Pg.fl (Ud.plG 0 Mr)⟩:=by rw[ik.out _ (by intro e;cases e),dc.out _ (by intro e;cases e) (by intro e;cases e) (by intro e;cases e),ar.out.p,bj.out]
         have gh:f6 (9,0)=some ⟨113,3,.slice (some ⟨wr.heap.size,0,none⟩) 1 1,1,[.int .i32 r.1,.int .i64 r.2.1,.slice a.1 ml a.2]⟩:=by rw[ik.out _ (by intro e;cases e),dc.out _ (by intro e;cases e) (by intro e;cases e) (by intro e;cases e),ov.out]
         have mm:f6 (9,1)=some ⟨79,3,.slice (some ⟨xb,0,none⟩) 1 1,1,[.slice (some ⟨mk,0,none⟩) ml aw,.slice (some ⟨fb,0,none⟩) ll c12,.bool pr]⟩:=by rw[ik.out _ (by intro e;cases e),p4.out]
         have nh:b4.ownsRow (w1.heap.size+3) 166 2 vp Ml (Pg.fl (Ud.plG 0 Mr)):=sz.out.own _ _ qk
         obtain⟨Ap,cp,rfl⟩:=own_form nh
         have ia:b4.ownsRow (w1.heap.size+3) 113 3 (.slice (some ⟨wr.heap.size,0,none⟩) 1 1) 1 [.int .i32 r.1,.int .i64 r.2.1,.slice a.1 ml a.2]:=sz.out.own _ _ gh
         have fo:=(own_at ia (g:=wr.heap.size) rfl).2
         have gg:=tx.out.lt
         have e1:=Stg.Keep.cells (s:=fun q=>q=wr.heap.size∨q=w1.heap.size+1+1) (w:=b4.drew) (tx.out.cell 4 rfl) (.inr rfl)
         have e2:=Stg.Keep.cells (s:=fun q=>q=wr.heap.size∨q=w1.heap.size+1+1) (w:=b4.drew) (own_cell ia (i:=0) rfl) (.inl rfl)
         have eM:IntKind.u16.wrap ((Ml:Int)+1)=(Ml:Int)+1:=by rw[IntKind.wrap_u16];omega
         clear nh ia
         go_wp2_with fail
         refine Stg.wp_region (Stg.Keep fun q=>q=wr.heap.size∨q=w1.heap.size+1+1) (Stg.Keep.rel _) (by kernel_rfl) (by kernel_rfl) (by decide +kernel) ?_
         iterate 2 (refine Stg.readW (by kernel_rfl) (by kernel_rfl) (by kernel_rfl) ?_;intro K hK;go_big_quiet_op;go_big_quiet_on)
         refine Stg.read 0 (by kernel_rfl) (by kernel_rfl) (by kernel_rfl) b4.drew rfl (by kernel_rfl) ?_;intro K hK;go_big_quiet_op;go_big_quiet_on
         iterate 3 (refine Stg.readW (by kernel_rfl) (by kernel_rfl) (by kernel_rfl) ?_;intro K hK;go_big_quiet_op;go_big_quiet_on)
         refine Stg.read 0 (by kernel_rfl) (by kernel_rfl) (by kernel_rfl) b4.drew rfl (by kernel_rfl) ?_;intro K hK;go_big_quiet_op;go_big_quiet_on
         iterate 3 (refine Stg.readW (by kernel_rfl) (by kernel_rfl) (by kernel_rfl) ?_;intro K hK;go_big_quiet_op;go_big_quiet_on)
         refine Stg.stepW b4.drew (by kernel_rfl) (by kernel_rfl) rfl (by kernel_rfl) ?_;intro K hK;go_simp
         obtain⟨kd,jn⟩:∃kd,(b4.alloc (.cells #[.int .i32 r.1,.int .u16 ((Ml:Int)+1)] 166)).drew=kd:=⟨_,rfl⟩
         have bq:Below b4.heap.size b4 kd:=by rw[←jn];exact ((Zd _ _).alloc (Zb _) _).drew
         have j7:Sl kd kd.heap.size (some ⟨b4.heap.size,0,none⟩) [.int .i32 r.1,.int .u16 ((Ml:Int)+1)]:=by rw[←jn];exact (Rw.At.new b4 166 [.int .i32 r.1,.int .u16 ((Ml:Int)+1)]).slt.sl
         rw[jn]
         refine hK _ _ (fun q hq=>bq.block q (by rcases hq with rfl|rfl;exact fo;exact gg)) ?_
         intro A' aa;subst aa
         have jb:=sz.out.below bq
         refine Stg.stepW kd (by kernel_rfl) (by kernel_rfl) rfl (by kernel_rfl) ?_;intro K hK
         refine Fam.wp_append kd _ _ _ rfl jb (0,2) _ qk k0 _ 8 Tryz.underlying163 yw Ba Ao y9 rfl (by show 0<2;decide) rfl kd.heap.size (some ⟨b4.heap.size,0,none⟩) 1 1 [.int .i32 r.1,.int .u16 ((Ml:Int)+1)] rfl rfl j7 (by simp[Value.oneCell']) (by simp only[maxLen];omega) (by simp only;omega) (Zh ba bq.size) ?_
         intro v20 bf lr ld fu
         have fp:=jb.ne (i:=(0,2)) (j:=(9,0)) (by intro e;cases e) qk gh (b:=wr.heap.size) rfl
         have ag:=fun b (hb:b<w1.heap.size+3)=>jb.low qk (b:=b) hb
         refine hK _ _ (Stg.Keep.of_grown fu (by rintro q (rfl|rfl);exact⟨Zf fo bq.size,Z8 fp⟩;exact⟨Zf gg bq.size,Z8 (ag _ (by omega))⟩)) ?_
         have gi:bf.ownsRow (w1.heap.size+3) 166 2 v20 (Ml+1) (Pg.fl (Ud.plG 0 Mr)++[.int .i32 r.1,.int .u16 ((Ml:Int)+1)]):=lr.own _ _ (Fam.set_same _ _ _)
         obtain⟨qw,c20,rfl⟩:=own_form gi
         intro A' aa;simp only[Act.put,Zs,ZF,ZD]at aa;subst aa
         refine Stg.readW (by kernel_rfl) (by kernel_rfl) (by kernel_rfl) ?_;intro K hK;go_big_quiet_op;go_big_quiet_on
         refine Stg.nil bf rfl ?_
         obtain⟨f7,sx⟩:∃f7,f7=Fam.set f6 (0,2) ⟨166,2,.slice qw (Ml+1) c20,Ml+1,Pg.fl (Ud.plG 0 Mr)++[.int .i32 r.1,.int .u16 ((Ml:Int)+1)]⟩:=⟨_,rfl⟩
         have yv:Hid (Fam bf (w1.heap.size+3) f7):=Za (by rw[sx];exact lr)
         have ua:=Za ((tx.out.below bq).grown fu (ag _ (by omega)))
         have ug:=Za ((Bw.out.below bq).grown fu (Z8 (ag _ (by omega))))
         have Bx:=Za ((zl.out.below bq).grown fu (Z8 (ag _ (by omega))))
         have Ca:Hid (Below w1.heap.size w1 bf):=Za (zx.out.trans ((bq.mono (by omega)).trans (ld.mono (by omega))))
         have dp:=Zh ba (Zh bq.size ld.size)
         have eu:Hid (∀ix:Ud.Ix,ix≠(0,2)→f7 ix=f6 ix):=Za fun ix h=>by rw[sx,Fam.set_other _ _ h]
         have zk:Hid (f7 (0,2)=some ⟨166,2,.slice qw (Ml+1) c20,Ml+1,Pg.fl (Ud.plG 0 Mr)++[.int .i32 r.1,.int .u16 ((Ml:Int)+1)]⟩):=Za (by rw[sx,Fam.set_same])
         clear lr ld fu fp ag jb bq j7 jn gi sx qk e1 e2 sz tx Bw zl zx ba
         have B8:(Ud.full T r.1).headD 0=hd:=by rw[ud.out,vd.out];rfl
         have zf : -2147483648≤hd∧hd≤2147483647:=Dh.out hd (by rw[vd.out];exact Zv)
         obtain⟨nb,hnb⟩:∃k,(Ud.begM T Mr hd).length=k:=⟨_,rfl⟩
         have Dw:nb≤10000:=by rw[←hnb];unfold Ud.begM;rw[List.length_map];exact Nat.le_trans (List.length_filter_le _ _) (by rw[bj.out];exact qt)
         obtain⟨f8,v0,ob,xg,rq,zi⟩:∃f8 v0,Fam bf (w1.heap.size+3) f8∧f8 (1,hd)=some (Ud.rowV v0 (Ud.begM T Mr hd))∧(∀ix:Ud.Ix,ix≠(1,hd)→f8 ix=f7 ix)∧(G (.int .i32 hd)).getD (.slice none 0 0)=v0:=by
          rcases cr.out hd with ⟨g1,g2⟩|⟨v,g1,g2⟩
          · exact⟨Fam.set f7 (1,hd) (Ud.rowV (.slice none 0 0) []),.slice none 0 0,yv.out.new (Zd _ _) _ (ZC _ _ _ _) (fun g hg=>by simp[Ud.rowV,Value.ownBlock]at hg),by rw[Fam.set_same,g1],fun ix h=>Fam.set_other _ _ h,by rw[g2];rfl⟩
          · exact⟨f7,v,yv.out,by rw[eu.out _ (by intro e;cases e),ik.out _ (by intro e;cases e),dc.out _ (by intro e;cases e) (by intro e;cases e) (by intro e;cases e),g2],fun _ _=>rfl,by rw[g1];rfl⟩
         have yu:bf.ownsRow (w1.heap.size+3) 21 1 v0 (Ud.begM T Mr hd).length (Ud.ints (Ud.begM T Mr hd)):=ob.own _ _ xg
         rw[hnb]at yu
         obtain⟨Ab,cb,rfl⟩:=own_form yu
         have ma:=(rq (9,0) (by intro e;cases e)).trans ((eu.out _ (by intro e;cases e)).trans gh)
         have nc:=(rq (9,1) (by intro e;cases e)).trans ((eu.out _ (by intro e;cases e)).trans mm)
         have uu:=(rq (4,(Ml:Int)) (by intro e;cases e)).trans ((eu.out _ (by intro e;cases e)).trans ((ik.out _ (by intro e;cases e)).trans A9.out))
         have ia:bf.ownsRow (w1.heap.size+3) 113 3 (.slice (some ⟨wr.heap.size,0,none⟩) 1 1) 1 [.int .i32 r.1,.int .i64 r.2.1,.slice a.1 ml a.2]:=ob.own _ _ ma
         have ez:bf.ownsRow (w1.heap.size+3) 79 3 (.slice (some ⟨xb,0,none⟩) 1 1) 1 [.slice (some ⟨mk,0,none⟩) ml aw,.slice (some ⟨fb,0,none⟩) ll c12,.bool pr]:=ob.own _ _ nc
         have jh:bf.ownsRow (w1.heap.size+3) 21 1 (.slice (some ⟨fb,0,none⟩) ll c12) ll (Ud.ints lf):=ob.own _ _ uu
         have fo:=(own_at ia (g:=wr.heap.size) rfl).2
         have kk:=(own_at ez (g:=xb) rfl).2
         have sj:=(own_at jh (g:=fb) rfl).2
         have gg:=ua.out.lt
         have qo:=ug.out.lt
         have e1:=Stg.Keep.cells (s:=fun q=>q=xb∨q=w1.heap.size+1+1∨q=wr.heap.size∨q=fb∨q=w1.heap.size) (w:=bf.drew) (ua.out.cell 5 rfl) (.inr (.inl rfl))
         have e2:=Stg.Keep.cells (s:=fun q=>q=xb∨q=w1.heap.size+1+1∨q=wr.heap.size∨q=fb∨q=w1.heap.size) (w:=bf.drew) (own_cell ez (i:=1) rfl) (.inl rfl)
         have e3:=Stg.Keep.cells (s:=fun q=>q=xb∨q=w1.heap.size+1+1∨q=wr.heap.size∨q=fb∨q=w1.heap.size) (w:=bf.drew) (own_cell jh (i:=0) (u:=.int .i32 hd) (by rw[vd.out];rfl)) (.inr (.inr (.inr (.inl rfl))))
         have e4:=Stg.Keep.cells (s:=fun q=>q=xb∨q=w1.heap.size+1+1∨q=wr.heap.size∨q=fb∨q=w1.heap.size) (w:=bf.drew) (own_cell ia (i:=0) rfl) (.inr (.inr (.inl rfl)))
         have e5:∀x:Stg.Later (Stg.Keep fun q=>q=xb∨q=w1.heap.size+1+1∨q=wr.heap.size∨q=fb∨q=w1.heap.size) bf.drew,(Instr.lookup 132 (.map (some w1.heap.size)) (.int .i32 hd) false).run Tryz.prog x.val=.ok (.slice Ab nb cb) x.val:=fun x=>Ud.look32 (ug.out.same (x.rel _ (.inr (.inr (.inr (.inr rfl)))))) zf zi
         have C6:(0:Int)<ll:=by omega
         have q3:=Za ob
         have Bn:=Za rq
         have uj:=Za B8
         have Bk:=Za hnb
         clear ia ez jh yu ob rq zi B8 hnb
         go_wp2_with fail
         refine Stg.wp_region (Stg.Keep fun q=>q=xb∨q=w1.heap.size+1+1∨q=wr.heap.size∨q=fb∨q=w1.heap.size) (Stg.Keep.rel _) (by kernel_rfl) (by kernel_rfl) (by decide +kernel) ?_
         iterate 3 (refine Stg.readW (by kernel_rfl) (by kernel_rfl) (by kernel_rfl) ?_;intro K hK;go_big_quiet_op;go_big_quiet_on)
         refine Stg.read 0 (by kernel_rfl) (by kernel_rfl) (by kernel_rfl) bf.drew rfl (by kernel_rfl) ?_;intro K hK;go_big_quiet_op;go_big_quiet_on
         refine Stg.readW (by kernel_rfl) (by kernel_rfl) (by kernel_rfl) ?_;intro K hK;go_big_quiet_op;go_big_quiet_on
         refine Stg.read 0 (by kernel_rfl) (by kernel_rfl) (by kernel_rfl) bf.drew rfl (by kernel_rfl) ?_;intro K hK;go_big_quiet_op;go_big_quiet_on
         refine Stg.readW (by kernel_rfl) (by kernel_rfl) (by kernel_rfl) ?_;intro K hK;go_big_quiet_op;go_big_quiet_on
         refine Stg.read 0 (by kernel_rfl) (by kernel_rfl) (by kernel_rfl) bf.drew rfl (by kernel_rfl) ?_;intro K hK;go_big_quiet_op;go_big_quiet_on
         iterate 3 (refine Stg.readW (by kernel_rfl) (by kernel_rfl) (by kernel_rfl) ?_;intro K hK;go_big_quiet_op;go_big_quiet_on)
         refine Stg.read 0 (by kernel_rfl) (by kernel_rfl) (by kernel_rfl) bf.drew rfl (by kernel_rfl) ?_;intro K hK;go_big_quiet_op;go_big_quiet_on
         refine Stg.readW (by kernel_rfl) (by kernel_rfl) (by kernel_rfl) ?_;intro K hK;go_big_quiet_op;go_big_quiet_on
         refine Stg.read 0 (by kernel_rfl) (by kernel_rfl) (by kernel_rfl) bf.drew rfl (by kernel_rfl) ?_;intro K hK;go_big_quiet_op;go_big_quiet_on
         refine Stg.readW (by kernel_rfl) (by kernel_rfl) (by kernel_rfl) ?_;intro K hK;go_big_quiet_op;go_big_quiet_on
         iterate 2 (refine Stg.read 0 (by kernel_rfl) (by kernel_rfl) (by kernel_rfl) bf.drew rfl (by kernel_rfl) ?_;intro K hK;go_big_quiet_op;go_big_quiet_on)
         refine Stg.readW (by kernel_rfl) (by kernel_rfl) (by kernel_rfl) ?_;intro K hK;go_big_quiet_op;go_big_quiet_on
         refine Stg.read 0 (by kernel_rfl) (by kernel_rfl) (by kernel_rfl) bf.drew rfl (by kernel_rfl) ?_;intro K hK;go_big_quiet_op;go_big_quiet_on
         refine Stg.stepW bf.drew (by kernel_rfl) (by kernel_rfl) rfl (by kernel_rfl) ?_;intro K hK;go_simp
         obtain⟨kl,je⟩:∃kl,(bf.alloc (.cells #[.int .i32 r.1] 21)).drew=kl:=⟨_,rfl⟩
         have bb:Below bf.heap.size bf kl:=by rw[←je];exact ((Zd _ _).alloc (Zb _) _).drew
         have kh:Sl kl kl.heap.size (some ⟨bf.heap.size,0,none⟩) [.int .i32 r.1]:=by rw[←je];exact (Rw.At.new bf 21 [.int .i32 r.1]).slt.sl
         rw[je]
         refine hK _ _ (fun q hq=>bb.block q (by rcases hq with rfl|rfl|rfl|rfl|rfl;exact kk;exact gg;exact fo;exact sj;exact qo)) ?_
         intro A' aa;subst aa
         have dz:=q3.out.below bb
         have eb:f8 (1,hd)=some ⟨21,1,.slice Ab nb cb,nb,Ud.ints (Ud.begM T Mr hd)⟩:=by rw[xg];unfold Ud.rowV;rw[Bk.out]
         refine Stg.stepW kl (by kernel_rfl) (by kernel_rfl) rfl (by kernel_rfl) ?_;intro K hK
         refine Fam.wp_append kl _ _ _ rfl dz (1,hd) _ eb p0 _ 4 Tryz.underlying49 nn ny nw ol rfl (by show 0<1;decide) rfl kl.heap.size (some ⟨bf.heap.size,0,none⟩) 1 1 [.int .i32 r.1] rfl rfl kh (by simp[Value.oneCell']) (by simp only[maxLen];omega) (by simp only;omega) (Zh dp bb.size) ?_
         intro Dj yz lc jq e8
         have fp:=dz.ne (i:=(1,hd)) (j:=(9,0)) (by intro e;cases e) eb ma (b:=wr.heap.size) rfl
         have gj:=dz.ne (i:=(1,hd)) (j:=(9,1)) (by intro e;cases e) eb nc (b:=xb) rfl
         have qm:=dz.ne (i:=(1,hd)) (j:=(4,(Ml:Int))) (by intro e;cases e) eb uu (b:=fb) rfl
         have ag:=fun b (hb:b<w1.heap.size+3)=>dz.low eb (b:=b) hb
         refine hK _ _ (Stg.Keep.of_grown e8 (by rintro q (rfl|rfl|rfl|rfl|rfl);exact⟨Zf kk bb.size,Z8 gj⟩;exact⟨Zf gg bb.size,Z8 (ag _ (by omega))⟩;exact⟨Zf fo bb.size,Z8 fp⟩;exact⟨Zf sj bb.size,Z8 qm⟩;exact⟨Zf qo bb.size,Z8 (ag _ (by omega))⟩)) ?_
         have fk:yz.ownsRow (w1.heap.size+3) 21 1 Dj (nb+1) (Ud.ints (Ud.begM T Mr hd)++[.int .i32 r.1]):=lc.own _ _ (Fam.set_same _ _ _)
         obtain⟨tq,s7,rfl⟩:=own_form fk
         intro A' aa;simp only[Act.put,Zs,ZF,ZD]at aa;subst aa
         obtain⟨a1,G',mo,o6,Bj,zj,en⟩:=Ud.put32 ((ug.out.below bb).grown e8 (Z8 (ag _ (by omega)))) zf (.slice tq (nb+1) s7)
         refine Stg.last yz (by kernel_rfl) (by kernel_rfl) (by kernel_rfl) rfl (by kernel_rfl) ?_;intro K hK;go_simp
         refine hK _ _ ?_
         intro A' aa;subst aa
         refine Stg.nil a1 rfl ?_
         obtain⟨f9,uk⟩:∃f9,f9=Fam.set f8 (1,hd) ⟨21,1,.slice tq (nb+1) s7,nb+1,Ud.ints (Ud.begM T Mr hd)++[.int .i32 r.1]⟩:=⟨_,rfl⟩
         have ey:Hid (Fam a1 (w1.heap.size+3) f9):=Za (by rw[uk];exact lc.other en (by omega))
         have B5:=Za (((ua.out.below bb).grown e8 (ag _ (by omega))).grown en (by simp only[X3,Zi];omega))
         have Bf:=Za o6
         have zw:=Za (((Bx.out.below bb).grown e8 (Z8 (ag _ (by omega)))).grown en (by simp only[X3,Zi];omega))
         have il:Hid (Below w1.heap.size w1 a1):=Za (Ca.out.trans ((bb.mono (by omega)).trans ((jq.mono (by omega)).trans (Below.grown (Zd _ _) en (by have:=bb.size;have:=jq.size;omega) (by intro k hk;simp only[Zi]at hk;omega)))))
         have af:w1.heap.size+3≤a1.heap.size:=Zh dp (Zh bb.size (Zh jq.size en.size))
         have iu:Hid (∀ix:Ud.Ix,ix≠(1,hd)→f9 ix=f7 ix):=Za fun ix h=>by rw[uk,Fam.set_other _ _ h,Bn.out _ h]
         have xj:Hid (f9 (1,hd)=some (Ud.rowV (.slice tq (nb+1) s7) (Ud.begM T Mr hd++[r.1]))):=Za (by
          rw[uk,Fam.set_same]
          unfold Ud.rowV Ud.ints
          rw[Ze,ZM,Bk.out];rfl)
         have gx:Hid (Ud.BegI T (Mr++[r]) f9 G'):=Za ((cr.out.keep (f':=f7) fun c=>by rw[eu.out _ (by intro e;cases e),ik.out _ (by intro e;cases e),dc.out _ (by intro e;cases e) (by intro e;cases e) (by intro e;cases e)]).add (r:=r) (v:=.slice tq (nb+1) s7) (by rw[uj.out];exact Bj) (by rw[uj.out];exact zj) (by rw[uj.out];exact xj.out) (fun c hc=>iu.out _ (by rw[uj.out]at hc;intro e;simp only[Yy,X0]at e;exact hc e)))
         clear lc jq e8 fp gj qm ag dz bb kh je fk uk xg eb uu ma nc e1 e2 e3 e4 e5 yv ua ug Bx Ca dp mo o6 Bj zj en q3 Bn
         have s3:∀ix:Ud.Ix,ix≠(1,hd)→ix≠(0,2)→ix≠(0,3)→ix≠(3,(Ml:Int))→ix≠(4,(Ml:Int))→ix≠(9,1)→f9 ix=f4 ix:=fun ix k1 k2 k3 k4 k5 k6=>by rw[iu.out _ k1,eu.out _ k2,ik.out _ k3,dc.out _ k4 k5 k6]
         have x8:f9 (0,4)=some (Ud.rowV vi (Ud.innM T Mr)):=by rw[s3 _ (by intro e;cases e) (by intro e;cases e) (by intro e;cases e) (by intro e;cases e) (by intro e;cases e) (by intro e;cases e)];exact ar.out.i
         have xm:f9 (0,6)=some (Ud.rowV vm (Ud.mpdM Mr)):=by rw[s3 _ (by intro e;cases e) (by intro e;cases e) (by intro e;cases e) (by intro e;cases e) (by intro e;cases e) (by intro e;cases e)];exact ar.out.m
         have di:f9 (9,0)=some ⟨113,3,.slice (some ⟨wr.heap.size,0,none⟩) 1 1,1,[.int .i32 r.1,.int .i64 r.2.1,.slice a.1 ml a.2]⟩:=(iu.out (9,0) (by intro e;cases e)).trans ((eu.out _ (by intro e;cases e)).trans gh)
         have dh:f9 (9,1)=some ⟨79,3,.slice (some ⟨xb,0,none⟩) 1 1,1,[.slice (some ⟨mk,0,none⟩) ml aw,.slice (some ⟨fb,0,none⟩) ll c12,.bool pr]⟩:=(iu.out (9,1) (by intro e;cases e)).trans ((eu.out _ (by intro e;cases e)).trans mm)
         have pw:f9 (4,(Ml:Int))=some ⟨21,1,.slice (some ⟨fb,0,none⟩) ll c12,ll,Ud.ints lf⟩:=(iu.out _ (by intro e;cases e)).trans ((eu.out _ (by intro e;cases e)).trans ((ik.out _ (by intro e;cases e)).trans A9.out))
         have zv:f9 (3,(Ml:Int))=some ⟨21,1,.slice (some ⟨mk,0,none⟩) ml aw,ml,Ud.ints r.2.2⟩:=(iu.out _ (by intro e;cases e)).trans ((eu.out _ (by intro e;cases e)).trans ((ik.out _ (by intro e;cases e)).trans Dr.out))
         obtain⟨ni,nl⟩:∃k,(Ud.innM T Mr).length=k:=⟨_,rfl⟩
         have Cs:ni≤310000:=by have:=Ud.inn_len (T:=T) Ud.full_le Mr;rw[nl]at this;omega
         have i7:(Ud.mpdM Mr).length=Ml:=by unfold Ud.mpdM;rw[List.length_map,bj.out]
         have li:a1.ownsRow (w1.heap.size+3) 21 1 vi (Ud.innM T Mr).length (Ud.ints (Ud.innM T Mr)):=ey.out.own _ _ x8
         have ky:a1.ownsRow (w1.heap.size+3) 21 1 vm (Ud.mpdM Mr).length (Ud.ints (Ud.mpdM Mr)):=ey.out.own _ _ xm
         rw[nl]at li
         rw[i7]at ky
         obtain⟨Ai,ci,rfl⟩:=own_form li
         obtain⟨Am,cm,rfl⟩:=own_form ky
         have df:f9 (0,4)=some ⟨21,1,.slice Ai ni ci,ni,Ud.ints (Ud.innM T Mr)⟩:=by rw[x8];unfold Ud.rowV;rw[nl]
         have dk:f9 (0,6)=some ⟨21,1,.slice Am Ml cm,Ml,Ud.ints (Ud.mpdM Mr)⟩:=by rw[xm];unfold Ud.rowV;rw[i7]
         have jh:a1.ownsRow (w1.heap.size+3) 21 1 (.slice (some ⟨fb,0,none⟩) ll c12) ll (Ud.ints lf):=ey.out.own _ _ pw
         have Cy:ll≤c12:=own_cap jh
         obtain⟨Ad,pq,pn⟩:∃Ad,(∀W,(Instr.sliceAt 49 (.slice (some ⟨fb,0,none⟩) ll c12) (some (.int .i64 1)) none none).run Tryz.prog W=.ok (.slice Ad (ll-1) (c12-1)) W)∧∀W:World,W.ownsRow (w1.heap.size+3) 21 1 (.slice (some ⟨fb,0,none⟩) ll c12) ll (Ud.ints lf)→Sl W W.heap.size Ad ((Ud.ints lf).drop 1):=by
          have hu:=Tryz.underlying49
          have Cp:(1:Int)≤ll:=by omega
          have Al:(ll:Int)≤c12:=by omega
          clear dc ar cr ef ov dx gx
          by_cases hc1:c12=1
          · refine⟨some ⟨fb,0,none⟩,fun W=>?_,fun W _=>?_⟩
            · go_simp
            · have:(Ud.ints lf).drop 1=[]:=List.drop_eq_nil_of_le (by unfold Ud.ints;rw[List.length_map,jv.out];omega)
              rw[this]
              exact Sl.nil _ _ _
          · refine⟨some ⟨fb,1,none⟩,fun W=>?_,fun W h=>own_tail h⟩
            go_simp
         have ia:a1.ownsRow (w1.heap.size+3) 113 3 (.slice (some ⟨wr.heap.size,0,none⟩) 1 1) 1 [.int .i32 r.1,.int .i64 r.2.1,.slice a.1 ml a.2]:=ey.out.own _ _ di
         have ez:a1.ownsRow (w1.heap.size+3) 79 3 (.slice (some ⟨xb,0,none⟩) 1 1) 1 [.slice (some ⟨mk,0,none⟩) ml aw,.slice (some ⟨fb,0,none⟩) ll c12,.bool pr]:=ey.out.own _ _ dh
         have bs:=(own_at ia (g:=wr.heap.size) rfl).2
         have bm:=(own_at ez (g:=xb) rfl).2
         have yq:((Ud.ints lf).drop 1).length=(ll-1)*1:=by rw[List.length_drop];unfold Ud.ints;rw[List.length_map,jv.out];omega
         have l6:=Za pn
         have sr:=Za pq
         have y7:=Za ia
         have Bp:=Za ez
         have gb:ni+(ll-1)≤maxLen:=by simp only[maxLen];omega
         have gq:(ni+(ll-1))*4≤140737488355328:=by omega
         have fg:Ml+1≤maxLen:=by simp only[maxLen];omega
         have gy:(Ml+1)*4≤140737488355328:=by omega
         have fx:∀u∈(Ud.ints lf).drop 1,u.oneCell'=true:=by intro u hu;unfold Ud.ints at hu;rw[←List.map_drop]at hu;obtain⟨y,_,rfl⟩:=List.mem_map.1 hu;rfl
         clear pn pq ia ez jh li ky gh mm x8 xm
         go_upto_region 19 with (fail)
         go_cut [8,10] (fun x y wx=>∃(nv:Option Addr) (og:Nat) (oa:Option Addr) (n5:Nat) (g:Ud.Ix→Option Fam.Row),x=.slice nv (ni+(ll-1)) og∧y=.slice oa (Ml+1) n5∧Fam wx (w1.heap.size+3) g ∧
          g (0,4)=some ⟨21,1,.slice nv (ni+(ll-1)) og,ni+(ll-1),Ud.ints (Ud.innM T Mr)++(Ud.ints lf).drop 1⟩∧g (0,6)=some ⟨21,1,.slice oa (Ml+1) n5,Ml+1,Ud.ints (Ud.mpdM Mr)++[.int .i32 r.1]⟩∧(∀ix:Ud.Ix,ix≠(0,4)→ix≠(0,6)→ix≠(9,2)→g ix=f9 ix)∧Below (w1.heap.size+3) a1 wx)
         case first =>
          go_wp2_with fail
          have e2:=Stg.Keep.cells (s:=fun q=>q=xb∨q=wr.heap.size) (w:=a1.drew) (own_cell Bp.out (i:=1) rfl) (.inl rfl)
          have e4:=Stg.Keep.cells (s:=fun q=>q=xb∨q=wr.heap.size) (w:=a1.drew) (own_cell y7.out (i:=0) rfl) (.inr rfl)
          have e5:=sr.out
          refine Stg.wp_regionX (Stg.Keep fun q=>q=xb∨q=wr.heap.size) (Stg.Keep.rel _) (by kernel_rfl) ?_
          refine Stg.takeX (Stg.Keep.rel _) 0 _ rfl (by kernel_rfl) (by kernel_rfl) (by kernel_rfl) (by kernel_rfl) (by kernel_rfl) ?_;intro K hK;go_big_quiet_op;go_big_quiet_on
          refine Stg.takeX (Stg.Keep.rel _) 1 _ rfl (by kernel_rfl) (by kernel_rfl) (by kernel_rfl) (by kernel_rfl) (by kernel_rfl) ?_;intro K hK;go_big_quiet_op;go_big_quiet_on
          refine Stg.takeX (Stg.Keep.rel _) 2 _ rfl (by kernel_rfl) (by kernel_rfl) (by kernel_rfl) (by kernel_rfl) (by kernel_rfl) ?_;intro K hK;go_big_quiet_op;go_big_quiet_on
          refine Stg.takeX (Stg.Keep.rel _) 3 _ rfl (by kernel_rfl) (by kernel_rfl) (by kernel_rfl) (by kernel_rfl) (by kernel_rfl) ?_;intro K hK;go_big_quiet_op;go_big_quiet_on
          refine Stg.takeX (Stg.Keep.rel _) 5 _ rfl (by kernel_rfl) (by kernel_rfl) (by kernel_rfl) (by kernel_rfl) (by kernel_rfl) ?_;intro K hK;go_big_quiet_op;go_big_quiet_on
          refine Stg.takeX (Stg.Keep.rel _) 6 _ rfl (by kernel_rfl) (by kernel_rfl) (by kernel_rfl) (by kernel_rfl) (by kernel_rfl) ?_;intro K hK;go_big_quiet_op;go_big_quiet_on
          refine Stg.takeX (Stg.Keep.rel _) 7 _ rfl (by kernel_rfl) (by kernel_rfl) (by kernel_rfl) (by kernel_rfl) (by kernel_rfl) ?_;intro K hK;go_big_quiet_op;go_big_quiet_on
          clear e2 e4 e5
          have mv:Below a1.heap.size a1 a1.drew:=(Zd _ _).drew
          have kg:=ey.out.below mv
          refine Stg.two 4 8 (by kernel_rfl) ?_ ?_
          · skip
            refine Stg.stepX 4 _ rfl (by kernel_rfl) (by kernel_rfl) (by kernel_rfl) ?_;intro K hK
            refine Fam.wp_append a1.drew _ _ _ rfl kg (0,4) _ df p0 _ 4 Tryz.underlying49 nn ny nw ol rfl Nat.one_pos rfl a1.drew.heap.size Ad (ll-1) (c12-1) ((Ud.ints lf).drop 1) rfl yq (l6.out _ (kg.own _ _ pw)) fx gb gq (Zh af (Zb _)) ?_
            intro Dq ko px ry vx
            have r7:ko.ownsRow (w1.heap.size+3) 21 1 Dq (ni+(ll-1)) (Ud.ints (Ud.innM T Mr)++(Ud.ints lf).drop 1):=px.own _ _ (Fam.set_same _ _ _)
            obtain⟨Cr,Ds,rfl⟩:=own_form r7
            have x6:=kg.ne (i:=(0,4)) (j:=(9,1)) (by intro e;cases e) df dh (b:=xb) rfl
            have ym:=kg.ne (i:=(0,4)) (j:=(9,0)) (by intro e;cases e) df di (b:=wr.heap.size) rfl
            refine hK _ _ (Stg.Keep.of_grown vx (by rintro q (rfl|rfl);exact⟨Zf bm (Zb _),Z8 x6⟩;exact⟨Zf bs (Zb _),Z8 ym⟩)) ?_
            intro A' aa;simp only[Act.put,Zs,ZF,ZD]at aa;subst aa
            have h4:a1.heap.size≤ko.heap.size:=Zh (Zb _) ry.size
            have xi:Below (w1.heap.size+3) a1 ko:=(mv.mono af).trans ry
            refine Stg.one 8 (by kernel_rfl) ?_
            refine Stg.stepX 8 _ rfl (by kernel_rfl) (by kernel_rfl) (by kernel_rfl) ?_;intro K hK;go_simp
            obtain⟨q6,ks⟩:∃wl,ko.alloc (.cells #[.int .i32 r.1] 21)=wl:=⟨_,rfl⟩
            have mb:Below ko.heap.size ko q6:=by rw[←ks];exact (Zd _ ko).alloc (Zb _) _
            have e9:=px.box (Zh af h4) (9,2) [.int .i32 r.1] 21 1 1 rfl (by decide)
            rw[ks]at e9
            rw[ks]
            refine hK _ _ (Stg.Keep.of_below mb (by rintro q (rfl|rfl);exact Zf bm h4;exact Zf bs h4)) ?_
            intro A' aa;subst aa
            have js:a1.heap.size≤q6.heap.size:=Zh h4 mb.size
            have x5:Below (w1.heap.size+3) a1 q6:=xi.trans (mb.mono (Zh af h4))
            refine Stg.one 9 (by kernel_rfl) ?_
            refine Stg.stepX 9 _ rfl (by kernel_rfl) (by kernel_rfl) (by kernel_rfl) ?_;intro K hK
            refine Fam.wp_append q6 _ _ _ rfl e9 (0,6) _ ((Fam.set_other _ _ (by intro e;cases e)).trans ((Fam.set_other _ _ (by intro e;cases e)).trans dk)) p0 _ 4 Tryz.underlying49 nn ny nw ol rfl Nat.one_pos rfl q6.heap.size (some ⟨ko.heap.size,0,none⟩) 1 1 [.int .i32 r.1] rfl rfl (Sl.of_own (e9.own _ _ (Fam.set_same _ _ _))) (by simp[Value.oneCell']) fg gy (Zh af js) ?_
            intro Dv wy r8 pv yl
            have qg:wy.ownsRow (w1.heap.size+3) 21 1 Dv (Ml+1) (Ud.ints (Ud.mpdM Mr)++[.int .i32 r.1]):=r8.own _ _ (Fam.set_same _ _ _)
            obtain⟨Dt,C8,rfl⟩:=own_form qg
            have yr:=e9.ne (i:=(0,6)) (j:=(9,1)) (by intro e;cases e) ((Fam.set_other _ _ (by intro e;cases e)).trans ((Fam.set_other _ _ (by intro e;cases e)).trans dk)) ((Fam.set_other _ _ (by intro e;cases e)).trans ((Fam.set_other _ _ (by intro e;cases e)).trans dh)) (b:=xb) rfl
            have uz:=e9.ne (i:=(0,6)) (j:=(9,0)) (by intro e;cases e) ((Fam.set_other _ _ (by intro e;cases e)).trans ((Fam.set_other _ _ (by intro e;cases e)).trans dk)) ((Fam.set_other _ _ (by intro e;cases e)).trans ((Fam.set_other _ _ (by intro e;cases e)).trans di)) (b:=wr.heap.size) rfl
            refine hK _ _ (Stg.Keep.of_grown yl (by rintro q (rfl|rfl);exact⟨Zf bm js,Z8 yr⟩;exact⟨Zf bs js,Z8 uz⟩)) ?_
            intro A' aa;simp only[Act.put,Zs,ZF,ZD]at aa;subst aa
            have Cf:a1.heap.size≤wy.heap.size:=Zh js pv.size
            have xh:Below (w1.heap.size+3) a1 wy:=x5.trans pv
            refine Stg.takeX (Stg.Keep.rel _) 10 _ rfl (by kernel_rfl) (by kernel_rfl) (by kernel_rfl) (by kernel_rfl) (by kernel_rfl) ?_;intro K hK;go_big_quiet_op;go_big_quiet_on
            refine Stg.takeX (Stg.Keep.rel _) 11 _ rfl (by kernel_rfl) (by kernel_rfl) (by kernel_rfl) (by kernel_rfl) (by kernel_rfl) ?_;intro K hK;go_big_quiet_op;go_big_quiet_on
            refine Stg.endX (by kernel_rfl) ?_
            go_wp2_with fail
            go_meet
            exact⟨Cr,Ds,Dt,C8,_,rfl,rfl,r8,by simp[Fam.set],by simp[Fam.set],fun ix h1 h2 h3=>by simp[Fam.set,h1,h2,h3],xh⟩
          · skip
            refine Stg.stepX 8 _ rfl (by kernel_rfl) (by kernel_rfl) (by kernel_rfl) ?_;intro K hK;go_simp
            obtain⟨nx,ku⟩:∃wl,(a1.alloc (.cells #[.int .i32 r.1] 21)).drew=wl:=⟨_,rfl⟩
            have kv:Below a1.drew.heap.size a1.drew nx:=by rw[←ku];exact (Zd _ a1.drew).alloc (Zb _) _
            have iq:Fam nx (w1.heap.size+3) (Fam.set f9 (9,2) ⟨21,1,.slice (some ⟨a1.heap.size,0,none⟩) 1 1,1,[.int .i32 r.1]⟩):=by rw[←ku];exact kg.box af (9,2) [.int .i32 r.1] 21 1 1 rfl (by decide)
            rw[ku]
            refine hK _ _ (Stg.Keep.of_below kv (by rintro q (rfl|rfl);exact Zf bm (Zb _);exact Zf bs (Zb _))) ?_
            intro A' aa;subst aa
            have im:a1.heap.size≤nx.heap.size:=Zh (Zb _) kv.size
            have vn:Below (w1.heap.size+3) a1 nx:=(mv.mono af).trans (kv.mono (Zh af (Zb _)))
            refine Stg.one 4 (by kernel_rfl) ?_
            refine Stg.stepX 4 _ rfl (by kernel_rfl) (by kernel_rfl) (by kernel_rfl) ?_;intro K hK
            refine Fam.wp_append nx _ _ _ rfl iq (0,4) _ ((Fam.set_other _ _ (by intro e;cases e)).trans df) p0 _ 4 Tryz.underlying49 nn ny nw ol rfl Nat.one_pos rfl nx.heap.size Ad (ll-1) (c12-1) ((Ud.ints lf).drop 1) rfl yq (l6.out _ (iq.own _ _ ((Fam.set_other _ _ (by intro e;cases e)).trans pw))) fx gb gq (Zh af im) ?_
            intro Cu q0 gw se yn
            have cv:q0.ownsRow (w1.heap.size+3) 21 1 Cu (ni+(ll-1)) (Ud.ints (Ud.innM T Mr)++(Ud.ints lf).drop 1):=gw.own _ _ (Fam.set_same _ _ _)
            obtain⟨Cb,Dk,rfl⟩:=own_form cv
            have ux:=iq.ne (i:=(0,4)) (j:=(9,1)) (by intro e;cases e) ((Fam.set_other _ _ (by intro e;cases e)).trans df) ((Fam.set_other _ _ (by intro e;cases e)).trans dh) (b:=xb) rfl
            have xd:=iq.ne (i:=(0,4)) (j:=(9,0)) (by intro e;cases e) ((Fam.set_other _ _ (by intro e;cases e)).trans df) ((Fam.set_other _ _ (by intro e;cases e)).trans di) (b:=wr.heap.size) rfl
            refine hK _ _ (Stg.Keep.of_grown yn (by rintro q (rfl|rfl);exact⟨Zf bm im,Z8 ux⟩;exact⟨Zf bs im,Z8 xd⟩)) ?_
            intro A' aa;simp only[Act.put,Zs,ZF,ZD]at aa;subst aa
            have jx:a1.heap.size≤q0.heap.size:=Zh im se.size
            have vu:Below (w1.heap.size+3) a1 q0:=vn.trans se
            refine Stg.one 9 (by kernel_rfl) ?_
            refine Stg.stepX 9 _ rfl (by kernel_rfl) (by kernel_rfl) (by kernel_rfl) ?_;intro K hK
            refine Fam.wp_append q0 _ _ _ rfl gw (0,6) _ ((Fam.set_other _ _ (by intro e;cases e)).trans ((Fam.set_other _ _ (by intro e;cases e)).trans dk)) p0 _ 4 Tryz.underlying49 nn ny nw ol rfl Nat.one_pos rfl q0.heap.size (some ⟨a1.heap.size,0,none⟩) 1 1 [.int .i32 r.1] rfl rfl (Sl.of_own (gw.own _ _ ((Fam.set_other _ _ (by intro e;cases e)).trans (Fam.set_same _ _ _)))) (by simp[Value.oneCell']) fg gy (Zh af jx) ?_
            intro De vz qu o3 vq
            have p9:vz.ownsRow (w1.heap.size+3) 21 1 De (Ml+1) (Ud.ints (Ud.mpdM Mr)++[.int .i32 r.1]):=qu.own _ _ (Fam.set_same _ _ _)
            obtain⟨Dd,Cv,rfl⟩:=own_form p9
            have yd:=gw.ne (i:=(0,6)) (j:=(9,1)) (by intro e;cases e) ((Fam.set_other _ _ (by intro e;cases e)).trans ((Fam.set_other _ _ (by intro e;cases e)).trans dk)) ((Fam.set_other _ _ (by intro e;cases e)).trans ((Fam.set_other _ _ (by intro e;cases e)).trans dh)) (b:=xb) rfl
            have vv:=gw.ne (i:=(0,6)) (j:=(9,0)) (by intro e;cases e) ((Fam.set_other _ _ (by intro e;cases e)).trans ((Fam.set_other _ _ (by intro e;cases e)).trans dk)) ((Fam.set_other _ _ (by intro e;cases e)).trans ((Fam.set_other _ _ (by intro e;cases e)).trans di)) (b:=wr.heap.size) rfl
            refine hK _ _ (Stg.Keep.of_grown vq (by rintro q (rfl|rfl);exact⟨Zf bm jx,Z8 yd⟩;exact⟨Zf bs jx,Z8 vv⟩)) ?_
            intro A' aa;simp only[Act.put,Zs,ZF,ZD]at aa;subst aa
            have Cq:a1.heap.size≤vz.heap.size:=Zh jx o3.size
            have yg:Below (w1.heap.size+3) a1 vz:=vu.trans o3
            refine Stg.takeX (Stg.Keep.rel _) 10 _ rfl (by kernel_rfl) (by kernel_rfl) (by kernel_rfl) (by kernel_rfl) (by kernel_rfl) ?_;intro K hK;go_big_quiet_op;go_big_quiet_on
            refine Stg.takeX (Stg.Keep.rel _) 11 _ rfl (by kernel_rfl) (by kernel_rfl) (by kernel_rfl) (by kernel_rfl) (by kernel_rfl) ?_;intro K hK;go_big_quiet_op;go_big_quiet_on
            refine Stg.endX (by kernel_rfl) ?_
            go_wp2_with fail
            go_meet
            exact⟨Cb,Dk,Dd,Cv,_,rfl,rfl,qu,by simp[Fam.set],by simp[Fam.set],fun ix h1 h2 h3=>by simp[Fam.set,h1,h2,h3],yg⟩
         case rest =>
          obtain⟨nv,og,oa,n5,f10,rfl,rfl,km,sg,om,bw,ed⟩:=hcut
          obtain⟨bu,rfl⟩:∃q:World,q=wc:=⟨_,rfl⟩
          have cy:=Za km
          have mn:=Za (B5.out.below' ed (by omega))
          have o4:=Za (Bf.out.same (ed.block _ (by omega)))
          have rj:=Za (zw.out.same (ed.block _ (by omega)))
          have oz:=Za (il.out.trans (ed.mono (by omega)))
          have ck:=Zh af ed.size
          have qe:∀ix:Ud.Ix,ix≠(0,4)→ix≠(0,6)→ix≠(9,2)→ix≠(1,hd)→ix≠(0,2)→ix≠(0,3)→ix≠(3,(Ml:Int))→ix≠(4,(Ml:Int))→ix≠(9,1)→f10 ix=f4 ix:=fun ix k1 k2 k3 k4 k5 k6 k7 k8 k9=>by rw[bw _ k1 k2 k3,s3 _ k4 k5 k6 k7 k8 k9]
          have dn:=Za qe
          have rc:=Za bw
          have qh:=Za sg
          have qd:=Za om
          have rr:=Za ((bw (9,1) (by intro e;cases e) (by intro e;cases e) (by intro e;cases e)).trans dh)
          have xt:=Za ((bw (9,0) (by intro e;cases e) (by intro e;cases e) (by intro e;cases e)).trans di)
          have vh:=Za ((bw (3,(Ml:Int)) (by intro e;cases e) (by intro e;cases e) (by intro e;cases e)).trans zv)
          have Dn:=Za ((bw (4,(Ml:Int)) (by intro e;cases e) (by intro e;cases e) (by intro e;cases e)).trans pw)
          have vy:=Za ((bw (1,hd) (by intro e;cases e) (by intro e;cases e) (by intro e;cases e)).trans xj.out)
          have za:=Za ((bw (0,2) (by intro e;cases e) (by intro e;cases e) (by intro e;cases e)).trans ((iu.out (0,2) (by intro e;cases e)).trans zk.out))
          have zr:=Za ((bw (0,3) (by intro e;cases e) (by intro e;cases e) (by intro e;cases e)).trans ((iu.out (0,3) (by intro e;cases e)).trans ((eu.out (0,3) (by intro e;cases e)).trans Bc.out)))
          have Cc:=Za nl
          have Dg:=Za i7
          have i6:bu.ownsRow (w1.heap.size+3) 79 3 (.slice (some ⟨xb,0,none⟩) 1 1) 1 [.slice (some ⟨mk,0,none⟩) ml aw,.slice (some ⟨fb,0,none⟩) ll c12,.bool pr]:=cy.out.own _ _ rr.out
          have x2:=own_cell i6 (i:=2) rfl
          have x3:=(own_at i6 (g:=xb) rfl).2
          have vk:=Za i6
          clear km sg om bw qe ed i6 s3 di dh zv pw df dk l6 sr y7 Bp yq gb gq fg gy fx bs bm ey B5 Bf zw il af iu xj eu zk ik Bc nl i7
          have qb:Ud.mr (T.take (j+1))=Mr++[r]:=by rw[uh.out,Ud.add_map (by rw[bl.out];exact ya),Az.out]
          have tj:=Za qb
          have ki:∀(f':Ud.Ix→Option Fam.Row) (wg:Value),(∀ix:Ud.Ix,ix.1≤5→ix≠(0,5)→f' ix=f10 ix)→f' (0,5)=some (Ud.rowV wg (Ud.secM T X (Mr++[r]))) →
           Ud.Rows T X (Kr++[r]) (Mr++[r]) f' (.slice A7 (Kl+1) c7) (.slice np (Kl+1) oc) (.slice qw (Ml+1) c20) (.slice rh (Ml+1) ou) (.slice nv (ni+(ll-1)) og) wg (.slice oa (Ml+1) n5) (ads++[(A5,c5)]) (es++[⟨some ⟨mk,0,none⟩,aw,some ⟨fb,0,none⟩,c12⟩]):=by
           intro f' wg hs h5
           refine ar.out.addM (r:=r) (a:=⟨some ⟨mk,0,none⟩,aw,some ⟨fb,0,none⟩,c12⟩) ?_ ?_ ?_ ?_ h5 ?_ ?_ ?_ ?_ (fun q=>?_) (fun q hq=>?_) (fun q hq=>?_)
           · rw[hs _ (ZE _) (by intro e;cases e),bj.out];exact za.out
           · rw[hs _ (ZE _) (by intro e;cases e),bj.out,bl.out,ud.out,jv.out,et.out];exact zr.out
           · rw[hs _ (ZE _) (by intro e;cases e),qh.out,ud.out]
             unfold Ud.rowV Ud.ints
             rw[Ze,Cc.out,ZK,jv.out,ZM,List.map_drop]
           · rw[hs _ (ZE _) (by intro e;cases e),qd.out]
             unfold Ud.rowV Ud.ints
             rw[Ze,Dg.out,ZM];rfl
           · rw[hs _ (by show (3:Nat)≤5;decide) (by intro e;cases e),bj.out,vh.out]
             unfold Ud.rowOf
             rw[bl.out]
           · rw[hs _ (by show (4:Nat)≤5;decide) (by intro e;cases e),bj.out,Dn.out]
             unfold Ud.rowOf
             rw[ud.out,jv.out]
           · rw[hs _ (ZE _) (by intro e;cases e),dn.out _ (by intro e;cases e) (by intro e;cases e) (by intro e;cases e) (by intro e;cases e) (by intro e;cases e) (by intro e;cases e) (by intro e;cases e) (by intro e;cases e) (by intro e;cases e)]
           · rw[hs _ (ZE _) (by intro e;cases e),dn.out _ (by intro e;cases e) (by intro e;cases e) (by intro e;cases e) (by intro e;cases e) (by intro e;cases e) (by intro e;cases e) (by intro e;cases e) (by intro e;cases e) (by intro e;cases e)]
           · rw[hs _ (by show (2:Nat)≤5;decide) (by intro e;cases e),dn.out _ (by intro e;cases e) (by intro e;cases e) (by intro e;cases e) (by intro e;cases e) (by intro e;cases e) (by intro e;cases e) (by intro e;cases e) (by intro e;cases e) (by intro e;cases e)]
           · rw[bj.out]at hq
             rw[hs _ (by show (3:Nat)≤5;decide) (by intro e;cases e),dn.out _ (by intro e;cases e) (by intro e;cases e) (by intro e;cases e) (by intro e;cases e) (by intro e;cases e) (by intro e;cases e) (by intro e;simp only[Yy,X0]at e;exact hq e) (by intro e;cases e) (by intro e;cases e)]
           · rw[bj.out]at hq
             rw[hs _ (by show (4:Nat)≤5;decide) (by intro e;cases e),dn.out _ (by intro e;cases e) (by intro e;cases e) (by intro e;cases e) (by intro e;cases e) (by intro e;cases e) (by intro e;cases e) (by intro e;cases e) (by intro e;simp only[Yy,X0]at e;exact hq e) (by intro e;cases e)]
          have rb:f10 (0,5)=some (Ud.rowV vs (Ud.secM T X Mr)):=by rw[dn.out _ (by intro e;cases e) (by intro e;cases e) (by intro e;cases e) (by intro e;cases e) (by intro e;cases e) (by intro e;cases e) (by intro e;cases e) (by intro e;cases e) (by intro e;cases e)];exact ar.out.s
          have qx:∀f':Ud.Ix→Option Fam.Row,(∀ix:Ud.Ix,ix.1≤5→ix≠(0,5)→f' ix=f10 ix)→Ud.BegI T (Mr++[r]) f' G':=fun f' hs=>gx.out.keep fun c=>by rw[hs _ (by show (1:Nat)≤5;decide) (by intro e;cases e),rc.out _ (by intro e;cases e) (by intro e;cases e) (by intro e;cases e)]
          have o8:=Za ki
          have ot:=Za qx
          have kr:=Za rb
          clear qb ki qx rb ar cr gx dn rc qh qd za zr vy
          cases pr with
          | false =>
            have fw:Ud.secM T X (Mr++[r])=Ud.secM T X Mr:=by rw[Ud.secM_app,et.out];rfl
            have az:Ud.Inv T X (Ud.keep (T.take (j+1))) (Ud.mr (T.take (j+1))) bu (w1.heap.size+3) (w1.heap.size+1+1) w1.heap.size (w1.heap.size+1) XA xn xc (.slice np (Kl+1) oc) (.slice qw (Ml+1) c20) (.slice nv (ni+(ll-1)) og) vs (.slice oa (Ml+1) n5):=by
             rw[dx.out,tj.out]
             exact⟨f10,_,_,_,_,G',J,cy.out,mn.out,o4.out,rj.out,ck,o8.out f10 vs (fun _ _ _=>rfl) (by rw[fw];exact kr.out),ot.out f10 (fun _ _ _=>rfl),ef.out.no et.out⟩
            have nf:=Za az
            clear az fw
            go_wp2_with fail
            exact⟨⟨j+1,_,_,_,_,_,by omega,by go_num,rfl,rfl,rfl,rfl,rfl,nf.out,oz.out⟩,by simp[intOf];omega⟩
          | true =>
            obtain⟨m0,m1,ew⟩:=Ud.prim_two xz.out j0.out.rises C1.out et.out
            have C7:ml=2:=by rw[←bl.out,ew];rfl
            have wj:=l4.out.2 m0 (by rw[ew];simp)
            have u9:=l4.out.2 m1 (by rw[ew];simp)
            have jm:bu.ownsRow (w1.heap.size+3) 21 1 (.slice (some ⟨mk,0,none⟩) ml aw) ml (Ud.ints r.2.2):=cy.out.own _ _ vh.out
            have sq:=(own_at jm (g:=mk) rfl).2
            have q5:bu.ownsRow (w1.heap.size+3) 113 3 (.slice (some ⟨wr.heap.size,0,none⟩) 1 1) 1 [.int .i32 r.1,.int .i64 r.2.1,.slice a.1 ml a.2]:=cy.out.own _ _ xt.out
            have y0:bu.cell? ⟨mk,0,none⟩=some (.int .i32 m0):=own_cell jm (by rw[ew];rfl)
            have y1:bu.cell? ⟨mk,1,none⟩=some (.int .i32 m1):=own_cell jm (by rw[ew];rfl)
            have e1:=Stg.Keep.cells (s:=fun q=>q=xb∨q=w1.heap.size+1+1∨q=wr.heap.size∨q=mk) (w:=bu.drew) (mn.out.cell 6 rfl) (.inr (.inl rfl))
            have e2:=Stg.Keep.cells (s:=fun q=>q=xb∨q=w1.heap.size+1+1∨q=wr.heap.size∨q=mk) (w:=bu.drew) (own_cell vk.out (i:=0) rfl) (.inl rfl)
            have e3:=Stg.Keep.cells (s:=fun q=>q=xb∨q=w1.heap.size+1+1∨q=wr.heap.size∨q=mk) (w:=bu.drew) y0 (.inr (.inr (.inr rfl)))
            have e4:=Stg.Keep.cells (s:=fun q=>q=xb∨q=w1.heap.size+1+1∨q=wr.heap.size∨q=mk) (w:=bu.drew) y1 (.inr (.inr (.inr rfl)))
            have e5:=Stg.Keep.cells (s:=fun q=>q=xb∨q=w1.heap.size+1+1∨q=wr.heap.size∨q=mk) (w:=bu.drew) (own_cell q5 (i:=0) rfl) (.inr (.inr (.inl rfl)))
            have Bs:(0:Int)<ml:=by omega
            have D2:(1:Int)<ml:=by omega
            obtain⟨ec,J',mo,qp,Bz,zh,eo⟩:=Ud.putP (w:=bu.drew) (rj.out.same rfl) wj u9 (.int .i32 r.1)
            clear q5 jm y0 y1
            go_wp2_with fail
            refine Stg.wp_region (Stg.Keep fun q=>q=xb∨q=w1.heap.size+1+1∨q=wr.heap.size∨q=mk) (Stg.Keep.rel _) (by kernel_rfl) (by kernel_rfl) (by decide +kernel) ?_
            iterate 3 (refine Stg.readW (by kernel_rfl) (by kernel_rfl) (by kernel_rfl) ?_;intro K hK;go_big_quiet_op;go_big_quiet_on)
            refine Stg.read 0 (by kernel_rfl) (by kernel_rfl) (by kernel_rfl) bu.drew rfl (by kernel_rfl) ?_;intro K hK;go_big_quiet_op;go_big_quiet_on
            refine Stg.readW (by kernel_rfl) (by kernel_rfl) (by kernel_rfl) ?_;intro K hK;go_big_quiet_op;go_big_quiet_on
            refine Stg.read 0 (by kernel_rfl) (by kernel_rfl) (by kernel_rfl) bu.drew rfl (by kernel_rfl) ?_;intro K hK;go_big_quiet_op;go_big_quiet_on
            refine Stg.readW (by kernel_rfl) (by kernel_rfl) (by kernel_rfl) ?_;intro K hK;go_big_quiet_op;go_big_quiet_on
            refine Stg.read 0 (by kernel_rfl) (by kernel_rfl) (by kernel_rfl) bu.drew rfl (by kernel_rfl) ?_;intro K hK;go_big_quiet_op;go_big_quiet_on
            refine Stg.readW (by kernel_rfl) (by kernel_rfl) (by kernel_rfl) ?_;intro K hK;go_big_quiet_op;go_big_quiet_on
            refine Stg.read 0 (by kernel_rfl) (by kernel_rfl) (by kernel_rfl) bu.drew rfl (by kernel_rfl) ?_;intro K hK;go_big_quiet_op;go_big_quiet_on
            refine Stg.readW (by kernel_rfl) (by kernel_rfl) (by kernel_rfl) ?_;intro K hK;go_big_quiet_op;go_big_quiet_on
            refine Stg.read 0 (by kernel_rfl) (by kernel_rfl) (by kernel_rfl) bu.drew rfl (by kernel_rfl) ?_;intro K hK;go_big_quiet_op;go_big_quiet_on
            iterate 2 (refine Stg.readW (by kernel_rfl) (by kernel_rfl) (by kernel_rfl) ?_;intro K hK;go_big_quiet_op;go_big_quiet_on)
            refine Stg.read 0 (by kernel_rfl) (by kernel_rfl) (by kernel_rfl) bu.drew rfl (by kernel_rfl) ?_;intro K hK;go_big_quiet_op;go_big_quiet_on
            refine Stg.last bu.drew (by kernel_rfl) (by kernel_rfl) (by kernel_rfl) rfl (by kernel_rfl) ?_;intro K hK;go_simp
            refine hK _ _ ?_
            intro A' aa;subst aa
            refine Stg.nil ec rfl ?_
            have hbd:Below bu.heap.size bu bu.drew:=(Zd _ _).drew
            have jr:Hid (Fam ec (w1.heap.size+3) f10):=Za ((cy.out.below hbd).other eo (by omega))
            have uy:=Za ((mn.out.below hbd).grown eo (by simp only[X3,Zi];omega))
            have vo:=Za ((o4.out.below hbd).grown eo (by simp only[X3,Zi];omega))
            have yb:=Za qp
            have yj:Hid (Below w1.heap.size w1 ec):=Za (oz.out.trans ((hbd.mono (by omega)).trans (grown_belowB eo (Zh (by omega) ck) (by omega))))
            have jf:=Zh ck eo.size
            have r4:Hid (Ud.JoiI T X (Mr++[r]) J'):=Za (ef.out.add et.out (by rw[ew];exact Bz) (by rw[ew];exact zh))
            have fw:Ud.secM T X (Mr++[r])=Ud.secM T X Mr++[m1]:=by rw[Ud.secM_app,et.out,Zp rfl,ew];rfl
            have wu:=Za fw
            have mf:ec.ownsRow (w1.heap.size+3) 79 3 (.slice (some ⟨xb,0,none⟩) 1 1) 1 [.slice (some ⟨mk,0,none⟩) ml aw,.slice (some ⟨fb,0,none⟩) ll c12,.bool true]:=jr.out.own _ _ rr.out
            have lp:ec.ownsRow (w1.heap.size+3) 21 1 (.slice (some ⟨mk,0,none⟩) ml aw) ml (Ud.ints r.2.2):=jr.out.own _ _ vh.out
            obtain⟨ns,nt⟩:∃k,(Ud.secM T X Mr).length=k:=⟨_,rfl⟩
            have Dx:ns≤10000:=by rw[←nt];unfold Ud.secM Ud.prsM;rw[List.length_map];exact Nat.le_trans (List.length_filter_le _ _) (by rw[bj.out];exact qt)
            have l9:ec.ownsRow (w1.heap.size+3) 21 1 vs (Ud.secM T X Mr).length (Ud.ints (Ud.secM T X Mr)):=jr.out.own _ _ kr.out
            rw[nt]at l9
            obtain⟨As,cs,rfl⟩:=own_form l9
            have Ar:f10 (0,5)=some ⟨21,1,.slice As ns cs,ns,Ud.ints (Ud.secM T X Mr)⟩:=by rw[kr.out];unfold Ud.rowV;rw[nt]
            have x0:=own_cell mf (i:=0) rfl
            have y1:ec.cell? ⟨mk,1,none⟩=some (.int .i32 m1):=own_cell lp (by rw[ew];rfl)
            have x4:=(own_at mf (g:=xb) rfl).2
            have y4:=(own_at lp (g:=mk) rfl).2
            obtain⟨lg,jo⟩:∃lg,ec.alloc (.cells #[.int .i32 m1] 21)=lg:=⟨_,rfl⟩
            have jw:Below ec.heap.size ec lg:=by rw[←jo];exact (Zd _ _).alloc (Zb _) _
            have j2:Sl lg lg.heap.size (some ⟨ec.heap.size,0,none⟩) [.int .i32 m1]:=by rw[←jo];exact (Rw.At.new ec 21 [.int .i32 m1]).slt.sl
            have py:=Za (jr.out.below jw)
            have ju:=Za jw
            have vg:=Za jo
            have r6:=Za j2
            have dw:=Zh jf jw.size
            have Dl:=Za nt
            clear mo qp Bz zh eo hbd fw mf lp l9 nt jw jo j2 e1 e2 e3 e4 e5 x2 x3 sq
            go_upto_region 23 with (first|(at_builtin;rw[vg.out];refine Fam.wpList_append lg rfl _ _ _ rfl py.out (0,5) _ Ar p0 _ 4 Tryz.underlying49 nn ny nw ol rfl Nat.one_pos rfl lg.heap.size (some ⟨ec.heap.size,0,none⟩) 1 1 [.int .i32 m1] rfl rfl r6.out (by simp[Value.oneCell']) (by simp only[maxLen];omega) (by simp only;omega) dw ?_;intro wk yt kw l3 jy)|fail)
            have ag:=fun b (hb:b<w1.heap.size+3)=>py.out.low Ar (b:=b) hb
            have gu:yt.ownsRow (w1.heap.size+3) 21 1 wk (ns+1) (Ud.ints (Ud.secM T X Mr)++[.int .i32 m1]):=kw.own _ _ (Fam.set_same _ _ _)
            have az:Ud.Inv T X (Ud.keep (T.take (j+1))) (Ud.mr (T.take (j+1))) yt (w1.heap.size+3) (w1.heap.size+1+1) w1.heap.size (w1.heap.size+1) XA xn xc (.slice np (Kl+1) oc) (.slice qw (Ml+1) c20) (.slice nv (ni+(ll-1)) og) wk (.slice oa (Ml+1) n5):=by
             rw[dx.out,tj.out]
             refine⟨_,_,_,_,_,G',J',kw,(uy.out.below ju.out).grown jy (ag _ (by omega)),(vo.out.below ju.out).grown jy (Z8 (ag _ (by omega))),(yb.out.below ju.out).grown jy (Z8 (ag _ (by omega))),Zh dw l3.size,o8.out _ wk (fun ix _ h=>Fam.set_other _ _ h) ?_,ot.out _ (fun ix _ h=>Fam.set_other _ _ h),r4.out⟩
             rw[Fam.set_same,wu.out]
             unfold Ud.rowV Ud.ints
             rw[Ze,Dl.out,ZM];rfl
            have nf:=Za az
            have vr:Hid (Below w1.heap.size w1 yt):=Za (yj.out.trans ((ju.out.mono (by omega)).trans (l3.mono (by omega))))
            obtain⟨D3,D6,rfl⟩:=own_form gu
            clear az kw l3 jy ag gu x0 y1
            go_wp2_with fail
            exact⟨⟨j+1,_,_,_,_,_,by omega,by go_num,rfl,rfl,rfl,rfl,rfl,nf.out,vr.out⟩,by simp[intOf];omega⟩
      · have rf:ml=0:=by have:=beq_iff_eq.1 hz;omega
        have r0:r.2.2=[]:=Zy (by rw[bl.out];exact rf)
        have qb:Ud.mr (T.take (j+1))=Mr:=by rw[uh.out,Ud.add_plain r0,Az.out]
        have az:Ud.Inv T X (Ud.keep (T.take (j+1))) (Ud.mr (T.take (j+1))) ao (w1.heap.size+3) (w1.heap.size+1+1) w1.heap.size (w1.heap.size+1) XA xn xc (.slice np (Kl+1) oc) vp vi vs vm:=by
         rw[dx.out,qb]
         exact⟨f4,_,ve,_,es,G,J,o9.out,pj.out,r9.out,po.out,ah,ar.out,cr.out,ef.out⟩
        have nf:=Za az
        clear az qb r0 rf
        go_wp2_with fail
        exact⟨⟨j+1,_,_,_,_,_,by omega,by go_num,rfl,rfl,rfl,rfl,rfl,nf.out,ay.out⟩,by simp[intOf];omega⟩
  · obtain rfl:n=j:=by omega
    have A8:T.take n=T:=Zj (by rw[HN.out];exact Zb _)
    obtain⟨f,vT,ve,ads,es,G,J,hF,hD,hM,hJ,bi,ax,cu,cx⟩:=du.out
    rw[A8]at ax cu cx
    obtain⟨Kr,ig⟩:∃K,Ud.keep T=K:=⟨_,rfl⟩
    obtain⟨Mr,nr⟩:∃M,Ud.mr T=M:=⟨_,rfl⟩
    have Ax:Kr.length≤10000:=by rw[←ig];unfold Ud.keep;exact Nat.le_trans (List.length_filter_le _ _) (by rw[HN.out];exact zn)
    have s4:Mr.length≤10000:=by rw[←nr];unfold Ud.mr;exact Nat.le_trans (List.length_filter_le _ _) (by rw[HN.out];exact zn)
    have hcK:Pg.cellsOk (Ud.clK Kr):=by
     intro x hx
     unfold Ud.clK at hx
     obtain⟨r,hr,rfl⟩:=List.mem_map.1 hx
     rw[←ig]at hr
     have Af:=(Ud.mem_keep.1 hr).1
     have h1:=(s9.out r Af).1
     have h2:=kq.out r Af
     exact⟨h1.1,h1.2,h2.2.1,by have:=h2.2.2.1;show r.2.1≤65535;omega⟩
    have Bv:Pg.cellsOk (Ud.plG 0 Mr):=by
     intro x hx
     obtain⟨q,hq⟩:=List.mem_iff_getElem?.1 hx
     rw[Ud.plG_get]at hq
     cases hr:Mr[q]? with
     | none=>rw[hr]at hq;cases hq
     | some r =>
       rw[hr,Zt,Zi]at hq
       subst hq
       have hl:=(List.getElem?_eq_some_iff.1 hr).1
       have Bq:=Zk hr
       rw[←nr]at Bq
       have h1:=(s9.out r (Ud.mem_mr.1 Bq).1).1
       exact⟨h1.1,h1.2,by show (0:Int)≤((0+q:Nat):Int)+1;omega,by show ((0+q:Nat):Int)+1≤65535;omega⟩
    rw[ig,nr]at ax
    rw[nr]at cu cx
    have nz:wr.ownsRow (w1.heap.size+3) 166 2 vc Kr.length (Pg.fl (Ud.clK Kr)):=hF.own _ _ ax.c
    obtain⟨Ac,cc,rfl⟩:=own_form nz
    have nh:wr.ownsRow (w1.heap.size+3) 166 2 vp Mr.length (Pg.fl (Ud.plG 0 Mr)):=hF.own _ _ ax.p
    obtain⟨Ap,cp,rfl⟩:=own_form nh
    have qf:=fun W (hW:Below wr.heap.size wr W)=>Pg.new_lo Ac Kr.length cc (Ud.clK Kr) W (by unfold Ud.clK;rw[List.length_map]) hcK ((Sl.of_own nz).below hW hW.size) (by simp only[maxLen];omega)
    have kf:(Ud.plG 0 Mr).length=Mr.length:=by
     have h1:=Z4 List.length (Y0 (f:=fun (x:Int × Int)=>x.1) (l:=Ud.plG 0 Mr) fun x _=>rfl)
     have:∀(l:List Rw.Row) (k:Nat),(Ud.plG k l).length=l.length:=by
      intro l
      induction l with
      | nil=>intro k;rfl
      | cons r l ih=>intro k;simp[Ud.plG,ih]
     exact this _ _
    have o1:=fun W (hW:Below wr.heap.size wr W)=>Pg.new_lo Ap Mr.length cp (Ud.plG 0 Mr) W kf Bv ((Sl.of_own nh).below hW hW.size) (by simp only[maxLen];omega)
    have qq:=Za qf
    have qc:=Za o1
    have HF:=Za hF
    have HD:=Za hD
    have HM:=Za hM
    have HJ:=Za hJ
    have aj:=Za ax
    have ja:=Za cu
    have ef:=Za cx
    have xr:=Za ig
    have tj:=Za nr
    have sy:=hD.lt
    clear qf o1 hF hD hM hJ ax cu cx ig nr nz nh hcK Bv kf A8 kz bo
    go_wp2_with fail
    refine (qq.out wr (Zd _ _)).mono ?_
    rintro e wp1 ⟨pc,rfl,ur,ow⟩
    have uw:=ur
    obtain⟨gc,D9,Eb,rfl,_⟩:=uw
    have Br:=Za ur
    have ft:=Za ow
    clear ur ow
    go_wp2_with fail
    refine (qc.out wp1 ft.out).mono ?_
    rintro e wp2 ⟨pp,rfl,xa,lx⟩
    have yi:=xa
    obtain⟨gp,D7,D8,rfl,_⟩:=yi
    have A1:=Za xa
    have yf:=Za lx
    have mi:=Za (ft.out.trans (lx.mono ft.out.size))
    clear xa lx
    have l7:=HD.out.below mi.out
    have u0:=l7.cell 2 rfl
    have u1:=l7.cell 3 rfl
    have u2:=l7.frozen 2
    have u3:=l7.frozen 3
    have u4:=l7.lt
    obtain⟨c8,j1⟩:∃c8,(wp2.setCell ⟨w1.heap.size+1+1,2,none⟩ (.pointer (some ⟨gc,0,none⟩))).setCell ⟨w1.heap.size+1+1,3,none⟩ (.pointer (some ⟨gp,0,none⟩))=c8:=⟨_,rfl⟩
    have x9:=Za j1
    have b9:wp2.grownBy c8 (some (w1.heap.size+1+1)):=by rw[←j1];exact Rw.grown_trans (Rw.grown_set _ _ _) (Rw.grown_set _ _ _)
    have yc:Hid (Rw.At c8 (w1.heap.size+1+1) 135 [vT,.slice XA xn xc,.pointer (some ⟨gc,0,none⟩),.pointer (some ⟨gp,0,none⟩),ve,.map (some w1.heap.size),.map (some (w1.heap.size+1)),.slice none 0 0,.slice none 0 0,.slice none 0 0]):=Za (by rw[←j1];exact (l7.set 2 _).set 3 _)
    have Cj:=Za b9
    have jt:=Za ((HF.out.below mi.out).other b9 (by omega))
    have yp:=Za ((HM.out.below mi.out).grown b9 (by simp only[X3,Zi];omega))
    have ye:=Za ((HJ.out.below mi.out).grown b9 (by simp only[X3,Zi];omega))
    have pu:=Za (((Pg.IsL.below Br.out yf.out).grown b9 sy))
    have p2:=Za ((Pg.IsL.grown A1.out b9 (Zf sy ft.out.size)))
    have ct:wr.heap.size≤c8.heap.size:=Zh mi.out.size b9.size
    have jc:Hid (Below w1.heap.size w1 c8):=Za (ch.out.trans ((mi.out.mono ch.out.size).trans (grown_belowB b9 (Zh ch.out.size mi.out.size) (by omega))))
    have li:c8.ownsRow (w1.heap.size+3) 21 1 vi (Ud.innM T Mr).length (Ud.ints (Ud.innM T Mr)):=jt.out.own _ _ aj.out.i
    have l9:c8.ownsRow (w1.heap.size+3) 21 1 vs (Ud.secM T X Mr).length (Ud.ints (Ud.secM T X Mr)):=jt.out.own _ _ aj.out.s
    have nj:c8.ownsRow (w1.heap.size+3) 21 1 vm (Ud.mpdM Mr).length (Ud.ints (Ud.mpdM Mr)):=jt.out.own _ _ aj.out.m
    obtain⟨Ai,ci,rfl⟩:=own_form li
    obtain⟨As,cs,rfl⟩:=own_form l9
    obtain⟨Am,cm,rfl⟩:=own_form nj
    have nl:=Ud.inn_len (T:=T) Ud.full_le Mr
    have nt:(Ud.secM T X Mr).length≤10000:=by unfold Ud.secM Ud.prsM;rw[List.length_map];exact Nat.le_trans (List.length_filter_le _ _) s4
    have Ea:(Ud.mpdM Mr).length≤10000:=by unfold Ud.mpdM;rw[List.length_map];exact s4
    have Da:=Za fun W (hW:Below c8.heap.size c8 W)=>C.chars_any Ai (Ud.innM T Mr).length ci W.heap.size (Ud.innM T Mr) W rfl (by omega) (Zb _) ((Sl.of_own li).below hW hW.size)
    have Dp:=Za fun W (hW:Below c8.heap.size c8 W)=>C.chars_any As (Ud.secM T X Mr).length cs W.heap.size (Ud.secM T X Mr) W rfl (by omega) (Zb _) ((Sl.of_own l9).below hW hW.size)
    have Cz:=Za fun W (hW:Below c8.heap.size c8 W)=>C.chars_any Am (Ud.mpdM Mr).length cm W.heap.size (Ud.mpdM Mr) W rfl (by omega) (Zb _) ((Sl.of_own nj).below hW hW.size)
    clear j1
    go_upto_region 25 with (fail)
    rw[x9.out]
    clear b9 l7 u0 u1 u2 u3 u4 li l9 nj Br A1 qq qc HD HM HJ HF
    go_wp2_with fail
    refine (Da.out c8 (Zd _ _)).mono ?_
    rintro e C5 ⟨A4,c4,rfl,zz,sa⟩
    have B3:=Za zz
    have fq:=Za sa
    clear zz sa
    go_wp2_with fail
    refine (Dp.out C5 fq.out).mono ?_
    rintro e w32 ⟨A5,c5,rfl,B1,mz⟩
    have Ah:=Za B1
    have p6:=Za mz
    have fj:=Za (fq.out.trans (mz.mono fq.out.size))
    clear B1 mz
    go_wp2_with fail
    refine (Cz.out w32 fj.out).mono ?_
    rintro e tu ⟨A6,c6,rfl,zb,lu⟩
    have Ay:=Za zb
    have j3:=Za lu
    have bx:=Za (fj.out.trans (lu.mono fj.out.size))
    clear zb lu
    have cg:=yc.out.below bx.out
    have q7:=cg.cell 7 rfl
    have q8:=cg.cell 8 rfl
    have q9:=cg.cell 9 rfl
    have f7:=cg.frozen 7
    have f8:=cg.frozen 8
    have f9:=cg.frozen 9
    have ql:=cg.lt
    obtain⟨ij,ji⟩:∃ij,((tu.setCell ⟨w1.heap.size+1+1,7,none⟩ (.slice A4 (C.chars (Ud.innM T Mr)).length c4)).setCell ⟨w1.heap.size+1+1,8,none⟩ (.slice A5 (C.chars (Ud.secM T X Mr)).length c5)).setCell ⟨w1.heap.size+1+1,9,none⟩ (.slice A6 (C.chars (Ud.mpdM Mr)).length c6)=ij:=⟨_,rfl⟩
    have xx:=Za ji
    have sf:tu.grownBy ij (some (w1.heap.size+1+1)):=by rw[←ji];exact Rw.grown_trans (Rw.grown_trans (Rw.grown_set _ _ _) (Rw.grown_set _ _ _)) (Rw.grown_set _ _ _)
    have xk:Hid (Rw.At ij (w1.heap.size+1+1) 135 [vT,.slice XA xn xc,.pointer (some ⟨gc,0,none⟩),.pointer (some ⟨gp,0,none⟩),ve,.map (some w1.heap.size),.map (some (w1.heap.size+1)),.slice A4 (C.chars (Ud.innM T Mr)).length c4,.slice A5 (C.chars (Ud.secM T X Mr)).length c5,.slice A6 (C.chars (Ud.mpdM Mr)).length c6]):=Za (by rw[←ji];exact ((cg.set 7 _).set 8 _).set 9 _)
    have b7:=Za sf
    clear ji sf
    go_upto_region 26 with (fail)
    rw[xx.out]
    clear q7 q8 q9 f7 f8 f9 ql cg
    go_wp2_with fail
    go_ret2
    refine⟨.pointer (some ⟨w1.heap.size+1+1,0,none⟩),rfl,⟨?_⟩,?_⟩
    · have hk:=xr.out
      have hm:=tj.out
      subst hk;subst hm
      have eh:=(jt.out.below bx.out).other b7.out (by omega)
      have r3:ij.ownsRow (w1.heap.size+3) 113 3 vT (Ud.keep T).length (Rw.fl (Ud.keep T) ads):=eh.own _ _ aj.out.t
      have qj:ij.ownsRow (w1.heap.size+3) 79 3 ve (Ud.mr T).length (Ud.flE T X (Ud.mr T) es):=eh.own _ _ aj.out.e
      obtain⟨A0,c0,rfl⟩:=own_form r3
      obtain⟨A3,c3,rfl⟩:=own_form qj
      have hX:=Aa.out
      subst hX
      have e1:Ud.inn T T=Ud.innM T (Ud.mr T):=rfl
      have e2:Ud.sec T (C.mem S) T=Ud.secM T (C.mem S) (Ud.mr T):=rfl
      have e3:Ud.mpd T=Ud.mpdM (Ud.mr T):=rfl
      have e4:Ud.cl T=Ud.clK (Ud.keep T):=rfl
      have e5:Ud.pl T=Ud.plG 0 (Ud.mr T):=rfl
      have e6:∀q,Ud.beg T T q=Ud.begM T (Ud.mr T) q:=fun _=>rfl
      have e7:∀q q',Ud.joi T (C.mem S) T q q'=Ud.joiM T (C.mem S) (Ud.mr T) q q':=fun _ _=>rfl
      have uq:Below (w1.heap.size) tu ij:=grown_belowB b7.out (Zh (Zh ch.out.size ct) bx.out.size) (by omega)
      have ph:Below w1.heap.size w1 ij:=jc.out.trans ((bx.out.mono jc.out.size).trans uq)
      refine⟨w1.heap.size+1+1,A0,c0,XA,xc,Value.pointer (some ⟨gc,0,none⟩),Value.pointer (some ⟨gp,0,none⟩),A3,c3,w1.heap.size,w1.heap.size+1,A4,c4,A5,c5,A6,c6,es,rfl,?_,?_,?_,?_,?_,?_,?_,?_,?_,?_,?_⟩
      · rw[Dm.out,e1,e2,e3];exact xk.out
      · exact⟨ads,aj.out.la,Sl.of_own r3,fun i r a h1 h2=>Sl.of_own (eh.own _ _ (aj.out.rm i r a h1 h2))⟩
      · exact (zy.out.below ph ph.size)
      · rw[e4];exact (Pg.IsL.grown (Pg.IsL.below pu.out bx.out) b7.out sy).is
      · rw[e5];exact (Pg.IsL.grown (Pg.IsL.below p2.out bx.out) b7.out (Zf sy ft.out.size)).is
      · exact⟨aj.out.le,Sl.of_own qj,fun i r a h1 h2=>⟨Sl.of_own (eh.own _ _ (aj.out.em i r a h1 h2).1),Sl.of_own (eh.own _ _ (aj.out.em i r a h1 h2).2)⟩⟩
      · refine⟨G,(yp.out.below bx.out).grown b7.out (by simp only[X3,Zi];omega),fun q=>?_⟩
        rw[e6 q]
        rcases ja.out q with h|⟨v,h1,h2⟩
        · exact .inl h
        · have ho:ij.ownsRow (w1.heap.size+3) 21 1 v (Ud.begM T (Ud.mr T) q).length (Ud.ints (Ud.begM T (Ud.mr T) q)):=eh.own _ _ h2
          obtain⟨Aq,cq,rfl⟩:=own_form ho
          exact .inr ⟨Aq,cq,h1,Sl.of_own ho⟩
      · exact⟨J,(ye.out.below bx.out).grown b7.out (by simp only[X3,Zi];omega),fun q q'=>by rw[e7];exact ef.out q q'⟩
      · rw[e1];exact Sl.of_own ((own_mono (own_below (own_below B3.out p6.out (Zb _)) j3.out (Zb _)) (Zh bi ct)).kept b7.out (.inr fun e=>by have:=(own_at B3.out e).1;omega))
      · rw[e2];exact Sl.of_own ((own_mono (own_below Ah.out j3.out (Zb _)) (Zh bi (Zh ct fq.out.size))).kept b7.out (.inr fun e=>by have:=(own_at Ah.out e).1;have:=fq.out.size;omega))
      · rw[e3];exact Sl.of_own ((own_mono Ay.out (Zh bi (Zh ct fj.out.size))).kept b7.out (.inr fun e=>by have:=(own_at Ay.out e).1;have:=fj.out.size;omega))
    · have uq:Below (w1.heap.size) tu ij:=grown_belowB b7.out (Zh (Zh ch.out.size ct) bx.out.size) (by omega)
      exact B6.out.trans ((jc.out.trans ((bx.out.mono jc.out.size).trans uq)).mono B6.out.size)
end Go.Proofs.YtikiplbhlohmdaaGreatDoor
