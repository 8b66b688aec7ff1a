/- ucd.Of, by walking its text. -/
import Derived.Test.YtbeakahjbkdeiaaGreatDoorAl1
import Derived.Test.YtbeakahjbkdeiaaGreatDoorSoWalkA
import Derived.Test.YtbeakahjbkdeiaaGreatDoorPgReg
import Derived.Test.YtbeakahjbkdeiaaGreatDoorPgRaw
import Derived.Test.YtbeakahjbkdeiaaGreatDoorMdExp
import Derived.Test.YtbeakahjbkdeiaaGreatDoorFaCh
import Derived.Test.YtbeakahjbkdeiaaGreatDoorPgNew
import Derived.Test.YtbeakahjbkdeiaaGreatDoorMdOwn
import Derived.Great.BuildSlice
import Derived.Deep.DeepCutAuto
set_option linter.unusedVariables false
set_option linter.unusedSimpArgs false
namespace Go.Proofs.YtbeakahjbkdeiaaGreatDoor
open Go.RowKit
set_option linter.unusedSimpArgs false
set_option linter.unusedVariables false
theorem Pg.IsL.below {lo:Nat} {w w':World} {v:Value} {idx:List Int} {bl:List (List Int)} (h:Pg.IsL lo w v idx bl) (hb:Below w.heap.size w w'):Pg.IsL lo w' v idx bl:=by
 obtain⟨g,A,c,h1,h0,h2,h3,h4⟩:=h
 exact⟨g,A,c,h1,h0,h2.below hb,h3.below hb hb.size,h4⟩
set_option maxRecDepth 100000 in
theorem Ud.says_any (c k:Int) (A:Option Addr) (n cap:Nat) (w:World) :
 Calls Tryz.prog 119 #[.agg #[.int .i32 c,.int .i64 k,.slice A n cap]] w fun e w'=>e=.returned (.bool (decide (0<k)||decide (0<n)))∧Below w.heap.size w w':=by
 have af:Below w.heap.size w (w.alloc (.cells #[.int .i32 c,.int .i64 k,.slice A n cap] 103)):=(Zd _ _).alloc (Zb _) _
 have ah:=Rw.At.new w 103 [.int .i32 c,.int .i64 k,.slice A n cap]
 obtain⟨wa,ae⟩:∃wa,w.alloc (.cells #[.int .i32 c,.int .i64 k,.slice A n cap] 103)=wa:=⟨_,rfl⟩
 have aa:Rw.At wa w.heap.size 103 [.int .i32 c,.int .i64 k,.slice A n cap]:=by rw[←ae];exact ah
 rw[ae]at af
 have aj:=Za ae
 have ag:=Za af
 have z1:=aa.cell 1 rfl
 have z2:=aa.cell 2 rfl
 have hl:=aa.lt
 clear af ah aa ae
 go_enter Tryz.func119,Tryz.ntmps119
 go_upto_region 1 with (fail)
 rw[aj.out]
 by_cases hk:0<k
 · go_wp2_with fail
   go_ret
   exact⟨by simp[hk],ag.out⟩
 · by_cases hn:0<n
   · have ai:(0:Int)<n:=by omega
     go_wp2_with fail
     go_ret
     exact⟨by simp[hn],ag.out⟩
   · have ai:¬(0:Int)<n:=by omega
     go_wp2_with fail
     go_ret
     exact⟨by simp[hk,hn],ag.out⟩
theorem infoEntry:(Tryz.prog.info? 81).map (fun i=>(i.zero,i.size,i.bytes))=some (some (.agg #[.slice none 0 0,.slice none 0 0,.bool false]),3,56):=by kernel_rfl
theorem Ud.Inv.below {T:List Rw.Row} {X:Int→Bool} {K M:List Rw.Row} {w w':World} {base D mb jb:Nat} {XA:Option Addr} {xn xc:Nat} {vc vp vi vs vm:Value} (h:Ud.Inv T X K M w base D mb jb XA xn xc vc vp vi vs vm) (hb:Below w.heap.size w w'):Ud.Inv T X K M w' base D mb jb XA xn xc vc vp vi vs vm:=by
 obtain⟨f,vT,ve,ads,es,G,J,h1,h2,h3,h4,h5,h6,h7,h8⟩:=h
 exact⟨f,vT,ve,ads,es,G,J,h1.below hb,h2.below hb,h3.below hb,h4.below hb,Zh h5 hb.size,h6,h7,h8⟩
theorem Ud.build_data (mb jb:Nat) (w:World):(Instr.build 128 #[(4,Value.map (some mb)),(5,Value.map (some jb))]).run Tryz.prog w=.ok (.agg (Ud.cells (.slice none 0 0) none 0 0 (.slice none 0 0) mb jb).toArray) w:=by kernel_rfl
def Ud.RetOf (T:List Rw.Row) (S:List Int) (w:World) (e:Ending) (w':World):Prop:=∃p,e=.returned (.tuple #[p,.nilIface])∧Ud.Is w' p T S∧Below w.heap.size w w'
set_option maxRecDepth 100000 in
set_option maxHeartbeats 4000000 in
theorem Ud.of_any (v:Value) (T:List Rw.Row) (S:List Int) (w:World) (q0:Md.Is w v T S) (ok:Ud.Ok T S) (hbd:Md.bd T) :
 Calls Tryz.prog 78 #[v] w (Ud.RetOf T S w):=by
 obtain⟨i0,yz,Cn,C5,Dt⟩:=Yf infoRow
 have fm:=ok.good
 have ki:=ok.rises
 have xt:∀r∈T,r.2.2.length≤2:=fun r hr=>(fm r hr).2.2.2.1
 have ue:Md.Ok T:=⟨Zh ok.len (by decide),ki,hbd,fun r hr=>Zh (xt r hr) (by decide)⟩
 have qz:∀v W,Md.Is W v T S→Calls Tryz.prog 118 #[v] W fun e w'=>e=.returned .nilIface∧Below W.heap.size W w':=fun v W h=>by
  refine (Md.check_any v T S W ue.1 hbd ue.2.2.2 h ok.srt ok.slen).mono ?_
  rintro e w' ⟨q,v,rfl,hq,C2,hb⟩
  rw[ok.chk]at hq
  obtain rfl:q=[]:=by
   cases q with
   | nil=>rfl
   | cons x l=>simp[F.lk,Md.err]at hq
  obtain rfl:v=.nilIface:=C2
  exact⟨rfl,hb⟩
 have ur:=q0
 obtain⟨A,c,XA,xc,rfl,p7,hX⟩:=ur
 obtain⟨n,hn⟩:∃k,T.length=k:=⟨_,rfl⟩
 obtain⟨xn,hxn⟩:∃k,S.length=k:=⟨_,rfl⟩
 obtain⟨X,zb⟩:∃X,C.mem S=X:=⟨_,rfl⟩
 rw[hn,hxn]at q0 ⊢
 unfold Md.tv at q0 ⊢
 have A9:n≤10000:=by rw[←hn];exact ok.len
 obtain⟨wa,sy⟩:∃wa,w.alloc (.cells #[.slice A n c,.slice XA xn xc] 120)=wa:=⟨_,rfl⟩
 have nz:Below w.heap.size w wa:=by rw[←sy];exact (Zd _ _).alloc (Zb _) _
 have rr:Rw.At wa w.heap.size 120 [.slice A n c,.slice XA xn xc]:=by rw[←sy];exact Rw.At.new w 120 [.slice A n c,.slice XA xn xc]
 have yw:=Za sy
 have xg:=Za nz
 have Bo:=Za rr
 have yb:=Za (q0.below nz)
 have ph:=Za (p7.below nz)
 have HX:=Za (hX.below nz nz.size)
 have py:=Za qz
 have zo:=Za ue
 have iw:=Za ok
 have HN:=Za hn
 have C1:=Za hxn
 have B9:=Za zb
 have ud:=Za hbd
 have C9:=Za xt
 have j8:=Za fm
 have vo:=rr.lt
 have z0:=rr.cell 0 rfl
 have z1:=rr.cell 1 rfl
 have D9:=@run_makeMap Tryz.prog
 have D8:=Ud.build_data
 clear sy nz rr q0 p7 hX qz ue ok hn hxn zb hbd xt fm ki
 go_enter Tryz.func78,Tryz.ntmps78
 go_upto_region 1 with (fail)
 rw[yw.out]
 go_wp2_with fail
 refine (py.out _ wa yb.out).mono ?_
 rintro e w1 ⟨rfl,l3⟩
 have dn:=Za (Bo.out.below l3)
 have lg:=Za (yb.out.below l3)
 have kp:=Za (ph.out.below l3)
 have Aj:=Za (HX.out.below l3 l3.size)
 have Br:=Za (xg.out.trans (l3.mono xg.out.size))
 clear l3 z0 z1 vo yb Bo ph HX xg yw py
 have z0:=dn.out.cell 0 rfl
 have z1:=dn.out.cell 1 rfl
 have uo:=dn.out.lt
 obtain⟨w2,im⟩:∃w2,((w1.alloc (.map #[] 0)).alloc (.map #[] 0)).alloc (.cells (Ud.cells (.slice none 0 0) none 0 0 (.slice none 0 0) w1.heap.size (w1.heap.size+1)).toArray 128)=w2:=⟨_,rfl⟩
 have mi:Below w1.heap.size w1 w2:=by
  rw[←im]
  exact (((Zd _ _).alloc (Zb _) _).alloc (by simp) _).alloc (by simp;omega) _
 have si:Rw.At w2 (w1.heap.size+1+1) 128 (Ud.cells (.slice none 0 0) none 0 0 (.slice none 0 0) w1.heap.size (w1.heap.size+1)):=by
  rw[←im]
  have:=Rw.At.new ((w1.alloc (.map #[] 0)).alloc (.map #[] 0)) 128 (Ud.cells (.slice none 0 0) none 0 0 (.slice none 0 0) w1.heap.size (w1.heap.size+1))
  simpa using this
 have ew:Mp.Is Tryz.prog 21 w2 w1.heap.size fun _=>none:=by
  rw[←im]
  exact ((Mp.Is.made w1 Tryz.prog 21).below ((Zd _ _).alloc (Zb _) _)).below ((Zd _ _).alloc (Zb _) _)
 have za:Mp.Is Tryz.prog 180 w2 (w1.heap.size+1) fun _=>none:=by
  rw[←im]
  have:=(Mp.Is.made (w1.alloc (.map #[] 0)) Tryz.prog 180).below ((Zd _ _).alloc (Zb _) (.cells (Ud.cells (.slice none 0 0) none 0 0 (.slice none 0 0) w1.heap.size (w1.heap.size+1)).toArray 128))
  simpa using this
 have Bj:w2.heap.size=w1.heap.size+3:=by rw[←im];simp
 have gh:=Za (dn.out.below mi)
 have Dr:=Za (lg.out.below mi)
 have Ak:=Za (kp.out.below mi)
 have D1:=Za (Aj.out.below mi mi.size)
 have zx:=Za mi
 have Ce:=Za im
 have qe:=Za si
 have Bm:=Za ew
 have B2:=Za za
 have Dh:=Za Bj
 go_upto_region 5 with (fail)
 unfold Ud.cells at im
 rw[im]
 have k0:=gh.out.cell 0 rfl
 have k1:=gh.out.cell 1 rfl
 have k2:=gh.out.lt
 have d0:=qe.out.cell 1 rfl
 have d1:=qe.out.frozen 1
 have d2:=qe.out.lt
 clear im mi si ew za Bj z0 z1 uo
 obtain⟨w3,ug⟩:∃w3,w2.setCell ⟨w1.heap.size+1+1,1,none⟩ (.slice XA xn xc)=w3:=⟨_,rfl⟩
 have By:w2.grownBy w3 (some (w1.heap.size+1+1)):=by rw[←ug];exact Rw.grown_set _ _ _
 have Bp:Rw.At w3 (w1.heap.size+1+1) 128 (Ud.cells (.slice none 0 0) XA xn xc (.slice none 0 0) w1.heap.size (w1.heap.size+1)):=by rw[←ug];exact qe.out.set 1 _
 have B0:=Za ug
 have oh:=Za By
 have Bq:=Za Bp
 clear ug By Bp
 go_upto_region 6 with (fail)
 rw[B0.out]
 have ap:Below w1.heap.size w1 w3:=zx.out.trans (Below.grown (Zd _ _) oh.out zx.out.size (by intro k hk;simp only[Zg]at hk;omega))
 obtain⟨f0,wg⟩:∃f:Ud.Ix→Option Fam.Row,f=Fam.set (Fam.set (Fam.set (Fam.set (Fam.set (Fam.set (Fam.set (fun _=>none) (0,0) ⟨103,3,.slice none 0 0,0,[]⟩) (0,1) ⟨178,2,.slice none 0 0,0,[]⟩) (0,2) ⟨178,2,.slice none 0 0,0,[]⟩) (0,3) ⟨81,3,.slice none 0 0,0,[]⟩) (0,4) (Ud.rowV (.slice none 0 0) [])) (0,5) (Ud.rowV (.slice none 0 0) [])) (0,6) (Ud.rowV (.slice none 0 0) []):=⟨_,rfl⟩
 have j9:Fam w3 (w1.heap.size+3) f0:=by
  rw[wg]
  have ie:∀g,(Value.slice none 0 0).ownBlock=some g→w3.heap.size≤g:=fun g hg=>by simp[Value.ownBlock]at hg
  exact (((((((Fam.mk' w3 _).new (Zd _ _) _ (ZG _ _ _ _) ie).new (Zd _ _) _ (ZG _ _ _ _) ie).new (Zd _ _) _ (ZG _ _ _ _) ie).new (Zd _ _) _ (ZG _ _ _ _) ie).new (Zd _ _) _ (ZG _ _ _ _) ie).new (Zd _ _) _ (ZG _ _ _ _) ie).new (Zd _ _) _ (ZG _ _ _ _) ie
 have o3:Ud.Inv T X [] [] w3 (w1.heap.size+3) (w1.heap.size+1+1) w1.heap.size (w1.heap.size+1) XA xn xc (.slice none 0 0) (.slice none 0 0) (.slice none 0 0) (.slice none 0 0) (.slice none 0 0):=by
  refine⟨f0,.slice none 0 0,.slice none 0 0,[],[],fun _=>none,fun _=>none,j9,Bq.out,Bm.out.grown oh.out (by simp;omega),B2.out.grown oh.out (by simp),by rw[←Dh.out];exact oh.out.size,?_,fun c=>.inl ⟨rfl,rfl⟩,fun a c=>rfl⟩
  rw[wg]
  refine⟨rfl,rfl,by simp[Fam.set,Rw.fl],by simp[Fam.set,Pg.fl,Ud.clK],by simp[Fam.set,Pg.fl,Ud.plG],by simp[Fam.set,Ud.flE],by simp[Fam.set,Ud.innM],by simp[Fam.set,Ud.secM,Ud.prsM],by simp[Fam.set,Ud.mpdM],fun j r a hj=>by simp at hj,fun j r a hj=>by simp at hj⟩
 have xj:=Za o3
 have xe:=Za ap
 have my:=Za (gh.out.grown oh.out (by have:=dn.out.lt;simp only[XQ,Zg];omega))
 clear o3 j9 wg ap k0 k1 k2 d0 d1 d2 gh qe Bm B2 oh Bq B0 Ce
 have k0:=my.out.cell 0 rfl
 have k1:=my.out.cell 1 rfl
 have k2:=my.out.lt
 go_wp2_with fail
 go_loopw [6,7,8,9,10,33] (fun v6 v7 v8 v9 v10 i wr=>∃(j:Nat) (vc vp vi vs vm:Value),j≤n∧i=.int .i64 j∧v6=vc∧v7=vp∧v8=vi∧v9=vs∧v10=vm ∧
  Ud.Inv T X (Ud.keep (T.take j)) (Ud.mr (T.take j)) wr (w1.heap.size+3) (w1.heap.size+1+1) w1.heap.size (w1.heap.size+1) XA xn xc vc vp vi vs vm∧Below w1.heap.size w1 wr) (fun _ _ _ _ _ i _=>n-(intOf i).toNat)
 case atStart=>exact⟨0,_,_,_,_,_,Zz _,rfl,rfl,rfl,rfl,rfl,rfl,xj.out,xe.out⟩
 case round =>
  obtain⟨j,vc,vp,vi,vs,vm,hj,rfl,h6,h7,h8,h9,wk,hinv,bn⟩:=hrel
  replace h6:=h6.symm;replace h7:=h7.symm;replace h8:=h8.symm;replace h9:=h9.symm;replace wk:=wk.symm
  subst h6;subst h7;subst h8;subst h9;subst wk
  have du:=Za hinv
  have ch:=Za bn
  have mf:=dn.out.below bn
  have Dw:=Za mf
  clear hinv
  by_cases hlt:j<n
  · obtain⟨r,hr⟩:∃r,T[j]?=some r:=⟨_,Zc (by rw[HN.out];exact hlt)⟩
    have sg:=Zk hr
    have z7:=ud.out r sg
    have Dx:=C9.out r sg
    have Bf:=j8.out r sg
    have zd:T.take (j+1)=T.take j++[r]:=by rw[Zr,hr];rfl
    obtain⟨b,o,a,C3,hb,y7,Bb,zw,Bz⟩:=kp.out.row hr
    have c0:=((bcell bn).1 b (o+j*3) hb).trans y7
    have c1:=((bcell bn).1 b (o+j*3+1) hb).trans Bb
    have c2:=((bcell bn).1 b (o+j*3+2) hb).trans zw
    have D5:b<wr.heap.size:=Ze hb bn.size
    obtain⟨ml,kt⟩:∃k,r.2.2.length=k:=⟨_,rfl⟩
    rw[kt]at c2 Dx
    have jI:(j:Int)<n:=by omega
    have Dz:(0:Int)≤j:=by omega
    obtain⟨wb,th⟩:∃wb,wr.alloc (.cells #[.int .i32 r.1,.int .i64 r.2.1,.slice a.1 ml a.2] 103)=wb:=⟨_,rfl⟩
    have xr:Below wr.heap.size wr wb:=by rw[←th];exact (Zd _ _).alloc (Zb _) _
    have r6:Rw.At wb wr.heap.size 103 [.int .i32 r.1,.int .i64 r.2.1,.slice a.1 ml a.2]:=by rw[←th];exact Rw.At.new wr 103 [.int .i32 r.1,.int .i64 r.2.1,.slice a.1 ml a.2]
    have zz:=Za th
    have wj:=Za xr
    have eb:=Za r6
    have pj:=Za ((Bz.below bn (Zb _)).below (xr.mono bn.size) (Zb _))
    have bk:=Za kt
    have ui:=Za zd
    have Dy:=Za sg
    have lr:=Za z7
    have xi:=Za Bf
    have HR:=Za hr
    subst C3
    clear y7 Bb zw Bz hr sg kt th xr r6 zd z7 Bf mf k0 k1 k2
    go_upto_region 11 with (fail)
    rw[zz.out]
    have b0:=eb.out.cell 0 rfl
    have b1:=eb.out.cell 1 rfl
    have b2:=eb.out.cell 2 rfl
    have b3:=eb.out.lt
    clear c0 c1 c2
    go_wp2_with fail
    refine (Ud.says_any r.1 r.2.1 a.1 ml a.2 wb).mono ?_
    rintro e w4 ⟨rfl,qd⟩
    have j5:=Za (wj.out.trans (qd.mono wj.out.size))
    have rz:=Za qd
    have ed:=Za (eb.out.below qd)
    have na:=Za (pj.out.below (qd.mono (Zh bn.size wj.out.size)) (Zb _))
    clear qd b0 b1 b2 b3 bn
    rcases hsay:(decide (0<r.2.1)||decide (0<ml)) with _|_
    · have ie:Ud.says r=false:=by unfold Ud.says;rw[bk.out];exact hsay
      obtain⟨q1,q2⟩:=Ud.add_none (T:=T) (X:=X) ie (R:=T.take j)
      have a1:Ud.Inv T X (Ud.keep (T.take (j+1))) (Ud.mr (T.take (j+1))) w4 (w1.heap.size+3) (w1.heap.size+1+1) w1.heap.size (w1.heap.size+1) XA xn xc vc vp vi vs vm:=by
       rw[ui.out,q1,q2]
       exact du.out.below j5.out
      have ks:=Za a1
      have Do:=Za (ch.out.trans (j5.out.mono ch.out.size))
      clear a1 ie q1 q2
      go_wp2_with fail
      exact⟨⟨j+1,_,_,_,_,_,by omega,by go_num,rfl,rfl,rfl,rfl,rfl,ks.out,Do.out⟩,by simp[intOf];omega⟩
    · have qb:Ud.says r=true:=by unfold Ud.says;rw[bk.out];exact hsay
      obtain⟨f,vT,ve,ads,es,G,J,hF,hD,hM,hJ,bi,ax,cw,cu⟩:=du.out
      obtain⟨Kr,ik⟩:∃K,Ud.keep (T.take j)=K:=⟨_,rfl⟩
      obtain⟨Mr,pq⟩:∃M,Ud.mr (T.take j)=M:=⟨_,rfl⟩
      have Bc:Kr.length≤10000:=by rw[←ik];unfold Ud.keep;exact Nat.le_trans (List.length_filter_le _ _) (by rw[List.length_take];omega)
      have tu:Mr.length≤10000:=by rw[←pq];unfold Ud.mr;exact Nat.le_trans (List.length_filter_le _ _) (by rw[List.length_take];omega)
      rw[ik,pq]at ax
      rw[pq]at cw cu
      have qm:wr.ownsRow (w1.heap.size+3) 103 3 vT Kr.length (Rw.fl Kr ads):=hF.own _ _ ax.t
      obtain⟨AT,cT,rfl⟩:=own_form qm
      have od:wr.ownsRow (w1.heap.size+3) 178 2 vc Kr.length (Pg.fl (Ud.clK Kr)):=hF.own _ _ ax.c
      obtain⟨Ac,cc,rfl⟩:=own_form od
      clear qm od
      obtain⟨Kl,jb⟩:∃k,Kr.length=k:=⟨_,rfl⟩
      have C6:Kl≤10000:=by rw[←jb];exact Bc
      rw[jb]at hD ⊢
      have Db:w1.heap.size+3≤wr.heap.size:=bi
      obtain⟨k0,Aa,Ae,Bg,zg⟩:=Yf infoCell
      obtain⟨l0,Dp,Dn,Ds,Dg⟩:=Yf infoEntry
      obtain⟨p0,ol,nr,n5,nx⟩:=Yf infoRune
      have ek:IntKind.u16.wrap r.2.1=r.2.1:=by have h1:=xi.out.2.1;have h2:=xi.out.2.2.1;rw[IntKind.wrap_u16];omega
      obtain⟨f1,yn⟩:∃f1,f1=Fam.set f (9,0) ⟨103,3,.slice (some ⟨wr.heap.size,0,none⟩) 1 1,1,[.int .i32 r.1,.int .i64 r.2.1,.slice a.1 ml a.2]⟩:=⟨_,rfl⟩
      have zi:Fam w4 (w1.heap.size+3) f1:=by
       have:=(hF.box bi (9,0) [.int .i32 r.1,.int .i64 r.2.1,.slice a.1 ml a.2] 103 1 3 rfl (by decide))
       rw[zz.out,←yn]at this
       exact this.below rz.out
      have Ax:=hD.below j5.out
      have B6:=hM.below j5.out
      have zr:=hJ.below j5.out
      have dh:=Zh bi j5.out.size
      have zn:=Za zi
      have l8:=Za yn
      have tj:=Za Ax
      have z6:=Za B6
      have y8:=Za zr
      have ai:=Za ax
      have jq:=Za cw
      have ep:=Za cu
      have ym:=Za ik
      have zp:=Za pq
      have nl:=Za jb
      have u7:=Za qb
      have e1:=Stg.Keep.cells (s:=fun b=>b=wr.heap.size∨b=w1.heap.size+1+1) (w:=w4.drew) (tj.out.cell 0 rfl) (.inr rfl)
      have e2:=Stg.Keep.cells (s:=fun b=>b=wr.heap.size∨b=w1.heap.size+1+1) (w:=w4.drew) (ed.out.cell 0 rfl) (.inl rfl)
      have e3:=Stg.Keep.cells (s:=fun b=>b=wr.heap.size∨b=w1.heap.size+1+1) (w:=w4.drew) (ed.out.cell 1 rfl) (.inl rfl)
      have e4:=Stg.Keep.cells (s:=fun b=>b=wr.heap.size∨b=w1.heap.size+1+1) (w:=w4.drew) (ed.out.cell 2 rfl) (.inl rfl)
      clear hF hD hM hJ ax cw cu ik pq jb qb zi yn Ax B6 zr bi du
      go_wp2_with fail
      refine Stg.wp_region (Stg.Keep fun b=>b=wr.heap.size∨b=w1.heap.size+1+1) (Stg.Keep.rel _) (by kernel_rfl) (by kernel_rfl) (by kernel_rfl) ?_
      iterate 5 (refine Stg.readW (by kernel_rfl) (by kernel_rfl) (by kernel_rfl) ?_;intro K hK;go_big_quiet_op;go_big_quiet_on)
      refine Stg.read 0 (by kernel_rfl) (by kernel_rfl) (by kernel_rfl) w4.drew rfl (by kernel_rfl) ?_;intro K hK;go_big_quiet_op;go_big_quiet_on
      refine Stg.readW (by kernel_rfl) (by kernel_rfl) (by kernel_rfl) ?_;intro K hK;go_big_quiet_op;go_big_quiet_on
      refine Stg.read 0 (by kernel_rfl) (by kernel_rfl) (by kernel_rfl) w4.drew rfl (by kernel_rfl) ?_;intro K hK;go_big_quiet_op;go_big_quiet_on
      refine Stg.readW (by kernel_rfl) (by kernel_rfl) (by kernel_rfl) ?_;intro K hK;go_big_quiet_op;go_big_quiet_on
      refine Stg.read 0 (by kernel_rfl) (by kernel_rfl) (by kernel_rfl) w4.drew rfl (by kernel_rfl) ?_;intro K hK;go_big_quiet_op;go_big_quiet_on
      refine Stg.readW (by kernel_rfl) (by kernel_rfl) (by kernel_rfl) ?_;intro K hK;go_big_quiet_op;go_big_quiet_on
      refine Stg.read 0 (by kernel_rfl) (by kernel_rfl) (by kernel_rfl) w4.drew rfl (by kernel_rfl) ?_;intro K hK;go_big_quiet_op;go_big_quiet_on
      refine Stg.call 62 _ _ rfl (C.enter Tryz.func62 (by kernel_rfl) rfl) [.slice a.1 ml a.2] rfl w4.drew _ (R.clone_any a.1 ml a.2 w1.heap.size r.2.2 w4.drew bk.out (by omega) (Zh ch.out.size j5.out.size) (na.out.below (Zd _ _).drew (Zb _))) (by kernel_rfl) rfl (by kernel_rfl) ?_
      rintro e w5 ⟨A5,c5,rfl,cz,ss⟩
      refine⟨_,rfl,Stg.Keep.of_below ss (by rintro q (rfl|rfl);exact ed.out.lt;exact tj.out.lt),?_⟩
      intro A' aa;simp only[Act.put,Zq,ZC,ZA]at aa;subst aa
      obtain⟨f2,o6⟩:∃f2,f2=Fam.set f1 (2,(Kl:Int)) ⟨21,1,.slice A5 ml c5,ml,Ud.ints r.2.2⟩:=⟨_,rfl⟩
      have zq:Fam w5 (w1.heap.size+3) f2:=by rw[o6];exact (zn.out.below (Zd _ _).drew).new ss _ (own_mono cz dh) (fun g hg=>(own_at cz hg).1)
      have bw:Below w4.heap.size w4 w5:=(Zd _ _).drew.trans ss
      have ly:=ed.out.below bw
      have vk:=tj.out.below bw
      have fk:=Zh dh bw.size
      refine Stg.readW (by kernel_rfl) (by kernel_rfl) (by kernel_rfl) ?_;intro K hK;go_big_quiet_op;go_big_quiet_on
      refine Stg.stepW w5 (by kernel_rfl) (by kernel_rfl) rfl (by kernel_rfl) ?_;intro K hK;go_simp
      obtain⟨w6,su⟩:∃w6,w5.alloc (.cells #[.int .i32 r.1,.int .i64 r.2.1,.slice A5 ml c5] 103)=w6:=⟨_,rfl⟩
      have ic:Below w5.heap.size w5 w6:=by rw[←su];exact (Zd _ _).alloc (Zb _) _
      have o9:Sl w6 w6.heap.size (some ⟨w5.heap.size,0,none⟩) [.int .i32 r.1,.int .i64 r.2.1,.slice A5 ml c5]:=by rw[←su];exact (Rw.At.new w5 103 [.int .i32 r.1,.int .i64 r.2.1,.slice A5 ml c5]).slt.sl
      have oa:=zq.below ic
      have mb:=ly.below ic
      have yu:=vk.below ic
      have ba:=Zh fk ic.size
      rw[su]
      refine hK _ _ (Stg.Keep.of_below ic (by rintro q (rfl|rfl);exact ly.lt;exact vk.lt)) ?_
      intro A' aa;subst aa
      have eo:f2 (0,0)=some ⟨103,3,.slice AT Kl cT,Kl,Rw.fl Kr ads⟩:=by rw[o6,Fam.set_other _ _ (by intro e;cases e),l8.out,Fam.set_other _ _ (by intro e;cases e),ai.out.t,nl.out]
      have r3:f2 (9,0)=some ⟨103,3,.slice (some ⟨wr.heap.size,0,none⟩) 1 1,1,[.int .i32 r.1,.int .i64 r.2.1,.slice a.1 ml a.2]⟩:=by rw[o6,Fam.set_other _ _ (by intro e;cases e),l8.out,Fam.set_same]
      refine Stg.stepW w6 (by kernel_rfl) (by kernel_rfl) rfl (by kernel_rfl) ?_;intro K hK
      refine Fam.wp_append w6 _ _ _ rfl oa (0,0) _ eo i0 _ 40 Tryz.underlying33 yz Cn C5 Dt rfl (by show 0<3;decide) rfl w6.heap.size (some ⟨w5.heap.size,0,none⟩) 1 1 [.int .i32 r.1,.int .i64 r.2.1,.slice A5 ml c5] rfl rfl o9 (by simp[Value.oneCell']) (by simp only[maxLen];omega) (by simp only;omega) ba ?_
      intro v7 w7 xy ny nu
      have dy:=oa.ne (i:=(0,0)) (j:=(9,0)) (by intro e;cases e) eo r3 (b:=wr.heap.size) rfl
      have ag:=oa.low eo (b:=w1.heap.size+1+1) (by omega)
      have r0:=yu.grown nu ag
      refine hK _ _ (Stg.Keep.of_grown nu (by rintro q (rfl|rfl);exact⟨mb.lt,Z6 dy⟩;exact⟨yu.lt,Z6 ag⟩)) ?_
      have ko:w7.ownsRow (w1.heap.size+3) 103 3 v7 (Kl+1) (Rw.fl Kr ads++[.int .i32 r.1,.int .i64 r.2.1,.slice A5 ml c5]):=xy.own _ _ (Fam.set_same _ _ _)
      obtain⟨A7,c7,rfl⟩:=own_form ko
      intro A' aa;simp only[Act.put,Zq,ZC,ZA]at aa;subst aa
      iterate 3 (refine Stg.readW (by kernel_rfl) (by kernel_rfl) (by kernel_rfl) ?_;intro K hK;go_big_quiet_op;go_big_quiet_on)
      have u0:=r0.cell 0 rfl
      have u1:=r0.frozen 0
      have u2:=r0.lt
      refine Stg.last w7 (by kernel_rfl) (by kernel_rfl) (by kernel_rfl) rfl (by kernel_rfl) ?_;intro K hK;go_simp
      obtain⟨w8,sw⟩:∃w8,w7.setCell ⟨w1.heap.size+1+1,0,none⟩ (.slice A7 (Kl+1) c7)=w8:=⟨_,rfl⟩
      rw[sw]
      refine hK _ _ ?_
      intro A' aa;subst aa
      refine Stg.nil w8 rfl ?_
      have sk:=mb.grown nu dy
      have kc:w7.grownBy w8 (some (w1.heap.size+1+1)):=by rw[←sw];exact Rw.grown_set _ _ _
      have dz:Hid (Rw.At w8 wr.heap.size 103 [.int .i32 r.1,.int .i64 r.2.1,.slice a.1 ml a.2]):=Za (sk.grown kc (by simp only[XQ,Zg];omega))
      obtain⟨f3,yd⟩:∃f3,f3=Fam.set f2 (0,0) ⟨103,3,.slice A7 (Kl+1) c7,Kl+1,Rw.fl Kr ads++[.int .i32 r.1,.int .i64 r.2.1,.slice A5 ml c5]⟩:=⟨_,rfl⟩
      have r9:Hid (Fam w8 (w1.heap.size+3) f3):=Za (by rw[yd];exact xy.other kc (by omega))
      have Ag:Hid (Rw.At w8 (w1.heap.size+1+1) 128 (Ud.cells (.slice A7 (Kl+1) c7) XA xn xc ve w1.heap.size (w1.heap.size+1))):=Za (by rw[←sw];exact r0.set 0 _)
      have Bl:=Za ((((z6.out.below bw).below ic).grown nu (Z6 (oa.low eo (b:=w1.heap.size) (by omega)))).grown kc (by simp only[XQ,Zg];omega))
      have Bw:=Za ((((y8.out.below bw).below ic).grown nu (Z6 (oa.low eo (b:=w1.heap.size+1) (by omega)))).grown kc (by simp only[XQ,Zg];omega))
      have x6:w1.heap.size≤w4.heap.size:=by omega
      have Aw:Hid (Below w1.heap.size w1 w8):=Za (ch.out.trans ((j5.out.mono (by omega)).trans ((bw.mono x6).trans ((ic.mono (by have:=bw.size;omega)).trans ((ny.mono (by omega)).trans (Below.grown (Zd _ _) kc (by have:=ny.size;omega) (by intro k hk;simp only[Zg]at hk;omega)))))))
      have gv:w1.heap.size+3≤w8.heap.size:=Zh ba (Zh ny.size kc.size)
      have n9:=Za o6
      have ld:=Za yd
      have se:=Za (na.out.below ((bw.mono x6).trans ((ic.mono (by have:=bw.size;omega)).trans ((ny.mono (by omega)).trans (Below.grown (Zd _ _) kc (by have:=ny.size;omega) (by intro k hk;simp only[Zg]at hk;omega))))) (Zb _))
      clear sk kc xy r0 ny nu dy ag oa mb yu ic o9 su sw ly vk ss bw zq cz ko o6 yd eo r3 u0 u1 u2 ba fk dh x6 e1 e2 e3 e4 na ed tj z6 y8 zn rz eb pj
      have b0:=dz.out.cell 0 rfl
      have b1:=dz.out.cell 1 rfl
      have b2:=dz.out.cell 2 rfl
      have b3:=dz.out.lt
      have iz:f3 (0,1)=some ⟨178,2,.slice Ac Kl cc,Kl,Pg.fl (Ud.clK Kr)⟩:=by rw[ld.out,Fam.set_other _ _ (by intro e;cases e),n9.out,Fam.set_other _ _ (by intro e;cases e),l8.out,Fam.set_other _ _ (by intro e;cases e),ai.out.c,nl.out]
      obtain⟨w9,tr⟩:∃w9,w8.alloc (.cells #[.int .i32 r.1,.int .u16 r.2.1] 178)=w9:=⟨_,rfl⟩
      have ub:Below w8.heap.size w8 w9:=by rw[←tr];exact (Zd _ _).alloc (Zb _) _
      have ot:Sl w9 w9.heap.size (some ⟨w8.heap.size,0,none⟩) [.int .i32 r.1,.int .u16 r.2.1]:=by rw[←tr];exact (Rw.At.new w8 178 [.int .i32 r.1,.int .u16 r.2.1]).slt.sl
      have ey:=Za (r9.out.below ub)
      have af:=Zh gv ub.size
      have zy:=Za tr
      have ij:=Za ub
      have o2:=Za ot
      clear tr ub ot
      go_upto_region 14 with (first|(at_builtin;rw[zy.out];refine Fam.wpList_append w9 rfl _ _ _ rfl ey.out (0,1) _ iz k0 _ 8 Tryz.underlying175 Aa Ae Bg zg rfl (by show 0<2;decide) rfl w9.heap.size (some ⟨w8.heap.size,0,none⟩) 1 1 [.int .i32 r.1,.int .u16 r.2.1] rfl rfl o2.out (by simp[Value.oneCell']) (by simp only[maxLen];omega) (by simp only;omega) af ?_;intro v10 ao mq jf gj)|fail)
      have l4:f3 (9,0)=some ⟨103,3,.slice (some ⟨wr.heap.size,0,none⟩) 1 1,1,[.int .i32 r.1,.int .i64 r.2.1,.slice a.1 ml a.2]⟩:=by rw[ld.out,Fam.set_other _ _ (by intro e;cases e),n9.out,Fam.set_other _ _ (by intro e;cases e),l8.out,Fam.set_same]
      have dy:=ey.out.ne (i:=(0,1)) (j:=(9,0)) (by intro e;cases e) iz l4 (b:=wr.heap.size) rfl
      have ag:=fun b (hb:b<w1.heap.size+3)=>ey.out.low iz (b:=b) hb
      have cn:=Za ((dz.out.below ij.out).grown gj dy)
      have sq:=Za ((Ag.out.below ij.out).grown gj (ag _ (by omega)))
      have pz:=Za ((Bl.out.below ij.out).grown gj (Z6 (ag _ (by omega))))
      have rp:=Za ((Bw.out.below ij.out).grown gj (Z6 (ag _ (by omega))))
      have gl:ao.ownsRow (w1.heap.size+3) 178 2 v10 (Kl+1) (Pg.fl (Ud.clK Kr)++[.int .i32 r.1,.int .u16 r.2.1]):=mq.own _ _ (Fam.set_same _ _ _)
      have ay:Hid (Below w1.heap.size w1 ao):=Za (Aw.out.trans ((ij.out.mono (by omega)).trans (jf.mono (by omega))))
      have kg:=Za (se.out.below ((ij.out.mono (by omega)).trans (jf.mono (by omega))) (Zb _))
      have ah:=Zh af jf.size
      obtain⟨n8,nw,rfl⟩:=own_form gl
      obtain⟨f4,kf⟩:∃f4,f4=Fam.set f3 (0,1) ⟨178,2,.slice n8 (Kl+1) nw,Kl+1,Pg.fl (Ud.clK Kr)++[.int .i32 r.1,.int .u16 r.2.1]⟩:=⟨_,rfl⟩
      have qh:Hid (Fam ao (w1.heap.size+3) f4):=Za (by rw[kf];exact mq)
      have j7:Ud.keep (T.take (j+1))=Kr++[r]:=by rw[ui.out,Ud.add_keep u7.out,ym.out]
      have dx:=Za j7
      have fo:Ud.Rows T X (Kr++[r]) Mr f4 (.slice A7 (Kl+1) c7) (.slice n8 (Kl+1) nw) vp ve vi vs vm (ads++[(A5,c5)]) es:=by
       refine ai.out.addK ?_ ?_ ?_ fun ix hx h0 h1 h2=>?_
       · rw[kf,Fam.set_other _ _ (by intro e;cases e),ld.out,Fam.set_same,nl.out,bk.out]
       · rw[kf,Fam.set_same,nl.out]
       · rw[kf,Fam.set_other _ _ (by intro e;cases e),ld.out,Fam.set_other _ _ (by intro e;cases e),nl.out,n9.out,Fam.set_same]
         unfold Ud.rowOf
         rw[bk.out]
       · rw[nl.out]at h2
         rw[kf,Fam.set_other _ _ h1,ld.out,Fam.set_other _ _ h0,n9.out,Fam.set_other _ _ h2,l8.out,Fam.set_other _ _ (by intro e;rw[e]at hx;exact absurd hx (by decide))]
      have kb:Ud.BegI T Mr f4 G:=jq.out.keep fun c=>by
       rw[kf,Fam.set_other _ _ (by intro e;cases e),ld.out,Fam.set_other _ _ (by intro e;cases e),n9.out,Fam.set_other _ _ (by intro e;cases e),l8.out,Fam.set_other _ _ (by intro e;cases e)]
      have qk:f4 (9,0)=some ⟨103,3,.slice (some ⟨wr.heap.size,0,none⟩) 1 1,1,[.int .i32 r.1,.int .i64 r.2.1,.slice a.1 ml a.2]⟩:=by rw[kf,Fam.set_other _ _ (by intro e;cases e),l4]
      have ar:=Za fo
      have cv:=Za kb
      have rh:=Za qk
      clear mq jf gj dy ag gl kf fo kb j7 b0 b1 b2 b3 iz l4 qk af gv ey zy ij o2 r9 dz Ag Bl Bw Aw l8 n9 ld se ai jq
      have b2:=cn.out.cell 2 rfl
      have b3:=cn.out.lt
      rcases hz:((ml:Int) == 0) with _|_
      · have vu:0<ml:=by
         rcases YC ml with h|h
         · rw[h]at hz;cases hz
         · exact h
        obtain⟨Ml,lz⟩:∃k,Mr.length=k:=⟨_,rfl⟩
        have p2:Ml≤10000:=by rw[←lz];exact tu
        have bj:=Za lz
        obtain⟨lf,qs⟩:=Md.full_some iw.out.chk r.1
        obtain⟨Co,uj,wt,_⟩:=Md.full_none qs
        have Be:=Md.full_bd ud.out lr.out.1 qs
        have zm:Ud.full T r.1=lf:=by unfold Ud.full;rw[qs];rfl
        obtain⟨pr,yh⟩:∃q,Md.prim T X r.1=q:=⟨_,rfl⟩
        obtain⟨ll,xh⟩:∃k,lf.length=k:=⟨_,rfl⟩
        have vn:Hid (∀W,Below w1.heap.size w1 W→Calls Tryz.prog 120 #[.agg #[.slice (some ⟨b,o,none⟩) n c,.slice XA xn xc],.int .i32 r.1] W (Md.RetOwn lf W)):=Za fun W hW=>by
         have:=Md.full_any _ T S r.1 W zo.out (lg.out.below hW) lr.out.1.1 lr.out.1.2
         rw[qs]at this
         exact this
        have tq:Hid (∀W,Below w1.heap.size w1 W→Calls Tryz.prog 121 #[.agg #[.slice (some ⟨b,o,none⟩) n c,.slice XA xn xc],.int .i32 r.1] W fun e w'=>e=.returned (.bool pr)∧Below W.heap.size W w'):=Za fun W hW=>by
         have:=Md.prim_any _ T S r.1 W zo.out (lg.out.below hW) iw.out.srt iw.out.slen lr.out.1.1 lr.out.1.2
         rw[B9.out,yh]at this
         exact this
        rw[xh]at uj wt
        have jm:=Za xh
        have C0:=Za Be
        have sz:=Za zm
        have ei:=Za yh
        have ky:=Za (dn.out.below ay.out)
        clear lz Co Be zm yh xh qs
        go_upto_region 15 with (fail)
        go_cut [13] (fun x wx=>∃(b8:Option Addr) (aw:Nat) (bu:Option Addr) (c12 xb:Nat) (f5:Ud.Ix→Option Fam.Row),x=.pointer (some ⟨xb,0,none⟩)∧Fam wx (w1.heap.size+3) f5∧f5 (3,(Ml:Int))=some ⟨21,1,.slice b8 ml aw,ml,Ud.ints r.2.2⟩∧f5 (4,(Ml:Int))=some ⟨21,1,.slice bu ll c12,ll,Ud.ints lf⟩ ∧
         f5 (9,1)=some ⟨81,3,.slice (some ⟨xb,0,none⟩) 1 1,1,[.slice b8 ml aw,.slice bu ll c12,.bool pr]⟩∧(∀ix:Ud.Ix,ix≠(3,(Ml:Int))→ix≠(4,(Ml:Int))→ix≠(9,1)→f5 ix=f4 ix)∧Below ao.heap.size ao wx)
        case first =>
         go_wp2_with fail
         refine Stg.wp_regionX (Stg.Keep fun q=>q=wr.heap.size∨q=w.heap.size) (Stg.Keep.rel _) (by kernel_rfl) ?_
         have bh:Below ao.heap.size ao ao.drew:=(Zd _ _).drew
         have yx:=qh.out.below bh
         have qp:ml≤1000000:=by omega
         have jo:w1.heap.size≤ao.heap.size:=by omega
         have b6:wr.heap.size<ao.heap.size:=cn.out.lt
         have b4:w.heap.size<ao.heap.size:=ky.out.lt
         have e1:=Stg.Keep.cells (s:=fun q=>q=wr.heap.size∨q=w.heap.size) (w:=ao.drew) (cn.out.cell 0 rfl) (.inl rfl)
         have e2:=Stg.Keep.cells (s:=fun q=>q=wr.heap.size∨q=w.heap.size) (w:=ao.drew) (cn.out.cell 2 rfl) (.inl rfl)
         have e3:=Stg.Keep.cells (s:=fun q=>q=wr.heap.size∨q=w.heap.size) (w:=ao.drew) (ky.out.cell 0 rfl) (.inr rfl)
         have e4:=Stg.Keep.cells (s:=fun q=>q=wr.heap.size∨q=w.heap.size) (w:=ao.drew) (ky.out.cell 1 rfl) (.inr rfl)
         refine Stg.takeX (Stg.Keep.rel _) 0 _ rfl (by kernel_rfl) (by kernel_rfl) (by kernel_rfl) (by kernel_rfl) (by kernel_rfl) ?_;intro K hK;go_big_quiet_op;go_big_quiet_on
         refine Stg.takeX (Stg.Keep.rel _) 1 _ rfl (by kernel_rfl) (by kernel_rfl) (by kernel_rfl) (by kernel_rfl) (by kernel_rfl) ?_;intro K hK;go_big_quiet_op;go_big_quiet_on
         refine Stg.takeX (Stg.Keep.rel _) 3 _ rfl (by kernel_rfl) (by kernel_rfl) (by kernel_rfl) (by kernel_rfl) (by kernel_rfl) ?_;intro K hK;go_big_quiet_op;go_big_quiet_on
         refine Stg.takeX (Stg.Keep.rel _) 4 _ rfl (by kernel_rfl) (by kernel_rfl) (by kernel_rfl) (by kernel_rfl) (by kernel_rfl) ?_;intro K hK;go_big_quiet_op;go_big_quiet_on
         refine Stg.takeX (Stg.Keep.rel _) 5 _ rfl (by kernel_rfl) (by kernel_rfl) (by kernel_rfl) (by kernel_rfl) (by kernel_rfl) ?_;intro K hK;go_big_quiet_op;go_big_quiet_on
         refine Stg.takeX (Stg.Keep.rel _) 7 _ rfl (by kernel_rfl) (by kernel_rfl) (by kernel_rfl) (by kernel_rfl) (by kernel_rfl) ?_;intro K hK;go_big_quiet_op;go_big_quiet_on
         refine Stg.takeX (Stg.Keep.rel _) 8 _ rfl (by kernel_rfl) (by kernel_rfl) (by kernel_rfl) (by kernel_rfl) (by kernel_rfl) ?_;intro K hK;go_big_quiet_op;go_big_quiet_on
         refine Stg.takeX (Stg.Keep.rel _) 9 _ rfl (by kernel_rfl) (by kernel_rfl) (by kernel_rfl) (by kernel_rfl) (by kernel_rfl) ?_;intro K hK;go_big_quiet_op;go_big_quiet_on
         clear e1 e2 e3 e4
         refine Stg.two 2 12 (by kernel_rfl) ?_ ?_
         · skip
           refine Stg.callX 2 _ rfl (by kernel_rfl) (by kernel_rfl) 62 _ _ rfl (C.enter Tryz.func62 (by kernel_rfl) rfl) [.slice a.1 ml a.2] rfl _ (R.clone_any a.1 ml a.2 w1.heap.size r.2.2 ao.drew bk.out qp (Zh jo bh.size) (kg.out.below (bh.mono jo) (Zb _))) ?_
           rintro e cr ⟨b8,aw,rfl,bo,cy⟩
           refine⟨_,rfl,(Stg.Keep.of_below cy (by rintro q (rfl|rfl);exact Ze b6 bh.size;exact Ze b4 bh.size)),?_⟩
           intro A' aa;simp only[Act.put,Zq,ZC,ZA]at aa;subst aa
           have av:=bh.trans (cy.mono bh.size)
           have jd:=yx.new cy (3,(Ml:Int)) (q:=⟨21,1,.slice b8 ml aw,ml,Ud.ints r.2.2⟩) (own_mono bo (Zh ah bh.size)) (fun g hg=>(own_at bo hg).1)
           refine Stg.two 6 12 (by kernel_rfl) ?_ ?_
           · skip
             refine Stg.callX 6 _ rfl (by kernel_rfl) (by kernel_rfl) 120 _ _ rfl (C.enter Tryz.func120 (by kernel_rfl) rfl) [.agg #[.slice (some ⟨b,o,none⟩) n c,.slice XA xn xc],.int .i32 r.1] rfl _ (vn.out cr (ay.out.trans (av.mono ay.out.size))) ?_
             rintro e ck ⟨bu,c12,rfl,aj,bg⟩
             rw[jm.out]at aj ⊢
             refine⟨_,rfl,(Stg.Keep.of_below bg (by rintro q (rfl|rfl);exact Ze b6 av.size;exact Ze b4 av.size)),?_⟩
             intro A' aa;simp only[Act.put,Zq,ZC,ZA]at aa;subst aa
             have ak:=av.trans (bg.mono av.size)
             have ej:=jd.new bg (4,(Ml:Int)) (q:=⟨21,1,.slice bu ll c12,ll,Ud.ints lf⟩) (own_mono aj (Zh ah av.size)) (fun g hg=>(own_at aj hg).1)
             refine Stg.two 10 12 (by kernel_rfl) ?_ ?_
             · skip
               refine Stg.callX 10 _ rfl (by kernel_rfl) (by kernel_rfl) 121 _ _ rfl (C.enter Tryz.func121 (by kernel_rfl) rfl) [.agg #[.slice (some ⟨b,o,none⟩) n c,.slice XA xn xc],.int .i32 r.1] rfl _ (tq.out ck (ay.out.trans (ak.mono ay.out.size))) ?_
               rintro e bs ⟨rfl,ap⟩
               refine⟨_,rfl,(Stg.Keep.of_below ap (by rintro q (rfl|rfl);exact Ze b6 ak.size;exact Ze b4 ak.size)),?_⟩
               intro A' aa;simp only[Act.put,Zq,ZC,ZA]at aa;subst aa
               have aq:=ak.trans (ap.mono ak.size)
               have dr:=ej.below ap
               refine Stg.takeX (Stg.Keep.rel _) 11 _ rfl (by kernel_rfl) (by kernel_rfl) (by kernel_rfl) (by kernel_rfl) (by kernel_rfl) ?_;intro K hK;go_big_quiet_op;go_big_quiet_on
               refine Stg.one 12 (by kernel_rfl) ?_
               refine Stg.stepX 12 _ rfl (by kernel_rfl) (by kernel_rfl) (by kernel_rfl) ?_;intro K hK;go_simp
               obtain⟨wz,cg⟩:∃wz,bs.alloc (.cells #[.slice none 0 0,.slice none 0 0,.bool false] 81)=wz:=⟨_,rfl⟩
               have fp:Below bs.heap.size bs wz:=by rw[←cg];exact (Zd _ bs).alloc (Zb _) _
               have bc:Rw.At wz bs.heap.size 81 [.slice none 0 0,.slice none 0 0,.bool false]:=by rw[←cg];exact Rw.At.new bs 81 [.slice none 0 0,.slice none 0 0,.bool false]
               have il:=dr.box (Zh ah aq.size) (9,1) [.slice none 0 0,.slice none 0 0,.bool false] 81 1 3 rfl (by decide)
               rw[cg]at il
               rw[cg]
               refine hK _ _ (Stg.Keep.of_below fp (by rintro q (rfl|rfl);exact Ze b6 aq.size;exact Ze b4 aq.size)) ?_
               intro A' aa;subst aa
               have hzz:=aq.trans (fp.mono aq.size)
               refine Stg.one 13 (by kernel_rfl) ?_
               have u0:=bc.cell 0 rfl
               have u1:=bc.cell 1 rfl
               have u2:=bc.cell 2 rfl
               have u3:=bc.frozen 0
               have u4:=bc.frozen 1
               have u5:=bc.frozen 2
               have u6:=bc.lt
               refine Stg.stepX 13 _ rfl (by kernel_rfl) (by kernel_rfl) (by kernel_rfl) ?_;intro K hK;go_simp
               obtain⟨au,a6⟩:∃au,((wz.setCell ⟨bs.heap.size,0,none⟩ (.slice b8 ml aw)).setCell ⟨bs.heap.size,1,none⟩ (.slice bu ll c12)).setCell ⟨bs.heap.size,2,none⟩ (.bool pr)=au:=⟨_,rfl⟩
               rw[a6]
               have bm:Rw.At au (bs.heap.size) 81 [.slice b8 ml aw,.slice bu ll c12,.bool pr]:=by rw[←a6];exact ((bc.set 0 _).set 1 _).set 2 _
               have a7:wz.grownBy au (some (bs.heap.size)):=by rw[←a6];exact Rw.grown_trans (Rw.grown_trans (Rw.grown_set _ _ _) (Rw.grown_set _ _ _)) (Rw.grown_set _ _ _)
               have dp:=il.store (i:=(9,1)) (e:=81) (size:=3) (n:=1) (b:=bs.heap.size) (cs:=[.slice none 0 0,.slice none 0 0,.bool false]) (by simp[Fam.set]) a7 bm rfl (by decide)
               have hxb:ao.heap.size≤bs.heap.size:=aq.size
               have bb:Below ao.heap.size ao au:=hzz.trans (grown_belowB a7 hzz.size hxb)
               refine hK _ _ (Stg.Keep.of_grown a7 (by rintro q (rfl|rfl);exact⟨Ze b6 hzz.size,some_ne (Ze b6 hxb)⟩;exact⟨Ze b4 hzz.size,some_ne (Ze b4 hxb)⟩)) ?_
               intro A' aa;subst aa
               refine Stg.endX (by kernel_rfl) ?_
               go_wp2_with fail
               go_meet
               exact⟨b8,aw,bu,c12,bs.heap.size,_,rfl,dp,by simp[Fam.set],by simp[Fam.set],by simp[Fam.set],fun ix h1 h2 h3=>by simp[Fam.set,h1,h2,h3],bb⟩
             · skip
               refine Stg.stepX 12 _ rfl (by kernel_rfl) (by kernel_rfl) (by kernel_rfl) ?_;intro K hK;go_simp
               obtain⟨wz,cg⟩:∃wz,ck.alloc (.cells #[.slice none 0 0,.slice none 0 0,.bool false] 81)=wz:=⟨_,rfl⟩
               have fp:Below ck.heap.size ck wz:=by rw[←cg];exact (Zd _ ck).alloc (Zb _) _
               have bc:Rw.At wz ck.heap.size 81 [.slice none 0 0,.slice none 0 0,.bool false]:=by rw[←cg];exact Rw.At.new ck 81 [.slice none 0 0,.slice none 0 0,.bool false]
               have il:=ej.box (Zh ah ak.size) (9,1) [.slice none 0 0,.slice none 0 0,.bool false] 81 1 3 rfl (by decide)
               rw[cg]at il
               rw[cg]
               refine hK _ _ (Stg.Keep.of_below fp (by rintro q (rfl|rfl);exact Ze b6 ak.size;exact Ze b4 ak.size)) ?_
               intro A' aa;subst aa
               have hzz:=ak.trans (fp.mono ak.size)
               refine Stg.one 10 (by kernel_rfl) ?_
               refine Stg.callX 10 _ rfl (by kernel_rfl) (by kernel_rfl) 121 _ _ rfl (C.enter Tryz.func121 (by kernel_rfl) rfl) [.agg #[.slice (some ⟨b,o,none⟩) n c,.slice XA xn xc],.int .i32 r.1] rfl _ (tq.out wz (ay.out.trans (hzz.mono ay.out.size))) ?_
               rintro e bs ⟨rfl,ap⟩
               refine⟨_,rfl,(Stg.Keep.of_below ap (by rintro q (rfl|rfl);exact Ze b6 hzz.size;exact Ze b4 hzz.size)),?_⟩
               intro A' aa;simp only[Act.put,Zq,ZC,ZA]at aa;subst aa
               have aq:=hzz.trans (ap.mono hzz.size)
               have dr:=il.below ap
               have ae:=bc.below ap
               refine Stg.takeX (Stg.Keep.rel _) 11 _ rfl (by kernel_rfl) (by kernel_rfl) (by kernel_rfl) (by kernel_rfl) (by kernel_rfl) ?_;intro K hK;go_big_quiet_op;go_big_quiet_on
               refine Stg.one 13 (by kernel_rfl) ?_
               have u0:=ae.cell 0 rfl
               have u1:=ae.cell 1 rfl
               have u2:=ae.cell 2 rfl
               have u3:=ae.frozen 0
               have u4:=ae.frozen 1
               have u5:=ae.frozen 2
               have u6:=ae.lt
               refine Stg.stepX 13 _ rfl (by kernel_rfl) (by kernel_rfl) (by kernel_rfl) ?_;intro K hK;go_simp
               obtain⟨au,a6⟩:∃au,((bs.setCell ⟨ck.heap.size,0,none⟩ (.slice b8 ml aw)).setCell ⟨ck.heap.size,1,none⟩ (.slice bu ll c12)).setCell ⟨ck.heap.size,2,none⟩ (.bool pr)=au:=⟨_,rfl⟩
               rw[a6]
               have bm:Rw.At au (ck.heap.size) 81 [.slice b8 ml aw,.slice bu ll c12,.bool pr]:=by rw[←a6];exact ((ae.set 0 _).set 1 _).set 2 _
               have a7:bs.grownBy au (some (ck.heap.size)):=by rw[←a6];exact Rw.grown_trans (Rw.grown_trans (Rw.grown_set _ _ _) (Rw.grown_set _ _ _)) (Rw.grown_set _ _ _)
               have dp:=dr.store (i:=(9,1)) (e:=81) (size:=3) (n:=1) (b:=ck.heap.size) (cs:=[.slice none 0 0,.slice none 0 0,.bool false]) (by simp[Fam.set]) a7 bm rfl (by decide)
               have hxb:ao.heap.size≤ck.heap.size:=ak.size
               have bb:Below ao.heap.size ao au:=aq.trans (grown_belowB a7 aq.size hxb)
               refine hK _ _ (Stg.Keep.of_grown a7 (by rintro q (rfl|rfl);exact⟨Ze b6 aq.size,some_ne (Ze b6 hxb)⟩;exact⟨Ze b4 aq.size,some_ne (Ze b4 hxb)⟩)) ?_
               intro A' aa;subst aa
               refine Stg.endX (by kernel_rfl) ?_
               go_wp2_with fail
               go_meet
               exact⟨b8,aw,bu,c12,ck.heap.size,_,rfl,dp,by simp[Fam.set],by simp[Fam.set],by simp[Fam.set],fun ix h1 h2 h3=>by simp[Fam.set,h1,h2,h3],bb⟩
           · skip
             refine Stg.stepX 12 _ rfl (by kernel_rfl) (by kernel_rfl) (by kernel_rfl) ?_;intro K hK;go_simp
             obtain⟨wz,cg⟩:∃wz,cr.alloc (.cells #[.slice none 0 0,.slice none 0 0,.bool false] 81)=wz:=⟨_,rfl⟩
             have fp:Below cr.heap.size cr wz:=by rw[←cg];exact (Zd _ cr).alloc (Zb _) _
             have bc:Rw.At wz cr.heap.size 81 [.slice none 0 0,.slice none 0 0,.bool false]:=by rw[←cg];exact Rw.At.new cr 81 [.slice none 0 0,.slice none 0 0,.bool false]
             have il:=jd.box (Zh ah av.size) (9,1) [.slice none 0 0,.slice none 0 0,.bool false] 81 1 3 rfl (by decide)
             rw[cg]at il
             rw[cg]
             refine hK _ _ (Stg.Keep.of_below fp (by rintro q (rfl|rfl);exact Ze b6 av.size;exact Ze b4 av.size)) ?_
             intro A' aa;subst aa
             have hzz:=av.trans (fp.mono av.size)
             refine Stg.one 6 (by kernel_rfl) ?_
             refine Stg.callX 6 _ rfl (by kernel_rfl) (by kernel_rfl) 120 _ _ rfl (C.enter Tryz.func120 (by kernel_rfl) rfl) [.agg #[.slice (some ⟨b,o,none⟩) n c,.slice XA xn xc],.int .i32 r.1] rfl _ (vn.out wz (ay.out.trans (hzz.mono ay.out.size))) ?_
             rintro e ck ⟨bu,c12,rfl,aj,bg⟩
             rw[jm.out]at aj ⊢
             refine⟨_,rfl,(Stg.Keep.of_below bg (by rintro q (rfl|rfl);exact Ze b6 hzz.size;exact Ze b4 hzz.size)),?_⟩
             intro A' aa;simp only[Act.put,Zq,ZC,ZA]at aa;subst aa
             have ak:=hzz.trans (bg.mono hzz.size)
             have ej:=il.new bg (4,(Ml:Int)) (q:=⟨21,1,.slice bu ll c12,ll,Ud.ints lf⟩) (own_mono aj (Zh ah hzz.size)) (fun g hg=>(own_at aj hg).1)
             have fh:=bc.below bg
             refine Stg.one 10 (by kernel_rfl) ?_
             refine Stg.callX 10 _ rfl (by kernel_rfl) (by kernel_rfl) 121 _ _ rfl (C.enter Tryz.func121 (by kernel_rfl) rfl) [.agg #[.slice (some ⟨b,o,none⟩) n c,.slice XA xn xc],.int .i32 r.1] rfl _ (tq.out ck (ay.out.trans (ak.mono ay.out.size))) ?_
             rintro e bs ⟨rfl,ap⟩
             refine⟨_,rfl,(Stg.Keep.of_below ap (by rintro q (rfl|rfl);exact Ze b6 ak.size;exact Ze b4 ak.size)),?_⟩
             intro A' aa;simp only[Act.put,Zq,ZC,ZA]at aa;subst aa
             have aq:=ak.trans (ap.mono ak.size)
             have dr:=ej.below ap
             have ae:=fh.below ap
             refine Stg.takeX (Stg.Keep.rel _) 11 _ rfl (by kernel_rfl) (by kernel_rfl) (by kernel_rfl) (by kernel_rfl) (by kernel_rfl) ?_;intro K hK;go_big_quiet_op;go_big_quiet_on
             refine Stg.one 13 (by kernel_rfl) ?_
             have u0:=ae.cell 0 rfl
             have u1:=ae.cell 1 rfl
             have u2:=ae.cell 2 rfl
             have u3:=ae.frozen 0
             have u4:=ae.frozen 1
             have u5:=ae.frozen 2
             have u6:=ae.lt
             refine Stg.stepX 13 _ rfl (by kernel_rfl) (by kernel_rfl) (by kernel_rfl) ?_;intro K hK;go_simp
             obtain⟨au,a6⟩:∃au,((bs.setCell ⟨cr.heap.size,0,none⟩ (.slice b8 ml aw)).setCell ⟨cr.heap.size,1,none⟩ (.slice bu ll c12)).setCell ⟨cr.heap.size,2,none⟩ (.bool pr)=au:=⟨_,rfl⟩
             rw[a6]
             have bm:Rw.At au (cr.heap.size) 81 [.slice b8 ml aw,.slice bu ll c12,.bool pr]:=by rw[←a6];exact ((ae.set 0 _).set 1 _).set 2 _
             have a7:bs.grownBy au (some (cr.heap.size)):=by rw[←a6];exact Rw.grown_trans (Rw.grown_trans (Rw.grown_set _ _ _) (Rw.grown_set _ _ _)) (Rw.grown_set _ _ _)
             have dp:=dr.store (i:=(9,1)) (e:=81) (size:=3) (n:=1) (b:=cr.heap.size) (cs:=[.slice none 0 0,.slice none 0 0,.bool false]) (by simp[Fam.set]) a7 bm rfl (by decide)
             have hxb:ao.heap.size≤cr.heap.size:=av.size
             have bb:Below ao.heap.size ao au:=aq.trans (grown_belowB a7 aq.size hxb)
             refine hK _ _ (Stg.Keep.of_grown a7 (by rintro q (rfl|rfl);exact⟨Ze b6 aq.size,some_ne (Ze b6 hxb)⟩;exact⟨Ze b4 aq.size,some_ne (Ze b4 hxb)⟩)) ?_
             intro A' aa;subst aa
             refine Stg.endX (by kernel_rfl) ?_
             go_wp2_with fail
             go_meet
             exact⟨b8,aw,bu,c12,cr.heap.size,_,rfl,dp,by simp[Fam.set],by simp[Fam.set],by simp[Fam.set],fun ix h1 h2 h3=>by simp[Fam.set,h1,h2,h3],bb⟩
         · skip
           refine Stg.stepX 12 _ rfl (by kernel_rfl) (by kernel_rfl) (by kernel_rfl) ?_;intro K hK;go_simp
           obtain⟨wz,cg⟩:∃wz,(ao.alloc (.cells #[.slice none 0 0,.slice none 0 0,.bool false] 81)).drew=wz:=⟨_,rfl⟩
           have fp:Below ao.drew.heap.size ao.drew wz:=by rw[←cg];exact (Zd _ ao.drew).alloc (Zb _) _
           have bc:Rw.At wz ao.heap.size 81 [.slice none 0 0,.slice none 0 0,.bool false]:=by rw[←cg];exact Rw.At.new ao.drew 81 [.slice none 0 0,.slice none 0 0,.bool false]
           have il:Fam wz (w1.heap.size+3) (Fam.set f4 (9,1) ⟨81,3,.slice (some ⟨ao.heap.size,0,none⟩) 1 1,1,[.slice none 0 0,.slice none 0 0,.bool false]⟩):=by rw[←cg];exact yx.box ah (9,1) [.slice none 0 0,.slice none 0 0,.bool false] 81 1 3 rfl (by decide)
           rw[cg]
           refine hK _ _ (Stg.Keep.of_below fp (by rintro q (rfl|rfl);exact Ze b6 bh.size;exact Ze b4 bh.size)) ?_
           intro A' aa;subst aa
           have hzz:=bh.trans (fp.mono bh.size)
           refine Stg.one 2 (by kernel_rfl) ?_
           refine Stg.callX 2 _ rfl (by kernel_rfl) (by kernel_rfl) 62 _ _ rfl (C.enter Tryz.func62 (by kernel_rfl) rfl) [.slice a.1 ml a.2] rfl _ (R.clone_any a.1 ml a.2 w1.heap.size r.2.2 wz bk.out qp (Zh jo hzz.size) (kg.out.below (hzz.mono jo) (Zb _))) ?_
           rintro e cr ⟨b8,aw,rfl,bo,cy⟩
           refine⟨_,rfl,(Stg.Keep.of_below cy (by rintro q (rfl|rfl);exact Ze b6 hzz.size;exact Ze b4 hzz.size)),?_⟩
           intro A' aa;simp only[Act.put,Zq,ZC,ZA]at aa;subst aa
           have av:=hzz.trans (cy.mono hzz.size)
           have jd:=il.new cy (3,(Ml:Int)) (q:=⟨21,1,.slice b8 ml aw,ml,Ud.ints r.2.2⟩) (own_mono bo (Zh ah hzz.size)) (fun g hg=>(own_at bo hg).1)
           have px:=bc.below cy
           refine Stg.one 6 (by kernel_rfl) ?_
           refine Stg.callX 6 _ rfl (by kernel_rfl) (by kernel_rfl) 120 _ _ rfl (C.enter Tryz.func120 (by kernel_rfl) rfl) [.agg #[.slice (some ⟨b,o,none⟩) n c,.slice XA xn xc],.int .i32 r.1] rfl _ (vn.out cr (ay.out.trans (av.mono ay.out.size))) ?_
           rintro e ck ⟨bu,c12,rfl,aj,bg⟩
           rw[jm.out]at aj ⊢
           refine⟨_,rfl,(Stg.Keep.of_below bg (by rintro q (rfl|rfl);exact Ze b6 av.size;exact Ze b4 av.size)),?_⟩
           intro A' aa;simp only[Act.put,Zq,ZC,ZA]at aa;subst aa
           have ak:=av.trans (bg.mono av.size)
           have ej:=jd.new bg (4,(Ml:Int)) (q:=⟨21,1,.slice bu ll c12,ll,Ud.ints lf⟩) (own_mono aj (Zh ah av.size)) (fun g hg=>(own_at aj hg).1)
           have fh:=px.below bg
           refine Stg.one 10 (by kernel_rfl) ?_
           refine Stg.callX 10 _ rfl (by kernel_rfl) (by kernel_rfl) 121 _ _ rfl (C.enter Tryz.func121 (by kernel_rfl) rfl) [.agg #[.slice (some ⟨b,o,none⟩) n c,.slice XA xn xc],.int .i32 r.1] rfl _ (tq.out ck (ay.out.trans (ak.mono ay.out.size))) ?_
           rintro e bs ⟨rfl,ap⟩
           refine⟨_,rfl,(Stg.Keep.of_below ap (by rintro q (rfl|rfl);exact Ze b6 ak.size;exact Ze b4 ak.size)),?_⟩
           intro A' aa;simp only[Act.put,Zq,ZC,ZA]at aa;subst aa
           have aq:=ak.trans (ap.mono ak.size)
           have dr:=ej.below ap
           have ae:=fh.below ap
           refine Stg.takeX (Stg.Keep.rel _) 11 _ rfl (by kernel_rfl) (by kernel_rfl) (by kernel_rfl) (by kernel_rfl) (by kernel_rfl) ?_;intro K hK;go_big_quiet_op;go_big_quiet_on
           refine Stg.one 13 (by kernel_rfl) ?_
           have u0:=ae.cell 0 rfl
           have u1:=ae.cell 1 rfl
           have u2:=ae.cell 2 rfl
           have u3:=ae.frozen 0
           have u4:=ae.frozen 1
           have u5:=ae.frozen 2
           have u6:=ae.lt
           refine Stg.stepX 13 _ rfl (by kernel_rfl) (by kernel_rfl) (by kernel_rfl) ?_;intro K hK;go_simp
           obtain⟨au,a6⟩:∃au,((bs.setCell ⟨ao.heap.size,0,none⟩ (.slice b8 ml aw)).setCell ⟨ao.heap.size,1,none⟩ (.slice bu ll c12)).setCell ⟨ao.heap.size,2,none⟩ (.bool pr)=au:=⟨_,rfl⟩
           rw[a6]
           have bm:Rw.At au (ao.heap.size) 81 [.slice b8 ml aw,.slice bu ll c12,.bool pr]:=by rw[←a6];exact ((ae.set 0 _).set 1 _).set 2 _
           have a7:bs.grownBy au (some (ao.heap.size)):=by rw[←a6];exact Rw.grown_trans (Rw.grown_trans (Rw.grown_set _ _ _) (Rw.grown_set _ _ _)) (Rw.grown_set _ _ _)
           have dp:=dr.store (i:=(9,1)) (e:=81) (size:=3) (n:=1) (b:=ao.heap.size) (cs:=[.slice none 0 0,.slice none 0 0,.bool false]) (by simp[Fam.set]) a7 bm rfl (by decide)
           have hxb:ao.heap.size≤ao.heap.size:=bh.size
           have bb:Below ao.heap.size ao au:=aq.trans (grown_belowB a7 aq.size hxb)
           refine hK _ _ (Stg.Keep.of_grown a7 (by rintro q (rfl|rfl);exact⟨Ze b6 aq.size,some_ne (Ze b6 hxb)⟩;exact⟨Ze b4 aq.size,some_ne (Ze b4 hxb)⟩)) ?_
           intro A' aa;subst aa
           refine Stg.endX (by kernel_rfl) ?_
           go_wp2_with fail
           go_meet
           exact⟨b8,aw,bu,c12,ao.heap.size,_,rfl,dp,by simp[Fam.set],by simp[Fam.set],by simp[Fam.set],fun ix h1 h2 h3=>by simp[Fam.set,h1,h2,h3],bb⟩
        case rest =>
         obtain⟨b8,aw,bu,c12,xb,f5,rfl,l7,yf,wm,i6,li,bb⟩:=hcut
         obtain⟨au,rfl⟩:∃q:World,q=wc:=⟨_,rfl⟩
         have A1:=Za l7
         have Du:=Za yf
         have Ca:=Za wm
         have sj:=Za i6
         have dc:=Za li
         have De:=Za bb
         have qw:=Za (sq.out.below bb)
         have ov:=Za (pz.out.below bb)
         have r8:=Za (rp.out.below bb)
         have j3:=Za (ay.out.trans (bb.mono ay.out.size))
         have cf:=Zh ah bb.size
         have pw:=(own_at (l7.own _ _ i6) (g:=xb) rfl)
         have qa:au.ownsRow (w1.heap.size+3) 81 3 ve Mr.length (Ud.flE T X Mr es):=l7.own (0,3) _ (by rw[li _ (by intro e;cases e) (by intro e;cases e) (by intro e;cases e)];exact ar.out.e)
         obtain⟨AE,cE,rfl⟩:=own_form qa
         have jv:au.ownsRow (w1.heap.size+3) 21 1 (.slice bu ll c12) ll (Ud.ints lf):=l7.own _ _ wm
         obtain⟨fb,fc,Al,Di,Cj⟩:=jv.form (by omega)
         obtain⟨rfl,_,rfl⟩:=Value.slice.inj Al
         have oc:au.ownsRow (w1.heap.size+3) 21 1 (.slice b8 ml aw) ml (Ud.ints r.2.2):=l7.own _ _ yf
         obtain⟨mk,mc,zh,Cr,rk⟩:=oc.form (by omega)
         obtain⟨rfl,_,rfl⟩:=Value.slice.inj zh
         obtain⟨hd,tl,q4⟩:∃hd tl,lf=hd::tl:=by
          cases lf with
          | nil=>have:=jm.out;simp at this;omega
          | cons x l=>exact⟨x,l,rfl⟩
         have uv:=Za q4
         clear jv oc Al zh q4
         have eu:au.ownsRow (w1.heap.size+3) 81 3 (.slice (some ⟨xb,0,none⟩) 1 1) 1 [.slice (some ⟨mk,0,none⟩) ml aw,.slice (some ⟨fb,0,none⟩) ll c12,.bool pr]:=l7.own _ _ i6
         have x0:=own_cell eu (i:=0) rfl
         have x1:=own_cell eu (i:=1) rfl
         have x2:=own_cell eu (i:=2) rfl
         have xu:=qw.out
         rw[bj.out]at xu
         have dw:=Za xu
         have e1:=Stg.Keep.cells (s:=fun q=>q=xb∨q=w1.heap.size+1+1) (w:=au.drew) (dw.out.cell 4 rfl) (.inr rfl)
         have e2:=Stg.Keep.cells (s:=fun q=>q=xb∨q=w1.heap.size+1+1) (w:=au.drew) x0 (.inl rfl)
         have e3:=Stg.Keep.cells (s:=fun q=>q=xb∨q=w1.heap.size+1+1) (w:=au.drew) x1 (.inl rfl)
         have e4:=Stg.Keep.cells (s:=fun q=>q=xb∨q=w1.heap.size+1+1) (w:=au.drew) x2 (.inl rfl)
         have uj:=dw.out.lt
         clear l7 yf wm i6 li bb qa eu x0 x1 x2 xu b2 b3
         go_wp2_with fail
         refine Stg.wp_region (Stg.Keep fun q=>q=xb∨q=w1.heap.size+1+1) (Stg.Keep.rel _) (by kernel_rfl) (by kernel_rfl) (by decide +kernel) ?_
         iterate 4 (refine Stg.readW (by kernel_rfl) (by kernel_rfl) (by kernel_rfl) ?_;intro K hK;go_big_quiet_op;go_big_quiet_on)
         iterate 2 (refine Stg.read 0 (by kernel_rfl) (by kernel_rfl) (by kernel_rfl) au.drew rfl (by kernel_rfl) ?_;intro K hK;go_big_quiet_op;go_big_quiet_on)
         refine Stg.stepW au.drew (by kernel_rfl) (by kernel_rfl) rfl (by kernel_rfl) ?_;intro K hK;go_simp
         obtain⟨kj,js⟩:∃kj,(au.alloc (.cells #[.slice (some ⟨mk,0,none⟩) ml aw,.slice (some ⟨fb,0,none⟩) ll c12,.bool pr] 81)).drew=kj:=⟨_,rfl⟩
         have bl:Below au.heap.size au kj:=by rw[←js];exact ((Zd _ _).alloc (Zb _) _).drew
         have j4:Sl kj kj.heap.size (some ⟨au.heap.size,0,none⟩) [.slice (some ⟨mk,0,none⟩) ml aw,.slice (some ⟨fb,0,none⟩) ll c12,.bool pr]:=by rw[←js];exact (Rw.At.new au 81 [.slice (some ⟨mk,0,none⟩) ml aw,.slice (some ⟨fb,0,none⟩) ll c12,.bool pr]).slt.sl
         rw[js]
         refine hK _ _ (fun q hq=>bl.block q (by rcases hq with rfl|rfl;exact pw.2;exact uj)) ?_
         intro A' aa;subst aa
         have ee:=A1.out.below bl
         have nt:f5 (0,3)=some ⟨81,3,.slice AE Ml cE,Ml,Ud.flE T X Mr es⟩:=by rw[dc.out _ (by intro e;cases e) (by intro e;cases e) (by intro e;cases e),ar.out.e,bj.out]
         refine Stg.stepW kj (by kernel_rfl) (by kernel_rfl) rfl (by kernel_rfl) ?_;intro K hK
         refine Fam.wp_append kj _ _ _ rfl ee (0,3) _ nt l0 _ 56 Tryz.underlying124 Dp Dn Ds Dg rfl (by show 0<3;decide) rfl kj.heap.size (some ⟨au.heap.size,0,none⟩) 1 1 [.slice (some ⟨mk,0,none⟩) ml aw,.slice (some ⟨fb,0,none⟩) ll c12,.bool pr] rfl rfl j4 (by simp[Value.oneCell']) (by simp only[maxLen];omega) (by simp only;omega) (Zh cf bl.size) ?_
         intro Dk s4 lm i1 e9
         have fw:=ee.ne (i:=(0,3)) (j:=(9,1)) (by intro e;cases e) nt sj.out (b:=xb) rfl
         have ag:=ee.low nt (b:=w1.heap.size+1+1) (by omega)
         have fj:=(dw.out.below bl).grown e9 ag
         refine hK _ _ (Stg.Keep.of_grown e9 (by rintro q (rfl|rfl);exact⟨Ze pw.2 bl.size,Z6 fw⟩;exact⟨Ze uj bl.size,Z6 ag⟩)) ?_
         have gw:s4.ownsRow (w1.heap.size+3) 81 3 Dk (Ml+1) (Ud.flE T X Mr es++[.slice (some ⟨mk,0,none⟩) ml aw,.slice (some ⟨fb,0,none⟩) ll c12,.bool pr]):=lm.own _ _ (Fam.set_same _ _ _)
         obtain⟨q3,o1,rfl⟩:=own_form gw
         intro A' aa;simp only[Act.put,Zq,ZC,ZA]at aa;subst aa
         iterate 2 (refine Stg.readW (by kernel_rfl) (by kernel_rfl) (by kernel_rfl) ?_;intro K hK;go_big_quiet_op;go_big_quiet_on)
         have u0:=fj.cell 4 rfl
         have u1:=fj.frozen 4
         have u2:=fj.lt
         refine Stg.last s4 (by kernel_rfl) (by kernel_rfl) (by kernel_rfl) rfl (by kernel_rfl) ?_;intro K hK;go_simp
         obtain⟨bx,iq⟩:∃bx,s4.setCell ⟨w1.heap.size+1+1,4,none⟩ (.slice q3 (Ml+1) o1)=bx:=⟨_,rfl⟩
         rw[iq]
         refine hK _ _ ?_
         intro A' aa;subst aa
         refine Stg.nil bx rfl ?_
         have ea:s4.grownBy bx (some (w1.heap.size+1+1)):=by rw[←iq];exact Rw.grown_set _ _ _
         obtain⟨f6,uk⟩:∃f6,f6=Fam.set f5 (0,3) ⟨81,3,.slice q3 (Ml+1) o1,Ml+1,Ud.flE T X Mr es++[.slice (some ⟨mk,0,none⟩) ml aw,.slice (some ⟨fb,0,none⟩) ll c12,.bool pr]⟩:=⟨_,rfl⟩
         have tz:Hid (Fam bx (w1.heap.size+3) f6):=Za (by rw[uk];exact lm.other ea (by omega))
         have ua:Hid (Rw.At bx (w1.heap.size+1+1) 128 (Ud.cells (.slice A7 (Kl+1) c7) XA xn xc (.slice q3 (Ml+1) o1) w1.heap.size (w1.heap.size+1))):=Za (by rw[←iq];exact fj.set 4 _)
         have zt:=Za (((ov.out.below bl).grown e9 (Z6 (ee.low nt (b:=w1.heap.size) (by omega)))).grown ea (by simp only[XQ,Zg];omega))
         have zl:=Za (((r8.out.below bl).grown e9 (Z6 (ee.low nt (b:=w1.heap.size+1) (by omega)))).grown ea (by simp only[XQ,Zg];omega))
         have Bh:Hid (Below w1.heap.size w1 bx):=Za (j3.out.trans ((bl.mono (by omega)).trans ((i1.mono (by omega)).trans (Below.grown (Zd _ _) ea (by have:=bl.size;have:=i1.size;omega) (by intro k hk;simp only[Zg]at hk;omega)))))
         have ba:w1.heap.size+3≤bx.heap.size:=Zh cf (Zh bl.size (Zh i1.size ea.size))
         have ib:Hid (∀ix:Ud.Ix,ix≠(0,3)→f6 ix=f5 ix):=Za fun ix h=>by rw[uk,Fam.set_other _ _ h]
         have Af:Hid (f6 (0,3)=some ⟨81,3,.slice q3 (Ml+1) o1,Ml+1,Ud.flE T X Mr es++[.slice (some ⟨mk,0,none⟩) ml aw,.slice (some ⟨fb,0,none⟩) ll c12,.bool pr]⟩):=Za (by rw[uk,Fam.set_same])
         clear ea lm fj i1 e9 fw ag ee bl j4 js iq gw uk nt u0 u1 u2 e1 e2 e3 e4 qw dw ov r8 A1 j3 cf
         have ra:f6 (0,2)=some ⟨178,2,vp,Ml,Pg.fl (Ud.plG 0 Mr)⟩:=by rw[ib.out _ (by intro e;cases e),dc.out _ (by intro e;cases e) (by intro e;cases e) (by intro e;cases e),ar.out.p,bj.out]
         have e0:f6 (9,0)=some ⟨103,3,.slice (some ⟨wr.heap.size,0,none⟩) 1 1,1,[.int .i32 r.1,.int .i64 r.2.1,.slice a.1 ml a.2]⟩:=by rw[ib.out _ (by intro e;cases e),dc.out _ (by intro e;cases e) (by intro e;cases e) (by intro e;cases e),rh.out]
         have mg:f6 (9,1)=some ⟨81,3,.slice (some ⟨xb,0,none⟩) 1 1,1,[.slice (some ⟨mk,0,none⟩) ml aw,.slice (some ⟨fb,0,none⟩) ll c12,.bool pr]⟩:=by rw[ib.out _ (by intro e;cases e),sj.out]
         have nj:bx.ownsRow (w1.heap.size+3) 178 2 vp Ml (Pg.fl (Ud.plG 0 Mr)):=tz.out.own _ _ ra
         obtain⟨Ap,cp,rfl⟩:=own_form nj
         have gb:bx.ownsRow (w1.heap.size+3) 103 3 (.slice (some ⟨wr.heap.size,0,none⟩) 1 1) 1 [.int .i32 r.1,.int .i64 r.2.1,.slice a.1 ml a.2]:=tz.out.own _ _ e0
         have fy:=(own_at gb (g:=wr.heap.size) rfl).2
         have fe:=ua.out.lt
         have e1:=Stg.Keep.cells (s:=fun q=>q=wr.heap.size∨q=w1.heap.size+1+1) (w:=bx.drew) (ua.out.cell 4 rfl) (.inr rfl)
         have e2:=Stg.Keep.cells (s:=fun q=>q=wr.heap.size∨q=w1.heap.size+1+1) (w:=bx.drew) (own_cell gb (i:=0) rfl) (.inl rfl)
         have eM:IntKind.u16.wrap ((Ml:Int)+1)=(Ml:Int)+1:=by rw[IntKind.wrap_u16];omega
         clear nj gb
         go_wp2_with fail
         refine Stg.wp_region (Stg.Keep fun q=>q=wr.heap.size∨q=w1.heap.size+1+1) (Stg.Keep.rel _) (by kernel_rfl) (by kernel_rfl) (by decide +kernel) ?_
         iterate 2 (refine Stg.readW (by kernel_rfl) (by kernel_rfl) (by kernel_rfl) ?_;intro K hK;go_big_quiet_op;go_big_quiet_on)
         refine Stg.read 0 (by kernel_rfl) (by kernel_rfl) (by kernel_rfl) bx.drew rfl (by kernel_rfl) ?_;intro K hK;go_big_quiet_op;go_big_quiet_on
         iterate 3 (refine Stg.readW (by kernel_rfl) (by kernel_rfl) (by kernel_rfl) ?_;intro K hK;go_big_quiet_op;go_big_quiet_on)
         refine Stg.read 0 (by kernel_rfl) (by kernel_rfl) (by kernel_rfl) bx.drew rfl (by kernel_rfl) ?_;intro K hK;go_big_quiet_op;go_big_quiet_on
         iterate 3 (refine Stg.readW (by kernel_rfl) (by kernel_rfl) (by kernel_rfl) ?_;intro K hK;go_big_quiet_op;go_big_quiet_on)
         refine Stg.stepW bx.drew (by kernel_rfl) (by kernel_rfl) rfl (by kernel_rfl) ?_;intro K hK;go_simp
         obtain⟨km,jl⟩:∃km,(bx.alloc (.cells #[.int .i32 r.1,.int .u16 ((Ml:Int)+1)] 178)).drew=km:=⟨_,rfl⟩
         have bp:Below bx.heap.size bx km:=by rw[←jl];exact ((Zd _ _).alloc (Zb _) _).drew
         have kl:Sl km km.heap.size (some ⟨bx.heap.size,0,none⟩) [.int .i32 r.1,.int .u16 ((Ml:Int)+1)]:=by rw[←jl];exact (Rw.At.new bx 178 [.int .i32 r.1,.int .u16 ((Ml:Int)+1)]).slt.sl
         rw[jl]
         refine hK _ _ (fun q hq=>bp.block q (by rcases hq with rfl|rfl;exact fy;exact fe)) ?_
         intro A' aa;subst aa
         have jr:=tz.out.below bp
         refine Stg.stepW km (by kernel_rfl) (by kernel_rfl) rfl (by kernel_rfl) ?_;intro K hK
         refine Fam.wp_append km _ _ _ rfl jr (0,2) _ ra k0 _ 8 Tryz.underlying175 Aa Ae Bg zg rfl (by show 0<2;decide) rfl km.heap.size (some ⟨bx.heap.size,0,none⟩) 1 1 [.int .i32 r.1,.int .u16 ((Ml:Int)+1)] rfl rfl kl (by simp[Value.oneCell']) (by simp only[maxLen];omega) (by simp only;omega) (Zh ba bp.size) ?_
         intro v20 bf l5 ma ia
         have fu:=jr.ne (i:=(0,2)) (j:=(9,0)) (by intro e;cases e) ra e0 (b:=wr.heap.size) rfl
         have ag:=fun b (hb:b<w1.heap.size+3)=>jr.low ra (b:=b) hb
         refine hK _ _ (Stg.Keep.of_grown ia (by rintro q (rfl|rfl);exact⟨Ze fy bp.size,Z6 fu⟩;exact⟨Ze fe bp.size,Z6 (ag _ (by omega))⟩)) ?_
         have gq:bf.ownsRow (w1.heap.size+3) 178 2 v20 (Ml+1) (Pg.fl (Ud.plG 0 Mr)++[.int .i32 r.1,.int .u16 ((Ml:Int)+1)]):=l5.own _ _ (Fam.set_same _ _ _)
         obtain⟨r5,c20,rfl⟩:=own_form gq
         intro A' aa;simp only[Act.put,Zq,ZC,ZA]at aa;subst aa
         refine Stg.readW (by kernel_rfl) (by kernel_rfl) (by kernel_rfl) ?_;intro K hK;go_big_quiet_op;go_big_quiet_on
         refine Stg.nil bf rfl ?_
         obtain⟨f7,s7⟩:∃f7,f7=Fam.set f6 (0,2) ⟨178,2,.slice r5 (Ml+1) c20,Ml+1,Pg.fl (Ud.plG 0 Mr)++[.int .i32 r.1,.int .u16 ((Ml:Int)+1)]⟩:=⟨_,rfl⟩
         have vz:Hid (Fam bf (w1.heap.size+3) f7):=Za (by rw[s7];exact l5)
         have sx:=Za ((ua.out.below bp).grown ia (ag _ (by omega)))
         have s9:=Za ((zt.out.below bp).grown ia (Z6 (ag _ (by omega))))
         have B8:=Za ((zl.out.below bp).grown ia (Z6 (ag _ (by omega))))
         have y9:Hid (Below w1.heap.size w1 bf):=Za (Bh.out.trans ((bp.mono (by omega)).trans (ma.mono (by omega))))
         have di:=Zh ba (Zh bp.size ma.size)
         have ez:Hid (∀ix:Ud.Ix,ix≠(0,2)→f7 ix=f6 ix):=Za fun ix h=>by rw[s7,Fam.set_other _ _ h]
         have Bt:Hid (f7 (0,2)=some ⟨178,2,.slice r5 (Ml+1) c20,Ml+1,Pg.fl (Ud.plG 0 Mr)++[.int .i32 r.1,.int .u16 ((Ml:Int)+1)]⟩):=Za (by rw[s7,Fam.set_same])
         clear l5 ma ia fu ag jr bp kl jl gq s7 ra e1 e2 tz ua zt zl Bh ba
         have z8:(Ud.full T r.1).headD 0=hd:=by rw[sz.out,uv.out];rfl
         have B1 : -2147483648≤hd∧hd≤2147483647:=C0.out hd (by rw[uv.out];exact Zw)
         obtain⟨nb,hnb⟩:∃k,(Ud.begM T Mr hd).length=k:=⟨_,rfl⟩
         have Df:nb≤10000:=by rw[←hnb];unfold Ud.begM;rw[List.length_map];exact Nat.le_trans (List.length_filter_le _ _) (by rw[bj.out];exact p2)
         obtain⟨f8,v0,n7,vv,p4,B7⟩:∃f8 v0,Fam bf (w1.heap.size+3) f8∧f8 (1,hd)=some (Ud.rowV v0 (Ud.begM T Mr hd))∧(∀ix:Ud.Ix,ix≠(1,hd)→f8 ix=f7 ix)∧(G (.int .i32 hd)).getD (.slice none 0 0)=v0:=by
          rcases cv.out hd with ⟨g1,g2⟩|⟨v,g1,g2⟩
          · exact⟨Fam.set f7 (1,hd) (Ud.rowV (.slice none 0 0) []),.slice none 0 0,vz.out.new (Zd _ _) _ (ZG _ _ _ _) (fun g hg=>by simp[Ud.rowV,Value.ownBlock]at hg),by rw[Fam.set_same,g1],fun ix h=>Fam.set_other _ _ h,by rw[g2];rfl⟩
          · exact⟨f7,v,vz.out,by rw[ez.out _ (by intro e;cases e),ib.out _ (by intro e;cases e),dc.out _ (by intro e;cases e) (by intro e;cases e) (by intro e;cases e),g2],fun _ _=>rfl,by rw[g1];rfl⟩
         have xq:bf.ownsRow (w1.heap.size+3) 21 1 v0 (Ud.begM T Mr hd).length (Ud.ints (Ud.begM T Mr hd)):=n7.own _ _ vv
         rw[hnb]at xq
         obtain⟨Ab,cb,rfl⟩:=own_form xq
         have lj:=(p4 (9,0) (by intro e;cases e)).trans ((ez.out _ (by intro e;cases e)).trans e0)
         have lp:=(p4 (9,1) (by intro e;cases e)).trans ((ez.out _ (by intro e;cases e)).trans mg)
         have vr:=(p4 (4,(Ml:Int)) (by intro e;cases e)).trans ((ez.out _ (by intro e;cases e)).trans ((ib.out _ (by intro e;cases e)).trans Ca.out))
         have gb:bf.ownsRow (w1.heap.size+3) 103 3 (.slice (some ⟨wr.heap.size,0,none⟩) 1 1) 1 [.int .i32 r.1,.int .i64 r.2.1,.slice a.1 ml a.2]:=n7.own _ _ lj
         have eu:bf.ownsRow (w1.heap.size+3) 81 3 (.slice (some ⟨xb,0,none⟩) 1 1) 1 [.slice (some ⟨mk,0,none⟩) ml aw,.slice (some ⟨fb,0,none⟩) ll c12,.bool pr]:=n7.own _ _ lp
         have jv:bf.ownsRow (w1.heap.size+3) 21 1 (.slice (some ⟨fb,0,none⟩) ll c12) ll (Ud.ints lf):=n7.own _ _ vr
         have fy:=(own_at gb (g:=wr.heap.size) rfl).2
         have kk:=(own_at eu (g:=xb) rfl).2
         have oo:=(own_at jv (g:=fb) rfl).2
         have fe:=sx.out.lt
         have p1:=s9.out.lt
         have e1:=Stg.Keep.cells (s:=fun q=>q=xb∨q=w1.heap.size+1+1∨q=wr.heap.size∨q=fb∨q=w1.heap.size) (w:=bf.drew) (sx.out.cell 5 rfl) (.inr (.inl rfl))
         have e2:=Stg.Keep.cells (s:=fun q=>q=xb∨q=w1.heap.size+1+1∨q=wr.heap.size∨q=fb∨q=w1.heap.size) (w:=bf.drew) (own_cell eu (i:=1) rfl) (.inl rfl)
         have e3:=Stg.Keep.cells (s:=fun q=>q=xb∨q=w1.heap.size+1+1∨q=wr.heap.size∨q=fb∨q=w1.heap.size) (w:=bf.drew) (own_cell jv (i:=0) (u:=.int .i32 hd) (by rw[uv.out];rfl)) (.inr (.inr (.inr (.inl rfl))))
         have e4:=Stg.Keep.cells (s:=fun q=>q=xb∨q=w1.heap.size+1+1∨q=wr.heap.size∨q=fb∨q=w1.heap.size) (w:=bf.drew) (own_cell gb (i:=0) rfl) (.inr (.inr (.inl rfl)))
         have e5:∀x:Stg.Later (Stg.Keep fun q=>q=xb∨q=w1.heap.size+1+1∨q=wr.heap.size∨q=fb∨q=w1.heap.size) bf.drew,(Instr.lookup 125 (.map (some w1.heap.size)) (.int .i32 hd) false).run Tryz.prog x.val=.ok (.slice Ab nb cb) x.val:=fun x=>Ud.look32 (s9.out.same (x.rel _ (.inr (.inr (.inr (.inr rfl)))))) B1 B7
         have C4:(0:Int)<ll:=by omega
         have r9:=Za n7
         have Bi:=Za p4
         have s5:=Za z8
         have y5:=Za hnb
         clear gb eu jv xq n7 p4 B7 z8 hnb
         go_wp2_with fail
         refine Stg.wp_region (Stg.Keep fun q=>q=xb∨q=w1.heap.size+1+1∨q=wr.heap.size∨q=fb∨q=w1.heap.size) (Stg.Keep.rel _) (by kernel_rfl) (by kernel_rfl) (by decide +kernel) ?_
         iterate 3 (refine Stg.readW (by kernel_rfl) (by kernel_rfl) (by kernel_rfl) ?_;intro K hK;go_big_quiet_op;go_big_quiet_on)
         refine Stg.read 0 (by kernel_rfl) (by kernel_rfl) (by kernel_rfl) bf.drew rfl (by kernel_rfl) ?_;intro K hK;go_big_quiet_op;go_big_quiet_on
         refine Stg.readW (by kernel_rfl) (by kernel_rfl) (by kernel_rfl) ?_;intro K hK;go_big_quiet_op;go_big_quiet_on
         refine Stg.read 0 (by kernel_rfl) (by kernel_rfl) (by kernel_rfl) bf.drew rfl (by kernel_rfl) ?_;intro K hK;go_big_quiet_op;go_big_quiet_on
         refine Stg.readW (by kernel_rfl) (by kernel_rfl) (by kernel_rfl) ?_;intro K hK;go_big_quiet_op;go_big_quiet_on
         refine Stg.read 0 (by kernel_rfl) (by kernel_rfl) (by kernel_rfl) bf.drew rfl (by kernel_rfl) ?_;intro K hK;go_big_quiet_op;go_big_quiet_on
         iterate 3 (refine Stg.readW (by kernel_rfl) (by kernel_rfl) (by kernel_rfl) ?_;intro K hK;go_big_quiet_op;go_big_quiet_on)
         refine Stg.read 0 (by kernel_rfl) (by kernel_rfl) (by kernel_rfl) bf.drew rfl (by kernel_rfl) ?_;intro K hK;go_big_quiet_op;go_big_quiet_on
         refine Stg.readW (by kernel_rfl) (by kernel_rfl) (by kernel_rfl) ?_;intro K hK;go_big_quiet_op;go_big_quiet_on
         refine Stg.read 0 (by kernel_rfl) (by kernel_rfl) (by kernel_rfl) bf.drew rfl (by kernel_rfl) ?_;intro K hK;go_big_quiet_op;go_big_quiet_on
         refine Stg.readW (by kernel_rfl) (by kernel_rfl) (by kernel_rfl) ?_;intro K hK;go_big_quiet_op;go_big_quiet_on
         iterate 2 (refine Stg.read 0 (by kernel_rfl) (by kernel_rfl) (by kernel_rfl) bf.drew rfl (by kernel_rfl) ?_;intro K hK;go_big_quiet_op;go_big_quiet_on)
         refine Stg.readW (by kernel_rfl) (by kernel_rfl) (by kernel_rfl) ?_;intro K hK;go_big_quiet_op;go_big_quiet_on
         refine Stg.read 0 (by kernel_rfl) (by kernel_rfl) (by kernel_rfl) bf.drew rfl (by kernel_rfl) ?_;intro K hK;go_big_quiet_op;go_big_quiet_on
         refine Stg.stepW bf.drew (by kernel_rfl) (by kernel_rfl) rfl (by kernel_rfl) ?_;intro K hK;go_simp
         obtain⟨j6,jt⟩:∃j6,(bf.alloc (.cells #[.int .i32 r.1] 21)).drew=j6:=⟨_,rfl⟩
         have a8:Below bf.heap.size bf j6:=by rw[←jt];exact ((Zd _ _).alloc (Zb _) _).drew
         have kq:Sl j6 j6.heap.size (some ⟨bf.heap.size,0,none⟩) [.int .i32 r.1]:=by rw[←jt];exact (Rw.At.new bf 21 [.int .i32 r.1]).slt.sl
         rw[jt]
         refine hK _ _ (fun q hq=>a8.block q (by rcases hq with rfl|rfl|rfl|rfl|rfl;exact kk;exact fe;exact fy;exact oo;exact p1)) ?_
         intro A' aa;subst aa
         have en:=r9.out.below a8
         have er:f8 (1,hd)=some ⟨21,1,.slice Ab nb cb,nb,Ud.ints (Ud.begM T Mr hd)⟩:=by rw[vv];unfold Ud.rowV;rw[y5.out]
         refine Stg.stepW j6 (by kernel_rfl) (by kernel_rfl) rfl (by kernel_rfl) ?_;intro K hK
         refine Fam.wp_append j6 _ _ _ rfl en (1,hd) _ er p0 _ 4 Tryz.underlying25 ol nr n5 nx rfl (by show 0<1;decide) rfl j6.heap.size (some ⟨bf.heap.size,0,none⟩) 1 1 [.int .i32 r.1] rfl rfl kq (by simp[Value.oneCell']) (by simp only[maxLen];omega) (by simp only;omega) (Zh di a8.size) ?_
         intro Cb Av mm je gm
         have fu:=en.ne (i:=(1,hd)) (j:=(9,0)) (by intro e;cases e) er lj (b:=wr.heap.size) rfl
         have fw:=en.ne (i:=(1,hd)) (j:=(9,1)) (by intro e;cases e) er lp (b:=xb) rfl
         have p6:=en.ne (i:=(1,hd)) (j:=(4,(Ml:Int))) (by intro e;cases e) er vr (b:=fb) rfl
         have ag:=fun b (hb:b<w1.heap.size+3)=>en.low er (b:=b) hb
         refine hK _ _ (Stg.Keep.of_grown gm (by rintro q (rfl|rfl|rfl|rfl|rfl);exact⟨Ze kk a8.size,Z6 fw⟩;exact⟨Ze fe a8.size,Z6 (ag _ (by omega))⟩;exact⟨Ze fy a8.size,Z6 fu⟩;exact⟨Ze oo a8.size,Z6 p6⟩;exact⟨Ze p1 a8.size,Z6 (ag _ (by omega))⟩)) ?_
         have gz:Av.ownsRow (w1.heap.size+3) 21 1 Cb (nb+1) (Ud.ints (Ud.begM T Mr hd)++[.int .i32 r.1]):=mm.own _ _ (Fam.set_same _ _ _)
         obtain⟨tx,uf,rfl⟩:=own_form gz
         intro A' aa;simp only[Act.put,Zq,ZC,ZA]at aa;subst aa
         obtain⟨az,G',lq,pg,Ar,ze,eg⟩:=Ud.put32 ((s9.out.below a8).grown gm (Z6 (ag _ (by omega)))) B1 (.slice tx (nb+1) uf)
         refine Stg.last Av (by kernel_rfl) (by kernel_rfl) (by kernel_rfl) rfl (by kernel_rfl) ?_;intro K hK;go_simp
         refine hK _ _ ?_
         intro A' aa;subst aa
         refine Stg.nil az rfl ?_
         obtain⟨f9,s3⟩:∃f9,f9=Fam.set f8 (1,hd) ⟨21,1,.slice tx (nb+1) uf,nb+1,Ud.ints (Ud.begM T Mr hd)++[.int .i32 r.1]⟩:=⟨_,rfl⟩
         have ey:Hid (Fam az (w1.heap.size+3) f9):=Za (by rw[s3];exact mm.other eg (by omega))
         have Bk:=Za (((sx.out.below a8).grown gm (ag _ (by omega))).grown eg (by simp only[XQ,Zg];omega))
         have y2:=Za pg
         have Bn:=Za (((B8.out.below a8).grown gm (Z6 (ag _ (by omega)))).grown eg (by simp only[XQ,Zg];omega))
         have ij:Hid (Below w1.heap.size w1 az):=Za (y9.out.trans ((a8.mono (by omega)).trans ((je.mono (by omega)).trans (Below.grown (Zd _ _) eg (by have:=a8.size;have:=je.size;omega) (by intro k hk;simp only[Zg]at hk;omega)))))
         have af:w1.heap.size+3≤az.heap.size:=Zh di (Zh a8.size (Zh je.size eg.size))
         have ir:Hid (∀ix:Ud.Ix,ix≠(1,hd)→f9 ix=f7 ix):=Za fun ix h=>by rw[s3,Fam.set_other _ _ h,Bi.out _ h]
         have vg:Hid (f9 (1,hd)=some (Ud.rowV (.slice tx (nb+1) uf) (Ud.begM T Mr hd++[r.1]))):=Za (by
          rw[s3,Fam.set_same]
          unfold Ud.rowV Ud.ints
          rw[Zi,ZO,y5.out];rfl)
         have gi:Hid (Ud.BegI T (Mr++[r]) f9 G'):=Za ((cv.out.keep (f':=f7) fun c=>by rw[ez.out _ (by intro e;cases e),ib.out _ (by intro e;cases e),dc.out _ (by intro e;cases e) (by intro e;cases e) (by intro e;cases e)]).add (r:=r) (v:=.slice tx (nb+1) uf) (by rw[s5.out];exact Ar) (by rw[s5.out];exact ze) (by rw[s5.out];exact vg.out) (fun c hc=>ir.out _ (by rw[s5.out]at hc;intro e;simp only[YN,XP]at e;exact hc e)))
         clear mm je gm fu fw p6 ag en a8 kq jt gz s3 vv er vr lj lp e1 e2 e3 e4 e5 vz sx s9 B8 y9 di lq pg Ar ze eg r9 Bi
         have td:∀ix:Ud.Ix,ix≠(1,hd)→ix≠(0,2)→ix≠(0,3)→ix≠(3,(Ml:Int))→ix≠(4,(Ml:Int))→ix≠(9,1)→f9 ix=f4 ix:=fun ix k1 k2 k3 k4 k5 k6=>by rw[ir.out _ k1,ez.out _ k2,ib.out _ k3,dc.out _ k4 k5 k6]
         have vw:f9 (0,4)=some (Ud.rowV vi (Ud.innM T Mr)):=by rw[td _ (by intro e;cases e) (by intro e;cases e) (by intro e;cases e) (by intro e;cases e) (by intro e;cases e) (by intro e;cases e)];exact ar.out.i
         have yv:f9 (0,6)=some (Ud.rowV vm (Ud.mpdM Mr)):=by rw[td _ (by intro e;cases e) (by intro e;cases e) (by intro e;cases e) (by intro e;cases e) (by intro e;cases e) (by intro e;cases e)];exact ar.out.m
         have dk:f9 (9,0)=some ⟨103,3,.slice (some ⟨wr.heap.size,0,none⟩) 1 1,1,[.int .i32 r.1,.int .i64 r.2.1,.slice a.1 ml a.2]⟩:=(ir.out (9,0) (by intro e;cases e)).trans ((ez.out _ (by intro e;cases e)).trans e0)
         have df:f9 (9,1)=some ⟨81,3,.slice (some ⟨xb,0,none⟩) 1 1,1,[.slice (some ⟨mk,0,none⟩) ml aw,.slice (some ⟨fb,0,none⟩) ll c12,.bool pr]⟩:=(ir.out (9,1) (by intro e;cases e)).trans ((ez.out _ (by intro e;cases e)).trans mg)
         have ri:f9 (4,(Ml:Int))=some ⟨21,1,.slice (some ⟨fb,0,none⟩) ll c12,ll,Ud.ints lf⟩:=(ir.out _ (by intro e;cases e)).trans ((ez.out _ (by intro e;cases e)).trans ((ib.out _ (by intro e;cases e)).trans Ca.out))
         have zf:f9 (3,(Ml:Int))=some ⟨21,1,.slice (some ⟨mk,0,none⟩) ml aw,ml,Ud.ints r.2.2⟩:=(ir.out _ (by intro e;cases e)).trans ((ez.out _ (by intro e;cases e)).trans ((ib.out _ (by intro e;cases e)).trans Du.out))
         obtain⟨ni,nv⟩:∃k,(Ud.innM T Mr).length=k:=⟨_,rfl⟩
         have Cv:ni≤310000:=by have:=Ud.inn_len (T:=T) Ud.full_le Mr;rw[nv]at this;omega
         have iv:(Ud.mpdM Mr).length=Ml:=by unfold Ud.mpdM;rw[List.length_map,bj.out]
         have lb:az.ownsRow (w1.heap.size+3) 21 1 vi (Ud.innM T Mr).length (Ud.ints (Ud.innM T Mr)):=ey.out.own _ _ vw
         have lc:az.ownsRow (w1.heap.size+3) 21 1 vm (Ud.mpdM Mr).length (Ud.ints (Ud.mpdM Mr)):=ey.out.own _ _ yv
         rw[nv]at lb
         rw[iv]at lc
         obtain⟨Ai,ci,rfl⟩:=own_form lb
         obtain⟨Am,cm,rfl⟩:=own_form lc
         have dm:f9 (0,4)=some ⟨21,1,.slice Ai ni ci,ni,Ud.ints (Ud.innM T Mr)⟩:=by rw[vw];unfold Ud.rowV;rw[nv]
         have dt:f9 (0,6)=some ⟨21,1,.slice Am Ml cm,Ml,Ud.ints (Ud.mpdM Mr)⟩:=by rw[yv];unfold Ud.rowV;rw[iv]
         have jv:az.ownsRow (w1.heap.size+3) 21 1 (.slice (some ⟨fb,0,none⟩) ll c12) ll (Ud.ints lf):=ey.out.own _ _ ri
         have C7:ll≤c12:=own_cap jv
         obtain⟨Ad,ox,qg⟩:∃Ad,(∀W,(Instr.sliceAt 25 (.slice (some ⟨fb,0,none⟩) ll c12) (some (.int .i64 1)) none none).run Tryz.prog W=.ok (.slice Ad (ll-1) (c12-1)) W)∧∀W:World,W.ownsRow (w1.heap.size+3) 21 1 (.slice (some ⟨fb,0,none⟩) ll c12) ll (Ud.ints lf)→Sl W W.heap.size Ad ((Ud.ints lf).drop 1):=by
          have hu:=Tryz.underlying25
          have Dj:(1:Int)≤ll:=by omega
          have zj:(ll:Int)≤c12:=by omega
          clear dc ar cv ep rh dx gi
          by_cases hc1:c12=1
          · refine⟨some ⟨fb,0,none⟩,fun W=>?_,fun W _=>?_⟩
            · go_simp
            · have:(Ud.ints lf).drop 1=[]:=List.drop_eq_nil_of_le (by unfold Ud.ints;rw[List.length_map,jm.out];omega)
              rw[this]
              exact Sl.nil _ _ _
          · refine⟨some ⟨fb,1,none⟩,fun W=>?_,fun W h=>own_tail h⟩
            go_simp
         have gb:az.ownsRow (w1.heap.size+3) 103 3 (.slice (some ⟨wr.heap.size,0,none⟩) 1 1) 1 [.int .i32 r.1,.int .i64 r.2.1,.slice a.1 ml a.2]:=ey.out.own _ _ dk
         have eu:az.ownsRow (w1.heap.size+3) 81 3 (.slice (some ⟨xb,0,none⟩) 1 1) 1 [.slice (some ⟨mk,0,none⟩) ml aw,.slice (some ⟨fb,0,none⟩) ll c12,.bool pr]:=ey.out.own _ _ df
         have br:=(own_at gb (g:=wr.heap.size) rfl).2
         have bq:=(own_at eu (g:=xb) rfl).2
         have xd:((Ud.ints lf).drop 1).length=(ll-1)*1:=by rw[List.length_drop];unfold Ud.ints;rw[List.length_map,jm.out];omega
         have ku:=Za qg
         have rc:=Za ox
         have Bv:=Za gb
         have zu:=Za eu
         have ft:ni+(ll-1)≤maxLen:=by simp only[maxLen];omega
         have gg:(ni+(ll-1))*4≤140737488355328:=by omega
         have gf:Ml+1≤maxLen:=by simp only[maxLen];omega
         have fg:(Ml+1)*4≤140737488355328:=by omega
         have gu:∀u∈(Ud.ints lf).drop 1,u.oneCell'=true:=by intro u hu;unfold Ud.ints at hu;rw[←List.map_drop]at hu;obtain⟨y,_,rfl⟩:=List.mem_map.1 hu;rfl
         clear qg ox gb eu jv lb lc e0 mg vw yv
         go_upto_region 19 with (fail)
         go_cut [8,10] (fun x y wx=>∃(ng:Option Addr) (nn:Nat) (np:Option Addr) (ob:Nat) (g:Ud.Ix→Option Fam.Row),x=.slice ng (ni+(ll-1)) nn∧y=.slice np (Ml+1) ob∧Fam wx (w1.heap.size+3) g ∧
          g (0,4)=some ⟨21,1,.slice ng (ni+(ll-1)) nn,ni+(ll-1),Ud.ints (Ud.innM T Mr)++(Ud.ints lf).drop 1⟩∧g (0,6)=some ⟨21,1,.slice np (Ml+1) ob,Ml+1,Ud.ints (Ud.mpdM Mr)++[.int .i32 r.1]⟩∧(∀ix:Ud.Ix,ix≠(0,4)→ix≠(0,6)→ix≠(9,2)→g ix=f9 ix)∧Below (w1.heap.size+3) az wx)
         case first =>
          go_wp2_with fail
          have e2:=Stg.Keep.cells (s:=fun q=>q=xb∨q=wr.heap.size) (w:=az.drew) (own_cell zu.out (i:=1) rfl) (.inl rfl)
          have e4:=Stg.Keep.cells (s:=fun q=>q=xb∨q=wr.heap.size) (w:=az.drew) (own_cell Bv.out (i:=0) rfl) (.inr rfl)
          have e5:=rc.out
          refine Stg.wp_regionX (Stg.Keep fun q=>q=xb∨q=wr.heap.size) (Stg.Keep.rel _) (by kernel_rfl) ?_
          refine Stg.takeX (Stg.Keep.rel _) 0 _ rfl (by kernel_rfl) (by kernel_rfl) (by kernel_rfl) (by kernel_rfl) (by kernel_rfl) ?_;intro K hK;go_big_quiet_op;go_big_quiet_on
          refine Stg.takeX (Stg.Keep.rel _) 1 _ rfl (by kernel_rfl) (by kernel_rfl) (by kernel_rfl) (by kernel_rfl) (by kernel_rfl) ?_;intro K hK;go_big_quiet_op;go_big_quiet_on
          refine Stg.takeX (Stg.Keep.rel _) 2 _ rfl (by kernel_rfl) (by kernel_rfl) (by kernel_rfl) (by kernel_rfl) (by kernel_rfl) ?_;intro K hK;go_big_quiet_op;go_big_quiet_on
          refine Stg.takeX (Stg.Keep.rel _) 3 _ rfl (by kernel_rfl) (by kernel_rfl) (by kernel_rfl) (by kernel_rfl) (by kernel_rfl) ?_;intro K hK;go_big_quiet_op;go_big_quiet_on
          refine Stg.takeX (Stg.Keep.rel _) 5 _ rfl (by kernel_rfl) (by kernel_rfl) (by kernel_rfl) (by kernel_rfl) (by kernel_rfl) ?_;intro K hK;go_big_quiet_op;go_big_quiet_on
          refine Stg.takeX (Stg.Keep.rel _) 6 _ rfl (by kernel_rfl) (by kernel_rfl) (by kernel_rfl) (by kernel_rfl) (by kernel_rfl) ?_;intro K hK;go_big_quiet_op;go_big_quiet_on
          refine Stg.takeX (Stg.Keep.rel _) 7 _ rfl (by kernel_rfl) (by kernel_rfl) (by kernel_rfl) (by kernel_rfl) (by kernel_rfl) ?_;intro K hK;go_big_quiet_op;go_big_quiet_on
          clear e2 e4 e5
          have mv:Below az.heap.size az az.drew:=(Zd _ _).drew
          have j9:=ey.out.below mv
          refine Stg.two 4 8 (by kernel_rfl) ?_ ?_
          · skip
            refine Stg.stepX 4 _ rfl (by kernel_rfl) (by kernel_rfl) (by kernel_rfl) ?_;intro K hK
            refine Fam.wp_append az.drew _ _ _ rfl j9 (0,4) _ dm p0 _ 4 Tryz.underlying25 ol nr n5 nx rfl Nat.one_pos rfl az.drew.heap.size Ad (ll-1) (c12-1) ((Ud.ints lf).drop 1) rfl xd (ku.out _ (j9.own _ _ ri)) gu ft gg (Zh af (Zb _)) ?_
            intro Cc j2 po om wq
            have o7:j2.ownsRow (w1.heap.size+3) 21 1 Cc (ni+(ll-1)) (Ud.ints (Ud.innM T Mr)++(Ud.ints lf).drop 1):=po.own _ _ (Fam.set_same _ _ _)
            obtain⟨Cq,Cl,rfl⟩:=own_form o7
            have x9:=j9.ne (i:=(0,4)) (j:=(9,1)) (by intro e;cases e) dm df (b:=xb) rfl
            have uu:=j9.ne (i:=(0,4)) (j:=(9,0)) (by intro e;cases e) dm dk (b:=wr.heap.size) rfl
            refine hK _ _ (Stg.Keep.of_grown wq (by rintro q (rfl|rfl);exact⟨Ze bq (Zb _),Z6 x9⟩;exact⟨Ze br (Zb _),Z6 uu⟩)) ?_
            intro A' aa;simp only[Act.put,Zq,ZC,ZA]at aa;subst aa
            have gy:az.heap.size≤j2.heap.size:=Zh (Zb _) om.size
            have xa:Below (w1.heap.size+3) az j2:=(mv.mono af).trans om
            refine Stg.one 8 (by kernel_rfl) ?_
            refine Stg.stepX 8 _ rfl (by kernel_rfl) (by kernel_rfl) (by kernel_rfl) ?_;intro K hK;go_simp
            obtain⟨sa,kx⟩:∃wl,j2.alloc (.cells #[.int .i32 r.1] 21)=wl:=⟨_,rfl⟩
            have mo:Below j2.heap.size j2 sa:=by rw[←kx];exact (Zd _ j2).alloc (Zb _) _
            have fx:=po.box (Zh af gy) (9,2) [.int .i32 r.1] 21 1 1 rfl (by decide)
            rw[kx]at fx
            rw[kx]
            refine hK _ _ (Stg.Keep.of_below mo (by rintro q (rfl|rfl);exact Ze bq gy;exact Ze br gy)) ?_
            intro A' aa;subst aa
            have ja:az.heap.size≤sa.heap.size:=Zh gy mo.size
            have uy:Below (w1.heap.size+3) az sa:=xa.trans (mo.mono (Zh af gy))
            refine Stg.one 9 (by kernel_rfl) ?_
            refine Stg.stepX 9 _ rfl (by kernel_rfl) (by kernel_rfl) (by kernel_rfl) ?_;intro K hK
            refine Fam.wp_append sa _ _ _ rfl fx (0,6) _ ((Fam.set_other _ _ (by intro e;cases e)).trans ((Fam.set_other _ _ (by intro e;cases e)).trans dt)) p0 _ 4 Tryz.underlying25 ol nr n5 nx rfl Nat.one_pos rfl sa.heap.size (some ⟨j2.heap.size,0,none⟩) 1 1 [.int .i32 r.1] rfl rfl (Sl.of_own (fx.own _ _ (Fam.set_same _ _ _))) (by simp[Value.oneCell']) gf fg (Zh af ja) ?_
            intro Dc yg rj rb u9
            have p5:yg.ownsRow (w1.heap.size+3) 21 1 Dc (Ml+1) (Ud.ints (Ud.mpdM Mr)++[.int .i32 r.1]):=rj.own _ _ (Fam.set_same _ _ _)
            obtain⟨Da,Cp,rfl⟩:=own_form p5
            have yc:=fx.ne (i:=(0,6)) (j:=(9,1)) (by intro e;cases e) ((Fam.set_other _ _ (by intro e;cases e)).trans ((Fam.set_other _ _ (by intro e;cases e)).trans dt)) ((Fam.set_other _ _ (by intro e;cases e)).trans ((Fam.set_other _ _ (by intro e;cases e)).trans df)) (b:=xb) rfl
            have yo:=fx.ne (i:=(0,6)) (j:=(9,0)) (by intro e;cases e) ((Fam.set_other _ _ (by intro e;cases e)).trans ((Fam.set_other _ _ (by intro e;cases e)).trans dt)) ((Fam.set_other _ _ (by intro e;cases e)).trans ((Fam.set_other _ _ (by intro e;cases e)).trans dk)) (b:=wr.heap.size) rfl
            refine hK _ _ (Stg.Keep.of_grown u9 (by rintro q (rfl|rfl);exact⟨Ze bq ja,Z6 yc⟩;exact⟨Ze br ja,Z6 yo⟩)) ?_
            intro A' aa;simp only[Act.put,Zq,ZC,ZA]at aa;subst aa
            have Ck:az.heap.size≤yg.heap.size:=Zh ja rb.size
            have uz:Below (w1.heap.size+3) az yg:=uy.trans rb
            refine Stg.takeX (Stg.Keep.rel _) 10 _ rfl (by kernel_rfl) (by kernel_rfl) (by kernel_rfl) (by kernel_rfl) (by kernel_rfl) ?_;intro K hK;go_big_quiet_op;go_big_quiet_on
            refine Stg.takeX (Stg.Keep.rel _) 11 _ rfl (by kernel_rfl) (by kernel_rfl) (by kernel_rfl) (by kernel_rfl) (by kernel_rfl) ?_;intro K hK;go_big_quiet_op;go_big_quiet_on
            refine Stg.endX (by kernel_rfl) ?_
            go_wp2_with fail
            go_meet
            exact⟨Cq,Cl,Da,Cp,_,rfl,rfl,rj,by simp[Fam.set],by simp[Fam.set],fun ix h1 h2 h3=>by simp[Fam.set,h1,h2,h3],uz⟩
          · skip
            refine Stg.stepX 8 _ rfl (by kernel_rfl) (by kernel_rfl) (by kernel_rfl) ?_;intro K hK;go_simp
            obtain⟨nk,lx⟩:∃wl,(az.alloc (.cells #[.int .i32 r.1] 21)).drew=wl:=⟨_,rfl⟩
            have l6:Below az.drew.heap.size az.drew nk:=by rw[←lx];exact (Zd _ az.drew).alloc (Zb _) _
            have jh:Fam nk (w1.heap.size+3) (Fam.set f9 (9,2) ⟨21,1,.slice (some ⟨az.heap.size,0,none⟩) 1 1,1,[.int .i32 r.1]⟩):=by rw[←lx];exact j9.box af (9,2) [.int .i32 r.1] 21 1 1 rfl (by decide)
            rw[lx]
            refine hK _ _ (Stg.Keep.of_below l6 (by rintro q (rfl|rfl);exact Ze bq (Zb _);exact Ze br (Zb _))) ?_
            intro A' aa;subst aa
            have j0:az.heap.size≤nk.heap.size:=Zh (Zb _) l6.size
            have xm:Below (w1.heap.size+3) az nk:=(mv.mono af).trans (l6.mono (Zh af (Zb _)))
            refine Stg.one 4 (by kernel_rfl) ?_
            refine Stg.stepX 4 _ rfl (by kernel_rfl) (by kernel_rfl) (by kernel_rfl) ?_;intro K hK
            refine Fam.wp_append nk _ _ _ rfl jh (0,4) _ ((Fam.set_other _ _ (by intro e;cases e)).trans dm) p0 _ 4 Tryz.underlying25 ol nr n5 nx rfl Nat.one_pos rfl nk.heap.size Ad (ll-1) (c12-1) ((Ud.ints lf).drop 1) rfl xd (ku.out _ (jh.own _ _ ((Fam.set_other _ _ (by intro e;cases e)).trans ri))) gu ft gg (Zh af j0) ?_
            intro Ct ru fq o4 xz
            have cz:ru.ownsRow (w1.heap.size+3) 21 1 Ct (ni+(ll-1)) (Ud.ints (Ud.innM T Mr)++(Ud.ints lf).drop 1):=fq.own _ _ (Fam.set_same _ _ _)
            obtain⟨Cz,Dv,rfl⟩:=own_form cz
            have ux:=jh.ne (i:=(0,4)) (j:=(9,1)) (by intro e;cases e) ((Fam.set_other _ _ (by intro e;cases e)).trans dm) ((Fam.set_other _ _ (by intro e;cases e)).trans df) (b:=xb) rfl
            have vd:=jh.ne (i:=(0,4)) (j:=(9,0)) (by intro e;cases e) ((Fam.set_other _ _ (by intro e;cases e)).trans dm) ((Fam.set_other _ _ (by intro e;cases e)).trans dk) (b:=wr.heap.size) rfl
            refine hK _ _ (Stg.Keep.of_grown xz (by rintro q (rfl|rfl);exact⟨Ze bq j0,Z6 ux⟩;exact⟨Ze br j0,Z6 vd⟩)) ?_
            intro A' aa;simp only[Act.put,Zq,ZC,ZA]at aa;subst aa
            have iy:az.heap.size≤ru.heap.size:=Zh j0 o4.size
            have ul:Below (w1.heap.size+3) az ru:=xm.trans o4
            refine Stg.one 9 (by kernel_rfl) ?_
            refine Stg.stepX 9 _ rfl (by kernel_rfl) (by kernel_rfl) (by kernel_rfl) ?_;intro K hK
            refine Fam.wp_append ru _ _ _ rfl fq (0,6) _ ((Fam.set_other _ _ (by intro e;cases e)).trans ((Fam.set_other _ _ (by intro e;cases e)).trans dt)) p0 _ 4 Tryz.underlying25 ol nr n5 nx rfl Nat.one_pos rfl ru.heap.size (some ⟨az.heap.size,0,none⟩) 1 1 [.int .i32 r.1] rfl rfl (Sl.of_own (fq.own _ _ ((Fam.set_other _ _ (by intro e;cases e)).trans (Fam.set_same _ _ _)))) (by simp[Value.oneCell']) gf fg (Zh af iy) ?_
            intro Dm uq r7 rf yp
            have pu:uq.ownsRow (w1.heap.size+3) 21 1 Dm (Ml+1) (Ud.ints (Ud.mpdM Mr)++[.int .i32 r.1]):=r7.own _ _ (Fam.set_same _ _ _)
            obtain⟨Dd,Dq,rfl⟩:=own_form pu
            have wh:=fq.ne (i:=(0,6)) (j:=(9,1)) (by intro e;cases e) ((Fam.set_other _ _ (by intro e;cases e)).trans ((Fam.set_other _ _ (by intro e;cases e)).trans dt)) ((Fam.set_other _ _ (by intro e;cases e)).trans ((Fam.set_other _ _ (by intro e;cases e)).trans df)) (b:=xb) rfl
            have vq:=fq.ne (i:=(0,6)) (j:=(9,0)) (by intro e;cases e) ((Fam.set_other _ _ (by intro e;cases e)).trans ((Fam.set_other _ _ (by intro e;cases e)).trans dt)) ((Fam.set_other _ _ (by intro e;cases e)).trans ((Fam.set_other _ _ (by intro e;cases e)).trans dk)) (b:=wr.heap.size) rfl
            refine hK _ _ (Stg.Keep.of_grown yp (by rintro q (rfl|rfl);exact⟨Ze bq iy,Z6 wh⟩;exact⟨Ze br iy,Z6 vq⟩)) ?_
            intro A' aa;simp only[Act.put,Zq,ZC,ZA]at aa;subst aa
            have Cu:az.heap.size≤uq.heap.size:=Zh iy rf.size
            have yk:Below (w1.heap.size+3) az uq:=ul.trans rf
            refine Stg.takeX (Stg.Keep.rel _) 10 _ rfl (by kernel_rfl) (by kernel_rfl) (by kernel_rfl) (by kernel_rfl) (by kernel_rfl) ?_;intro K hK;go_big_quiet_op;go_big_quiet_on
            refine Stg.takeX (Stg.Keep.rel _) 11 _ rfl (by kernel_rfl) (by kernel_rfl) (by kernel_rfl) (by kernel_rfl) (by kernel_rfl) ?_;intro K hK;go_big_quiet_op;go_big_quiet_on
            refine Stg.endX (by kernel_rfl) ?_
            go_wp2_with fail
            go_meet
            exact⟨Cz,Dv,Dd,Dq,_,rfl,rfl,r7,by simp[Fam.set],by simp[Fam.set],fun ix h1 h2 h3=>by simp[Fam.set,h1,h2,h3],yk⟩
         case rest =>
          obtain⟨ng,nn,np,ob,f10,rfl,rfl,kn,ou,r4,bz,ec⟩:=hcut
          obtain⟨bt,rfl⟩:∃q:World,q=wc:=⟨_,rfl⟩
          have cx:=Za kn
          have mj:=Za (Bk.out.below' ec (by omega))
          have pn:=Za (y2.out.same (ec.block _ (by omega)))
          have rq:=Za (Bn.out.same (ec.block _ (by omega)))
          have oz:=Za (ij.out.trans (ec.mono (by omega)))
          have b9:=Zh af ec.size
          have ry:∀ix:Ud.Ix,ix≠(0,4)→ix≠(0,6)→ix≠(9,2)→ix≠(1,hd)→ix≠(0,2)→ix≠(0,3)→ix≠(3,(Ml:Int))→ix≠(4,(Ml:Int))→ix≠(9,1)→f10 ix=f4 ix:=fun ix k1 k2 k3 k4 k5 k6 k7 k8 k9=>by rw[bz _ k1 k2 k3,td _ k4 k5 k6 k7 k8 k9]
          have dl:=Za ry
          have pv:=Za bz
          have re:=Za ou
          have q6:=Za r4
          have p8:=Za ((bz (9,1) (by intro e;cases e) (by intro e;cases e) (by intro e;cases e)).trans df)
          have xv:=Za ((bz (9,0) (by intro e;cases e) (by intro e;cases e) (by intro e;cases e)).trans dk)
          have wo:=Za ((bz (3,(Ml:Int)) (by intro e;cases e) (by intro e;cases e) (by intro e;cases e)).trans zf)
          have Cf:=Za ((bz (4,(Ml:Int)) (by intro e;cases e) (by intro e;cases e) (by intro e;cases e)).trans ri)
          have x5:=Za ((bz (1,hd) (by intro e;cases e) (by intro e;cases e) (by intro e;cases e)).trans vg.out)
          have B5:=Za ((bz (0,2) (by intro e;cases e) (by intro e;cases e) (by intro e;cases e)).trans ((ir.out (0,2) (by intro e;cases e)).trans Bt.out))
          have B4:=Za ((bz (0,3) (by intro e;cases e) (by intro e;cases e) (by intro e;cases e)).trans ((ir.out (0,3) (by intro e;cases e)).trans ((ez.out (0,3) (by intro e;cases e)).trans Af.out)))
          have Cw:=Za nv
          have Cd:=Za iv
          have jx:bt.ownsRow (w1.heap.size+3) 81 3 (.slice (some ⟨xb,0,none⟩) 1 1) 1 [.slice (some ⟨mk,0,none⟩) ml aw,.slice (some ⟨fb,0,none⟩) ll c12,.bool pr]:=cx.out.own _ _ p8.out
          have x2:=own_cell jx (i:=2) rfl
          have x3:=(own_at jx (g:=xb) rfl).2
          have yq:=Za jx
          clear kn ou r4 bz ry ec jx td dk df zf ri dm dt ku rc Bv zu xd ft gg gf fg gu br bq ey Bk y2 Bn ij af ir vg ez Bt ib Af nv iv
          have qq:Ud.mr (T.take (j+1))=Mr++[r]:=by rw[ui.out,Ud.add_map (by rw[bk.out];exact vu),zp.out]
          have s8:=Za qq
          have kh:∀(f':Ud.Ix→Option Fam.Row) (yj:Value),(∀ix:Ud.Ix,ix.1≤5→ix≠(0,5)→f' ix=f10 ix)→f' (0,5)=some (Ud.rowV yj (Ud.secM T X (Mr++[r]))) →
           Ud.Rows T X (Kr++[r]) (Mr++[r]) f' (.slice A7 (Kl+1) c7) (.slice n8 (Kl+1) nw) (.slice r5 (Ml+1) c20) (.slice q3 (Ml+1) o1) (.slice ng (ni+(ll-1)) nn) yj (.slice np (Ml+1) ob) (ads++[(A5,c5)]) (es++[⟨some ⟨mk,0,none⟩,aw,some ⟨fb,0,none⟩,c12⟩]):=by
           intro f' yj hs h5
           refine ar.out.addM (r:=r) (a:=⟨some ⟨mk,0,none⟩,aw,some ⟨fb,0,none⟩,c12⟩) ?_ ?_ ?_ ?_ h5 ?_ ?_ ?_ ?_ (fun q=>?_) (fun q hq=>?_) (fun q hq=>?_)
           · rw[hs _ (Zz _) (by intro e;cases e),bj.out];exact B5.out
           · rw[hs _ (Zz _) (by intro e;cases e),bj.out,bk.out,sz.out,jm.out,ei.out];exact B4.out
           · rw[hs _ (Zz _) (by intro e;cases e),re.out,sz.out]
             unfold Ud.rowV Ud.ints
             rw[Zi,Cw.out,ZL,jm.out,ZO,List.map_drop]
           · rw[hs _ (Zz _) (by intro e;cases e),q6.out]
             unfold Ud.rowV Ud.ints
             rw[Zi,Cd.out,ZO];rfl
           · rw[hs _ (by show (3:Nat)≤5;decide) (by intro e;cases e),bj.out,wo.out]
             unfold Ud.rowOf
             rw[bk.out]
           · rw[hs _ (by show (4:Nat)≤5;decide) (by intro e;cases e),bj.out,Cf.out]
             unfold Ud.rowOf
             rw[sz.out,jm.out]
           · rw[hs _ (Zz _) (by intro e;cases e),dl.out _ (by intro e;cases e) (by intro e;cases e) (by intro e;cases e) (by intro e;cases e) (by intro e;cases e) (by intro e;cases e) (by intro e;cases e) (by intro e;cases e) (by intro e;cases e)]
           · rw[hs _ (Zz _) (by intro e;cases e),dl.out _ (by intro e;cases e) (by intro e;cases e) (by intro e;cases e) (by intro e;cases e) (by intro e;cases e) (by intro e;cases e) (by intro e;cases e) (by intro e;cases e) (by intro e;cases e)]
           · rw[hs _ (by show (2:Nat)≤5;decide) (by intro e;cases e),dl.out _ (by intro e;cases e) (by intro e;cases e) (by intro e;cases e) (by intro e;cases e) (by intro e;cases e) (by intro e;cases e) (by intro e;cases e) (by intro e;cases e) (by intro e;cases e)]
           · rw[bj.out]at hq
             rw[hs _ (by show (3:Nat)≤5;decide) (by intro e;cases e),dl.out _ (by intro e;cases e) (by intro e;cases e) (by intro e;cases e) (by intro e;cases e) (by intro e;cases e) (by intro e;cases e) (by intro e;simp only[YN,XP]at e;exact hq e) (by intro e;cases e) (by intro e;cases e)]
           · rw[bj.out]at hq
             rw[hs _ (by show (4:Nat)≤5;decide) (by intro e;cases e),dl.out _ (by intro e;cases e) (by intro e;cases e) (by intro e;cases e) (by intro e;cases e) (by intro e;cases e) (by intro e;cases e) (by intro e;cases e) (by intro e;simp only[YN,XP]at e;exact hq e) (by intro e;cases e)]
          have ow:f10 (0,5)=some (Ud.rowV vs (Ud.secM T X Mr)):=by rw[dl.out _ (by intro e;cases e) (by intro e;cases e) (by intro e;cases e) (by intro e;cases e) (by intro e;cases e) (by intro e;cases e) (by intro e;cases e) (by intro e;cases e) (by intro e;cases e)];exact ar.out.s
          have pd:∀f':Ud.Ix→Option Fam.Row,(∀ix:Ud.Ix,ix.1≤5→ix≠(0,5)→f' ix=f10 ix)→Ud.BegI T (Mr++[r]) f' G':=fun f' hs=>gi.out.keep fun c=>by rw[hs _ (by show (1:Nat)≤5;decide) (by intro e;cases e),pv.out _ (by intro e;cases e) (by intro e;cases e) (by intro e;cases e)]
          have qi:=Za kh
          have qy:=Za pd
          have kv:=Za ow
          clear qq kh pd ow ar cv gi dl pv re q6 B5 B4 x5
          cases pr with
          | false =>
            have hh:Ud.secM T X (Mr++[r])=Ud.secM T X Mr:=by rw[Ud.secM_app,ei.out];rfl
            have a1:Ud.Inv T X (Ud.keep (T.take (j+1))) (Ud.mr (T.take (j+1))) bt (w1.heap.size+3) (w1.heap.size+1+1) w1.heap.size (w1.heap.size+1) XA xn xc (.slice n8 (Kl+1) nw) (.slice r5 (Ml+1) c20) (.slice ng (ni+(ll-1)) nn) vs (.slice np (Ml+1) ob):=by
             rw[dx.out,s8.out]
             exact⟨f10,_,_,_,_,G',J,cx.out,mj.out,pn.out,rq.out,b9,qi.out f10 vs (fun _ _ _=>rfl) (by rw[hh];exact kv.out),qy.out f10 (fun _ _ _=>rfl),ep.out.no ei.out⟩
            have ks:=Za a1
            clear a1 hh
            go_wp2_with fail
            exact⟨⟨j+1,_,_,_,_,_,by omega,by go_num,rfl,rfl,rfl,rfl,rfl,ks.out,oz.out⟩,by simp[intOf];omega⟩
          | true =>
            obtain⟨m0,m1,ew⟩:=Ud.prim_two xi.out iw.out.rises Dy.out ei.out
            have Cy:ml=2:=by rw[←bk.out,ew];rfl
            have xx:=lr.out.2 m0 (by rw[ew];simp)
            have wy:=lr.out.2 m1 (by rw[ew];simp)
            have ji:bt.ownsRow (w1.heap.size+3) 21 1 (.slice (some ⟨mk,0,none⟩) ml aw) ml (Ud.ints r.2.2):=cx.out.own _ _ wo.out
            have rk:=(own_at ji (g:=mk) rfl).2
            have sb:bt.ownsRow (w1.heap.size+3) 103 3 (.slice (some ⟨wr.heap.size,0,none⟩) 1 1) 1 [.int .i32 r.1,.int .i64 r.2.1,.slice a.1 ml a.2]:=cx.out.own _ _ xv.out
            have y0:bt.cell? ⟨mk,0,none⟩=some (.int .i32 m0):=own_cell ji (by rw[ew];rfl)
            have y1:bt.cell? ⟨mk,1,none⟩=some (.int .i32 m1):=own_cell ji (by rw[ew];rfl)
            have e1:=Stg.Keep.cells (s:=fun q=>q=xb∨q=w1.heap.size+1+1∨q=wr.heap.size∨q=mk) (w:=bt.drew) (mj.out.cell 6 rfl) (.inr (.inl rfl))
            have e2:=Stg.Keep.cells (s:=fun q=>q=xb∨q=w1.heap.size+1+1∨q=wr.heap.size∨q=mk) (w:=bt.drew) (own_cell yq.out (i:=0) rfl) (.inl rfl)
            have e3:=Stg.Keep.cells (s:=fun q=>q=xb∨q=w1.heap.size+1+1∨q=wr.heap.size∨q=mk) (w:=bt.drew) y0 (.inr (.inr (.inr rfl)))
            have e4:=Stg.Keep.cells (s:=fun q=>q=xb∨q=w1.heap.size+1+1∨q=wr.heap.size∨q=mk) (w:=bt.drew) y1 (.inr (.inr (.inr rfl)))
            have e5:=Stg.Keep.cells (s:=fun q=>q=xb∨q=w1.heap.size+1+1∨q=wr.heap.size∨q=mk) (w:=bt.drew) (own_cell sb (i:=0) rfl) (.inr (.inr (.inl rfl)))
            have yz:(0:Int)<ml:=by omega
            have D2:(1:Int)<ml:=by omega
            obtain⟨ef,J',lq,qf,Ah,A8,eh⟩:=Ud.putP (w:=bt.drew) (rq.out.same rfl) xx wy (.int .i32 r.1)
            clear sb ji y0 y1
            go_wp2_with fail
            refine Stg.wp_region (Stg.Keep fun q=>q=xb∨q=w1.heap.size+1+1∨q=wr.heap.size∨q=mk) (Stg.Keep.rel _) (by kernel_rfl) (by kernel_rfl) (by decide +kernel) ?_
            iterate 3 (refine Stg.readW (by kernel_rfl) (by kernel_rfl) (by kernel_rfl) ?_;intro K hK;go_big_quiet_op;go_big_quiet_on)
            refine Stg.read 0 (by kernel_rfl) (by kernel_rfl) (by kernel_rfl) bt.drew rfl (by kernel_rfl) ?_;intro K hK;go_big_quiet_op;go_big_quiet_on
            refine Stg.readW (by kernel_rfl) (by kernel_rfl) (by kernel_rfl) ?_;intro K hK;go_big_quiet_op;go_big_quiet_on
            refine Stg.read 0 (by kernel_rfl) (by kernel_rfl) (by kernel_rfl) bt.drew rfl (by kernel_rfl) ?_;intro K hK;go_big_quiet_op;go_big_quiet_on
            refine Stg.readW (by kernel_rfl) (by kernel_rfl) (by kernel_rfl) ?_;intro K hK;go_big_quiet_op;go_big_quiet_on
            refine Stg.read 0 (by kernel_rfl) (by kernel_rfl) (by kernel_rfl) bt.drew rfl (by kernel_rfl) ?_;intro K hK;go_big_quiet_op;go_big_quiet_on
            refine Stg.readW (by kernel_rfl) (by kernel_rfl) (by kernel_rfl) ?_;intro K hK;go_big_quiet_op;go_big_quiet_on
            refine Stg.read 0 (by kernel_rfl) (by kernel_rfl) (by kernel_rfl) bt.drew rfl (by kernel_rfl) ?_;intro K hK;go_big_quiet_op;go_big_quiet_on
            refine Stg.readW (by kernel_rfl) (by kernel_rfl) (by kernel_rfl) ?_;intro K hK;go_big_quiet_op;go_big_quiet_on
            refine Stg.read 0 (by kernel_rfl) (by kernel_rfl) (by kernel_rfl) bt.drew rfl (by kernel_rfl) ?_;intro K hK;go_big_quiet_op;go_big_quiet_on
            iterate 2 (refine Stg.readW (by kernel_rfl) (by kernel_rfl) (by kernel_rfl) ?_;intro K hK;go_big_quiet_op;go_big_quiet_on)
            refine Stg.read 0 (by kernel_rfl) (by kernel_rfl) (by kernel_rfl) bt.drew rfl (by kernel_rfl) ?_;intro K hK;go_big_quiet_op;go_big_quiet_on
            refine Stg.last bt.drew (by kernel_rfl) (by kernel_rfl) (by kernel_rfl) rfl (by kernel_rfl) ?_;intro K hK;go_simp
            refine hK _ _ ?_
            intro A' aa;subst aa
            refine Stg.nil ef rfl ?_
            have hbd:Below bt.heap.size bt bt.drew:=(Zd _ _).drew
            have iu:Hid (Fam ef (w1.heap.size+3) f10):=Za ((cx.out.below hbd).other eh (by omega))
            have xw:=Za ((mj.out.below hbd).grown eh (by simp only[XQ,Zg];omega))
            have uw:=Za ((pn.out.below hbd).grown eh (by simp only[XQ,Zg];omega))
            have um:=Za qf
            have vx:Hid (Below w1.heap.size w1 ef):=Za (oz.out.trans ((hbd.mono (by omega)).trans (grown_belowB eh (Zh (by omega) b9) (by omega))))
            have jw:=Zh b9 eh.size
            have p9:Hid (Ud.JoiI T X (Mr++[r]) J'):=Za (ep.out.add ei.out (by rw[ew];exact Ah) (by rw[ew];exact A8))
            have hh:Ud.secM T X (Mr++[r])=Ud.secM T X Mr++[m1]:=by rw[Ud.secM_app,ei.out,Zv rfl,ew];rfl
            have vh:=Za hh
            have mh:ef.ownsRow (w1.heap.size+3) 81 3 (.slice (some ⟨xb,0,none⟩) 1 1) 1 [.slice (some ⟨mk,0,none⟩) ml aw,.slice (some ⟨fb,0,none⟩) ll c12,.bool true]:=iu.out.own _ _ p8.out
            have l9:ef.ownsRow (w1.heap.size+3) 21 1 (.slice (some ⟨mk,0,none⟩) ml aw) ml (Ud.ints r.2.2):=iu.out.own _ _ wo.out
            obtain⟨ns,nh⟩:∃k,(Ud.secM T X Mr).length=k:=⟨_,rfl⟩
            have Cx:ns≤10000:=by rw[←nh];unfold Ud.secM Ud.prsM;rw[List.length_map];exact Nat.le_trans (List.length_filter_le _ _) (by rw[bj.out];exact p2)
            have kr:ef.ownsRow (w1.heap.size+3) 21 1 vs (Ud.secM T X Mr).length (Ud.ints (Ud.secM T X Mr)):=iu.out.own _ _ kv.out
            rw[nh]at kr
            obtain⟨As,cs,rfl⟩:=own_form kr
            have Au:f10 (0,5)=some ⟨21,1,.slice As ns cs,ns,Ud.ints (Ud.secM T X Mr)⟩:=by rw[kv.out];unfold Ud.rowV;rw[nh]
            have x0:=own_cell mh (i:=0) rfl
            have y1:ef.cell? ⟨mk,1,none⟩=some (.int .i32 m1):=own_cell l9 (by rw[ew];rfl)
            have x4:=(own_at mh (g:=xb) rfl).2
            have y4:=(own_at l9 (g:=mk) rfl).2
            obtain⟨lu,j1⟩:∃lu,ef.alloc (.cells #[.int .i32 m1] 21)=lu:=⟨_,rfl⟩
            have jy:Below ef.heap.size ef lu:=by rw[←j1];exact (Zd _ _).alloc (Zb _) _
            have kd:Sl lu lu.heap.size (some ⟨ef.heap.size,0,none⟩) [.int .i32 m1]:=by rw[←j1];exact (Rw.At.new ef 21 [.int .i32 m1]).slt.sl
            have p3:=Za (iu.out.below jy)
            have jz:=Za jy
            have yi:=Za j1
            have qo:=Za kd
            have dv:=Zh jw jy.size
            have C8:=Za nh
            clear lq qf Ah A8 eh hbd hh mh l9 kr nh jy j1 kd e1 e2 e3 e4 e5 x2 x3 rk
            go_upto_region 23 with (first|(at_builtin;rw[yi.out];refine Fam.wpList_append lu rfl _ _ _ rfl p3.out (0,5) _ Au p0 _ 4 Tryz.underlying25 ol nr n5 nx rfl Nat.one_pos rfl lu.heap.size (some ⟨ef.heap.size,0,none⟩) 1 1 [.int .i32 m1] rfl rfl qo.out (by simp[Value.oneCell']) (by simp only[maxLen];omega) (by simp only;omega) dv ?_;intro ye xl mn nf jn)|fail)
            have ag:=fun b (hb:b<w1.heap.size+3)=>p3.out.low Au (b:=b) hb
            have fz:xl.ownsRow (w1.heap.size+3) 21 1 ye (ns+1) (Ud.ints (Ud.secM T X Mr)++[.int .i32 m1]):=mn.own _ _ (Fam.set_same _ _ _)
            have a1:Ud.Inv T X (Ud.keep (T.take (j+1))) (Ud.mr (T.take (j+1))) xl (w1.heap.size+3) (w1.heap.size+1+1) w1.heap.size (w1.heap.size+1) XA xn xc (.slice n8 (Kl+1) nw) (.slice r5 (Ml+1) c20) (.slice ng (ni+(ll-1)) nn) ye (.slice np (Ml+1) ob):=by
             rw[dx.out,s8.out]
             refine⟨_,_,_,_,_,G',J',mn,(xw.out.below jz.out).grown jn (ag _ (by omega)),(uw.out.below jz.out).grown jn (Z6 (ag _ (by omega))),(um.out.below jz.out).grown jn (Z6 (ag _ (by omega))),Zh dv nf.size,qi.out _ ye (fun ix _ h=>Fam.set_other _ _ h) ?_,qy.out _ (fun ix _ h=>Fam.set_other _ _ h),p9.out⟩
             rw[Fam.set_same,vh.out]
             unfold Ud.rowV Ud.ints
             rw[Zi,C8.out,ZO];rfl
            have ks:=Za a1
            have xo:Hid (Below w1.heap.size w1 xl):=Za (vx.out.trans ((jz.out.mono (by omega)).trans (nf.mono (by omega))))
            obtain⟨D7,D4,rfl⟩:=own_form fz
            clear a1 mn nf jn ag fz x0 y1
            go_wp2_with fail
            exact⟨⟨j+1,_,_,_,_,_,by omega,by go_num,rfl,rfl,rfl,rfl,rfl,ks.out,xo.out⟩,by simp[intOf];omega⟩
      · have sr:ml=0:=by have:=beq_iff_eq.1 hz;omega
        have o0:r.2.2=[]:=ZI (by rw[bk.out];exact sr)
        have qq:Ud.mr (T.take (j+1))=Mr:=by rw[ui.out,Ud.add_plain o0,zp.out]
        have a1:Ud.Inv T X (Ud.keep (T.take (j+1))) (Ud.mr (T.take (j+1))) ao (w1.heap.size+3) (w1.heap.size+1+1) w1.heap.size (w1.heap.size+1) XA xn xc (.slice n8 (Kl+1) nw) vp vi vs vm:=by
         rw[dx.out,qq]
         exact⟨f4,_,ve,_,es,G,J,qh.out,sq.out,pz.out,rp.out,ah,ar.out,cv.out,ep.out⟩
        have ks:=Za a1
        clear a1 qq o0 sr
        go_wp2_with fail
        exact⟨⟨j+1,_,_,_,_,_,by omega,by go_num,rfl,rfl,rfl,rfl,rfl,ks.out,ay.out⟩,by simp[intOf];omega⟩
  · obtain rfl:n=j:=by omega
    have yy:T.take n=T:=Zj (by rw[HN.out];exact Zb _)
    obtain⟨f,vT,ve,ads,es,G,J,hF,hD,hM,hJ,bi,ax,cw,cu⟩:=du.out
    rw[yy]at ax cw cu
    obtain⟨Kr,ik⟩:∃K,Ud.keep T=K:=⟨_,rfl⟩
    obtain⟨Mr,og⟩:∃M,Ud.mr T=M:=⟨_,rfl⟩
    have Bc:Kr.length≤10000:=by rw[←ik];unfold Ud.keep;exact Nat.le_trans (List.length_filter_le _ _) (by rw[HN.out];exact A9)
    have tu:Mr.length≤10000:=by rw[←og];unfold Ud.mr;exact Nat.le_trans (List.length_filter_le _ _) (by rw[HN.out];exact A9)
    have hcK:Pg.cellsOk (Ud.clK Kr):=by
     intro x hx
     unfold Ud.clK at hx
     obtain⟨r,hr,rfl⟩:=List.mem_map.1 hx
     rw[←ik]at hr
     have B3:=(Ud.mem_keep.1 hr).1
     have h1:=(ud.out r B3).1
     have h2:=j8.out r B3
     exact⟨h1.1,h1.2,h2.2.1,by have:=h2.2.2.1;show r.2.1≤65535;omega⟩
    have Ba:Pg.cellsOk (Ud.plG 0 Mr):=by
     intro x hx
     obtain⟨q,hq⟩:=List.mem_iff_getElem?.1 hx
     rw[Ud.plG_get]at hq
     cases hr:Mr[q]? with
     | none=>rw[hr]at hq;cases hq
     | some r =>
       rw[hr,Zn,Zg]at hq
       subst hq
       have hl:=(List.getElem?_eq_some_iff.1 hr).1
       have zk:=Zk hr
       rw[←og]at zk
       have h1:=(ud.out r (Ud.mem_mr.1 zk).1).1
       exact⟨h1.1,h1.2,by show (0:Int)≤((0+q:Nat):Int)+1;omega,by show ((0+q:Nat):Int)+1≤65535;omega⟩
    rw[ik,og]at ax
    rw[og]at cw cu
    have od:wr.ownsRow (w1.heap.size+3) 178 2 vc Kr.length (Pg.fl (Ud.clK Kr)):=hF.own _ _ ax.c
    obtain⟨Ac,cc,rfl⟩:=own_form od
    have nj:wr.ownsRow (w1.heap.size+3) 178 2 vp Mr.length (Pg.fl (Ud.plG 0 Mr)):=hF.own _ _ ax.p
    obtain⟨Ap,cp,rfl⟩:=own_form nj
    have qx:=fun W (hW:Below wr.heap.size wr W)=>Pg.new_lo Ac Kr.length cc (Ud.clK Kr) W (by unfold Ud.clK;rw[List.length_map]) hcK ((Sl.of_own od).below hW hW.size) (by simp only[maxLen];omega)
    have ka:(Ud.plG 0 Mr).length=Mr.length:=by
     have h1:=Z5 List.length (YU (f:=fun (x:Int × Int)=>x.1) (l:=Ud.plG 0 Mr) fun x _=>rfl)
     have:∀(l:List Rw.Row) (k:Nat),(Ud.plG k l).length=l.length:=by
      intro l
      induction l with
      | nil=>intro k;rfl
      | cons r l ih=>intro k;simp[Ud.plG,ih]
     exact this _ _
    have o5:=fun W (hW:Below wr.heap.size wr W)=>Pg.new_lo Ap Mr.length cp (Ud.plG 0 Mr) W ka Ba ((Sl.of_own nj).below hW hW.size) (by simp only[maxLen];omega)
    have q5:=Za qx
    have qc:=Za o5
    have HF:=Za hF
    have HD:=Za hD
    have HM:=Za hM
    have HJ:=Za hJ
    have ai:=Za ax
    have jq:=Za cw
    have ep:=Za cu
    have ym:=Za ik
    have s8:=Za og
    have s6:=hD.lt
    clear qx o5 hF hD hM hJ ax cw cu ik og od nj hcK Ba ka yy mf bn
    go_wp2_with fail
    refine (q5.out wr (Zd _ _)).mono ?_
    rintro e wp1 ⟨pc,rfl,yt,qt⟩
    have yl:=yt
    obtain⟨gc,D3,Eb,rfl,_⟩:=yl
    have Bx:=Za yt
    have e8:=Za qt
    clear yt qt
    go_wp2_with fail
    refine (qc.out wp1 e8.out).mono ?_
    rintro e wp2 ⟨pp,rfl,ya,kz⟩
    have xf:=ya
    obtain⟨gp,D6,Ea,rfl,_⟩:=xf
    have Az:=Za ya
    have xp:=Za kz
    have kw:=Za (e8.out.trans (kz.mono e8.out.size))
    clear ya kz
    have nc:=HD.out.below kw.out
    have u0:=nc.cell 2 rfl
    have u1:=nc.cell 3 rfl
    have u2:=nc.frozen 2
    have u3:=nc.frozen 3
    have u4:=nc.lt
    obtain⟨c8,i7⟩:∃c8,(wp2.setCell ⟨w1.heap.size+1+1,2,none⟩ (.pointer (some ⟨gc,0,none⟩))).setCell ⟨w1.heap.size+1+1,3,none⟩ (.pointer (some ⟨gp,0,none⟩))=c8:=⟨_,rfl⟩
    have xk:=Za i7
    have cj:wp2.grownBy c8 (some (w1.heap.size+1+1)):=by rw[←i7];exact Rw.grown_trans (Rw.grown_set _ _ _) (Rw.grown_set _ _ _)
    have vy:Hid (Rw.At c8 (w1.heap.size+1+1) 128 [vT,.slice XA xn xc,.pointer (some ⟨gc,0,none⟩),.pointer (some ⟨gp,0,none⟩),ve,.map (some w1.heap.size),.map (some (w1.heap.size+1)),.slice none 0 0,.slice none 0 0,.slice none 0 0]):=Za (by rw[←i7];exact (nc.set 2 _).set 3 _)
    have Cg:=Za cj
    have jg:=Za ((HF.out.below kw.out).other cj (by omega))
    have wu:=Za ((HM.out.below kw.out).grown cj (by simp only[XQ,Zg];omega))
    have x7:=Za ((HJ.out.below kw.out).grown cj (by simp only[XQ,Zg];omega))
    have sf:=Za (((Pg.IsL.below Bx.out xp.out).grown cj s6))
    have o8:=Za ((Pg.IsL.grown Az.out cj (Ze s6 e8.out.size)))
    have ct:wr.heap.size≤c8.heap.size:=Zh kw.out.size cj.size
    have jc:Hid (Below w1.heap.size w1 c8):=Za (ch.out.trans ((kw.out.mono ch.out.size).trans (grown_belowB cj (Zh ch.out.size kw.out.size) (by omega))))
    have lb:c8.ownsRow (w1.heap.size+3) 21 1 vi (Ud.innM T Mr).length (Ud.ints (Ud.innM T Mr)):=jg.out.own _ _ ai.out.i
    have kr:c8.ownsRow (w1.heap.size+3) 21 1 vs (Ud.secM T X Mr).length (Ud.ints (Ud.secM T X Mr)):=jg.out.own _ _ ai.out.s
    have oc:c8.ownsRow (w1.heap.size+3) 21 1 vm (Ud.mpdM Mr).length (Ud.ints (Ud.mpdM Mr)):=jg.out.own _ _ ai.out.m
    obtain⟨Ai,ci,rfl⟩:=own_form lb
    obtain⟨As,cs,rfl⟩:=own_form kr
    obtain⟨Am,cm,rfl⟩:=own_form oc
    have nv:=Ud.inn_len (T:=T) Ud.full_le Mr
    have nh:(Ud.secM T X Mr).length≤10000:=by unfold Ud.secM Ud.prsM;rw[List.length_map];exact Nat.le_trans (List.length_filter_le _ _) tu
    have D0:(Ud.mpdM Mr).length≤10000:=by unfold Ud.mpdM;rw[List.length_map];exact tu
    have Cs:=Za fun W (hW:Below c8.heap.size c8 W)=>C.chars_any Ai (Ud.innM T Mr).length ci W.heap.size (Ud.innM T Mr) W rfl (by omega) (Zb _) ((Sl.of_own lb).below hW hW.size)
    have Dl:=Za fun W (hW:Below c8.heap.size c8 W)=>C.chars_any As (Ud.secM T X Mr).length cs W.heap.size (Ud.secM T X Mr) W rfl (by omega) (Zb _) ((Sl.of_own kr).below hW hW.size)
    have Cm:=Za fun W (hW:Below c8.heap.size c8 W)=>C.chars_any Am (Ud.mpdM Mr).length cm W.heap.size (Ud.mpdM Mr) W rfl (by omega) (Zb _) ((Sl.of_own oc).below hW hW.size)
    clear i7
    go_upto_region 25 with (fail)
    rw[xk.out]
    clear cj nc u0 u1 u2 u3 u4 lb kr oc Bx Az q5 qc HD HM HJ HF
    go_wp2_with fail
    refine (Cs.out c8 (Zd _ _)).mono ?_
    rintro e Ci ⟨A4,c4,rfl,Bu,qu⟩
    have zv:=Za Bu
    have h4:=Za qu
    clear Bu qu
    go_wp2_with fail
    refine (Dl.out Ci h4.out).mono ?_
    rintro e w32 ⟨A5,c5,rfl,Ay,mz⟩
    have Ao:=Za Ay
    have qj:=Za mz
    have gx:=Za (h4.out.trans (mz.mono h4.out.size))
    clear Ay mz
    go_wp2_with fail
    refine (Cm.out w32 gx.out).mono ?_
    rintro e uh ⟨A6,c6,rfl,Bs,lh⟩
    have A2:=Za Bs
    have ke:=Za lh
    have b5:=Za (gx.out.trans (lh.mono gx.out.size))
    clear Bs lh
    have cd:=vy.out.below b5.out
    have q7:=cd.cell 7 rfl
    have q8:=cd.cell 8 rfl
    have q9:=cd.cell 9 rfl
    have f7:=cd.frozen 7
    have f8:=cd.frozen 8
    have f9:=cd.frozen 9
    have ql:=cd.lt
    obtain⟨ig,ju⟩:∃ig,((uh.setCell ⟨w1.heap.size+1+1,7,none⟩ (.slice A4 (C.chars (Ud.innM T Mr)).length c4)).setCell ⟨w1.heap.size+1+1,8,none⟩ (.slice A5 (C.chars (Ud.secM T X Mr)).length c5)).setCell ⟨w1.heap.size+1+1,9,none⟩ (.slice A6 (C.chars (Ud.mpdM Mr)).length c6)=ig:=⟨_,rfl⟩
    have yr:=Za ju
    have oq:uh.grownBy ig (some (w1.heap.size+1+1)):=by rw[←ju];exact Rw.grown_trans (Rw.grown_trans (Rw.grown_set _ _ _) (Rw.grown_set _ _ _)) (Rw.grown_set _ _ _)
    have vt:Hid (Rw.At ig (w1.heap.size+1+1) 128 [vT,.slice XA xn xc,.pointer (some ⟨gc,0,none⟩),.pointer (some ⟨gp,0,none⟩),ve,.map (some w1.heap.size),.map (some (w1.heap.size+1)),.slice A4 (C.chars (Ud.innM T Mr)).length c4,.slice A5 (C.chars (Ud.secM T X Mr)).length c5,.slice A6 (C.chars (Ud.mpdM Mr)).length c6]):=Za (by rw[←ju];exact ((cd.set 7 _).set 8 _).set 9 _)
    have b7:=Za oq
    clear ju oq
    go_upto_region 26 with (fail)
    rw[yr.out]
    clear q7 q8 q9 f7 f8 f9 ql cd
    go_wp2_with fail
    go_ret2
    refine⟨.pointer (some ⟨w1.heap.size+1+1,0,none⟩),rfl,⟨?_⟩,?_⟩
    · have hk:=ym.out
      have hm:=s8.out
      subst hk;subst hm
      have et:=(jg.out.below b5.out).other b7.out (by omega)
      have qm:ig.ownsRow (w1.heap.size+3) 103 3 vT (Ud.keep T).length (Rw.fl (Ud.keep T) ads):=et.own _ _ ai.out.t
      have qa:ig.ownsRow (w1.heap.size+3) 81 3 ve (Ud.mr T).length (Ud.flE T X (Ud.mr T) es):=et.own _ _ ai.out.e
      obtain⟨A0,c0,rfl⟩:=own_form qm
      obtain⟨A3,c3,rfl⟩:=own_form qa
      have hX:=B9.out
      subst hX
      have e1:Ud.inn T T=Ud.innM T (Ud.mr T):=rfl
      have e2:Ud.sec T (C.mem S) T=Ud.secM T (C.mem S) (Ud.mr T):=rfl
      have e3:Ud.mpd T=Ud.mpdM (Ud.mr T):=rfl
      have e4:Ud.cl T=Ud.clK (Ud.keep T):=rfl
      have e5:Ud.pl T=Ud.plG 0 (Ud.mr T):=rfl
      have e6:∀q,Ud.beg T T q=Ud.begM T (Ud.mr T) q:=fun _=>rfl
      have e7:∀q q',Ud.joi T (C.mem S) T q q'=Ud.joiM T (C.mem S) (Ud.mr T) q q':=fun _ _=>rfl
      have x8:Below (w1.heap.size) uh ig:=grown_belowB b7.out (Zh (Zh ch.out.size ct) b5.out.size) (by omega)
      have oy:Below w1.heap.size w1 ig:=jc.out.trans ((b5.out.mono jc.out.size).trans x8)
      refine⟨w1.heap.size+1+1,A0,c0,XA,xc,Value.pointer (some ⟨gc,0,none⟩),Value.pointer (some ⟨gp,0,none⟩),A3,c3,w1.heap.size,w1.heap.size+1,A4,c4,A5,c5,A6,c6,es,rfl,?_,?_,?_,?_,?_,?_,?_,?_,?_,?_,?_⟩
      · rw[C1.out,e1,e2,e3];exact vt.out
      · exact⟨ads,ai.out.la,Sl.of_own qm,fun i r a h1 h2=>Sl.of_own (et.own _ _ (ai.out.rm i r a h1 h2))⟩
      · exact (Aj.out.below oy oy.size)
      · rw[e4];exact (Pg.IsL.grown (Pg.IsL.below sf.out b5.out) b7.out s6).is
      · rw[e5];exact (Pg.IsL.grown (Pg.IsL.below o8.out b5.out) b7.out (Ze s6 e8.out.size)).is
      · exact⟨ai.out.le,Sl.of_own qa,fun i r a h1 h2=>⟨Sl.of_own (et.own _ _ (ai.out.em i r a h1 h2).1),Sl.of_own (et.own _ _ (ai.out.em i r a h1 h2).2)⟩⟩
      · refine⟨G,(wu.out.below b5.out).grown b7.out (by simp only[XQ,Zg];omega),fun q=>?_⟩
        rw[e6 q]
        rcases jq.out q with h|⟨v,h1,h2⟩
        · exact .inl h
        · have ho:ig.ownsRow (w1.heap.size+3) 21 1 v (Ud.begM T (Ud.mr T) q).length (Ud.ints (Ud.begM T (Ud.mr T) q)):=et.own _ _ h2
          obtain⟨Aq,cq,rfl⟩:=own_form ho
          exact .inr ⟨Aq,cq,h1,Sl.of_own ho⟩
      · exact⟨J,(x7.out.below b5.out).grown b7.out (by simp only[XQ,Zg];omega),fun q q'=>by rw[e7];exact ep.out q q'⟩
      · rw[e1];exact Sl.of_own ((own_mono (own_below (own_below zv.out qj.out (Zb _)) ke.out (Zb _)) (Zh bi ct)).kept b7.out (.inr fun e=>by have:=(own_at zv.out e).1;omega))
      · rw[e2];exact Sl.of_own ((own_mono (own_below Ao.out ke.out (Zb _)) (Zh bi (Zh ct h4.out.size))).kept b7.out (.inr fun e=>by have:=(own_at Ao.out e).1;have:=h4.out.size;omega))
      · rw[e3];exact Sl.of_own ((own_mono A2.out (Zh bi (Zh ct gx.out.size))).kept b7.out (.inr fun e=>by have:=(own_at A2.out e).1;have:=gx.out.size;omega))
    · have x8:Below (w1.heap.size) uh ig:=grown_belowB b7.out (Zh (Zh ch.out.size ct) b5.out.size) (by omega)
      exact Br.out.trans ((jc.out.trans ((b5.out.mono jc.out.size).trans x8)).mono Br.out.size)
end Go.Proofs.YtbeakahjbkdeiaaGreatDoor
