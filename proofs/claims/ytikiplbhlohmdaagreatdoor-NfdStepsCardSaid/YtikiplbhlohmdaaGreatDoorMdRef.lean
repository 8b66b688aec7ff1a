/- order.Of, by walking its text. -/
import Derived.Test.YtikiplbhlohmdaaGreatDoorOrWalk
set_option linter.unusedVariables false
set_option linter.unusedSimpArgs false
namespace Go.Proofs.YtikiplbhlohmdaaGreatDoor
open Go.RowKit
theorem Ss.At.of_own {w:World} {base g n cap:Nat} {l:List Int} (hl:l.length=n) (h:w.ownsRow base 21 1 (.slice (some ⟨g,0,none⟩) n cap) n (l.map (Value.int .i32))):Ss.At w g cap l∧base≤g∧n≤cap∧cap≤maxLen:=by
 rcases h.2 with ⟨hv,_⟩|⟨g',ae,aa,hv,hg,hb,h1,h2,h3,h4⟩
 · cases hv
 · simp only[Z3,Zi,YO,YH,X0]at hv
   obtain⟨rfl,rfl⟩:=hv
   refine⟨⟨aa.toList.drop n,?_,?_⟩,hg,h1,h2⟩
   · have e:aa.toList.length=aa.size:=XO
     rw[ZK,e,h3,hl]
     omega
   · unfold Rw.At
     rw[Xe]at h4
     rw[←h4,ZG]
     simpa using hb
theorem Ss.At.own {w:World} {base g n cap:Nat} {Z:List Int} (h:Ss.At w g cap Z) (hl:Z.length=n) (hb:base≤g) (hc:n≤cap) (hm:cap≤maxLen):w.ownsRow base 21 1 (.slice (some ⟨g,0,none⟩) n cap) n (Z.map (Value.int .i32)):=by
 obtain⟨R,hs,ha⟩:=h
 refine⟨by rw[Zg,hl,Xe],.inr ⟨g,cap,_,rfl,hb,ha,hc,hm,?_,?_⟩⟩
 · simp
   omega
 · rw[Xe]
   simp[hl]
set_option maxRecDepth 100000 in
set_option maxHeartbeats 8000000 in
theorem Or.of_any (v:Value) (T:List Rw.Row) (S:List Int) (A:Option Addr) (n c:Nat) (l:List Int) (w:World) (ok:Ud.Ok T S) (h:Ud.Is w v T S) (hl:l.length=n) (hn:n≤100000) (hA:Sl w w.heap.size A (l.map (Value.int .i32))) (bc:∀bt cd k N,(∀(args:Array Value) (w:World),(callFunc bt args).run Tryz.prog w=.ok (.enter bt args) w)→Ss.SymOk bt cd k N) :
 Calls Tryz.prog 43 #[v,.slice A n c] w (Md.RetOwn (Or.of (Md.cls T) l) w):=by
 have a6:Below w.heap.size w (w.alloc (.cells #[v] 29)):=(Zd _ _).alloc (Zb _) _
 obtain⟨wa,bg⟩:∃wa,w.alloc (.cells #[v] 29)=wa:=⟨_,rfl⟩
 have cj:Rw.At wa w.heap.size 29 [v]:=by rw[←bg];exact Rw.At.new w 29 [v]
 rw[bg]at a6
 have bs:=R.clone_any A n c w.heap.size l wa hl (Zh hn (by decide)) a6.size (hA.below a6 (Zb _))
 obtain⟨pv,ck,_⟩:=h.form
 have cv:=Za bg
 have bn:=Za a6
 have b8:=Za cj
 have cf:=Za h
 have cc:=Za ok
 have HL:=Za hl
 have cw:=Za bc
 obtain⟨f,hf⟩:∃f,Md.cls T=f:=⟨_,rfl⟩
 rw[hf]
 have HF:=Za hf
 subst ck
 clear bg a6 cj h ok hl bc hA hf
 go_enter Tryz.func43,Tryz.ntmps43
 go_upto_region 1 with (fail)
 rw[cv.out]
 go_wp2_with fail
 refine bs.mono ?_
 rintro e w1 ⟨A1,c1,rfl,ai,bh⟩
 have bu:=Za (bn.out.trans (bh.mono bn.out.size))
 have bq:=Za (b8.out.below bh)
 rcases ai.2 with ⟨hv,h0⟩|⟨g,cap,c8,hv,hg,cm,k1,k2,k3,k4⟩
 · simp only[Z3]at hv
   obtain⟨rfl,rfl,rfl⟩:=hv
   have cr:l=[]:=Zy HL.out
   subst cr
   clear ai bh bs
   go_wp2_with fail
   go_loopw [7,8] (fun vi _ wr=>vi=.int .i64 0∧wr=w1) (fun _ _ _=>0)
   case atStart=>exact⟨rfl,rfl⟩
   case round =>
    obtain⟨rfl,rfl⟩:=hrel
    go_wp2_with fail
    go_ret
    exact⟨none,0,rfl,ZC _ _ _ _,bu.out⟩
 · simp only[Z3]at hv
   obtain⟨rfl,_,bo⟩:=hv
   replace bo:=bo.symm
   subst bo
   obtain⟨cg,cb,ct,cx⟩:=Ss.At.of_own HL.out ai
   have cn:w.heap.size+1≤g:=Zh (show w.heap.size+1≤wa.heap.size from b8.out.lt) hg
   have br:∀W,w1.grownBy W (some g)→Below w.heap.size w W:=fun W hW=>bu.out.grown hW bu.out.size (by intro k hk;simp only[Zi]at hk;omega)
   have ah:∀W,w1.grownBy W (some g)→W.cell? ⟨w.heap.size,0,none⟩=some (.pointer (some ⟨pv,0,none⟩))∧w.heap.size<W.heap.size:=fun W hW=>by
    have:=bq.out.grown hW (by simp only[X3,Zi];omega)
    exact⟨this.cell 0 rfl,this.lt⟩
   have ap:Ss.Cmp 72 (some ⟨w.heap.size,0,none⟩) f g w1:=fun W hW x y=>by
    have:=Or.class_cmp _ T S w.heap.size x y W cc.out (cf.out.below (br W hW)) (ah W hW).1 (ah W hW).2
    rw[HF.out]at this
    exact this
   have ba:=fun (o n1 bl:Nat) (P1 L1 Q1:List Int) (W:World) (hW:w1.grownBy W (some g))=>Or.sort_any 72 (some ⟨w.heap.size,0,none⟩) f Or.enters (fun N=>cw.out _ _ _ N Or.enters) cap g o n1 bl P1 L1 Q1 W (ap.grown hW)
   have ar:=Za ba
   have b9:=Za br
   have bj:=Za ah
   have c6:=Za ap
   have bw:=Za cg
   have b4:Hid (w.heap.size≤g∧n≤cap∧cap≤maxLen):=Za ⟨Zh (by have:=bn.out.size;exact this) cb,ct,cx⟩
   clear ai bh bs cm k3 k4 k1 k2 br ah ap cg cb cn hg ba
   go_wp2_with fail
   go_loopw [7,8] (fun vi _ wr=>∃(j:Nat) (Z:List Int),vi=.int .i64 j∧Z.length=n∧j≤n+1∧((j≤n∧∃q,Or.Pre f (l.take j) q∧Z=q++l.drop j)∨(n<j∧Or.R f l Z))∧Ss.At wr g cap Z∧w1.grownBy wr (some g)) (fun vi _ _=>n+1-(intOf vi).toNat)
   case atStart=>exact⟨0,l,rfl,HL.out,by omega,.inl ⟨by omega,[],by simpa using Or.Pre.nil,by simp⟩,bw.out,Ss.grown_refl _ _⟩
   case round =>
    obtain⟨j,Z,rfl,bx,hj,ak,ae,bi⟩:=hrel
    by_cases hlt:j<n
    · rcases ak with ⟨_,q,af,rfl⟩|⟨c7,_⟩
      · have b6:q.length=j:=by rw[af.length,Zq,HL.out];omega
        have ax:=Za b6
        have a1:=Za af
        have bk:=Za ae
        have cu:=Za bi
        have jI:(j:Int)<n:=by omega
        clear b6 af ae bi bx
        go_wp2_with fail
        obtain⟨wo,rfl⟩:∃wo:World,wo=wr:=⟨_,rfl⟩
        go_loopw [8] (fun vi wq=>∃i:Nat,j≤i∧i≤n∧vi=.int .i64 i∧(∀x∈(l.drop j).take (i-j),0<f x)∧Ss.At wq g cap (q++l.drop j)∧w1.grownBy wq (some g)) (fun vi _=>n-(intOf vi).toNat)
        case atStart=>exact⟨j,Zb _,by omega,rfl,by simp,bk.out,cu.out⟩
        case round =>
         obtain⟨i,cz,dc,rfl,hpos,aa,av⟩:=hrel
         have bb:=Za hpos
         have b3:=Za av
         have aq:=Za aa
         obtain⟨b1,b2⟩:=bj.out wr av
         have xb:=Ext.cells b1 b2
         have gl:=aa.lt
         by_cases hie:i<n
         · obtain⟨y,hy⟩:∃y,l[i]?=some y:=⟨_,Zc (by rw[HL.out];exact hie)⟩
           have ch:(q++l.drop j)[i]?=some y:=by
            rw[ZL (by rw[ax.out];exact cz),ax.out,Xf,show j+(i-j)=i by omega]
            exact hy
           have cy:=aa.cell ch
           have xy:=Ext.cells cy gl
           have CC:=Za (Ext.call (w:=wr) fun W hW=>by
            have:=Ud.class_any _ T S y W cc.out (cf.out.below (b9.out W (Rw.grown_trans av (Ss.grown_below hW))))
            rw[HF.out]at this
            exact this)
           have iI:(i:Int)<n:=by omega
           have i0:(0:Int)≤i:=by omega
           have b7:(l.drop j).take (i+1-j)=(l.drop j).take (i-j)++[y]:=by
            rw[show i+1-j=i-j+1 by omega,Zw,Xf,show j+(i-j)=i by omega,hy]
            rfl
           have b5:=Za b7
           have HY:=Za hy
           obtain⟨u,hu⟩:∃u,f y=u:=⟨_,rfl⟩
           rw[hu]at CC
           have HU:=Za hu
           clear hpos av aa hy ch b7 hu
           by_cases hup:0<u
           · have bp:u > 0:=hup
             go_wp2_with fail
             refine wp_region_ext (by kernel_rfl) (by kernel_rfl) ?_
             repeat (go_big_quiet_step ((go_at_call 46;with_reducible exact CC.out _)))
             refine wpQuiet_nil ?_
             intro xw
             have H1:=Za (aq.out.below xw.below)
             have H2:=Za (Rw.grown_trans b3.out (Ss.grown_below xw.below))
             clear xb xy b1 cy
             go_wp2_with fail
             refine⟨⟨i+1,by omega,by omega,by go_num,?_,H1.out,H2.out⟩,by simp[intOf];omega⟩
             rw[b5.out]
             intro x hx
             rcases List.mem_append.1 hx with hx|hx
             · exact bb.out x hx
             · rw[ZA]at hx
               rw[hx,HU.out]
               exact hup
           · have bp:¬u > 0:=hup
             go_wp2_with fail
             refine wp_region_ext (by kernel_rfl) (by kernel_rfl) ?_
             repeat (go_big_quiet_step ((go_at_call 46;with_reducible exact CC.out _)))
             refine wpQuiet_nil ?_
             intro xw
             have hdr:l.drop j=(l.drop j).take (i-j)++y::l.drop (i+1):=by
              obtain⟨u1,u2⟩:=List.getElem?_eq_some_iff.1 HY.out
              have h1:l.drop i=y::l.drop (i+1):=by rw[ZV u1,u2]
              rw[←h1]
              have h2:=(ZG (i-j) (l.drop j)).symm
              rw[XX,show j+(i-j)=i by omega]at h2
              exact h2
             have hlen:((l.drop j).take (i-j)).length=i-j:=by rw[Zq,ZK,HL.out];omega
             have ay:l.take (i+1)=l.take j++((l.drop j).take (i-j)++[y]):=by
              have h:=b5.out
              rw[←h,←List.take_add,show j+(i+1-j)=i+1 by omega]
             have h1:=aq.out.below xw.below
             rw[hdr]at h1
             have h2:=Rw.grown_trans b3.out (Ss.grown_below xw.below)
             have hS:=Za (ar.out j (i-j) (cap-j) q ((l.drop j).take (i-j)) (y::l.drop (i+1)) xw.val h2 h1 ax.out hlen (by omega))
             have H2:=Za h2
             have bz:=Za ay
             have au:=Za hlen
             clear xb xy b1 cy hdr hlen ay h1 h2
             go_wp2_with fail
             refine hS.out.mono ?_
             rintro e w2 ⟨rfl,⟨C,sC,eC,ag⟩,az⟩
             have bf:Ss.At w2 g cap ((q++(C++[y]))++l.drop (i+1)):=by simpa using ag
             have aw:Or.Pre f (l.take (i+1)) (q++(C++[y])):=by
              rw[bz.out]
              exact Or.Pre.snoc a1.out bb.out sC eC (by rw[HU.out];omega)
             have a7:((q++(C++[y]))++l.drop (i+1)).length=n:=by
              have h1:=eC.length
              rw[au.out]at h1
              have h2:=ax.out
              have h3:=HL.out
              simp
              omega
             have N1:=Za bf
             have N2:=Za aw
             have N3:=Za a7
             have N4:=Za (Rw.grown_trans H2.out az)
             clear bf aw a7 sC eC ag az hS
             go_wp2_with fail
             exact⟨⟨i+1,(q++(C++[y]))++l.drop (i+1),by first|rfl|go_num,N3.out,by omega,.inl ⟨by omega,_,N2.out,rfl⟩,N1.out,N4.out⟩,by simp[intOf];omega⟩
         · obtain rfl:i=n:=by omega
           have iI:¬(i:Int)<i:=by omega
           have aj:(l.drop j).take (i-j)=l.drop j:=Zj (by rw[ZK,HL.out];exact Zb _)
           rw[aj]at hpos
           have a8:=Za hpos
           have hlen:(l.drop j).length=i-j:=by rw[ZK,HL.out]
           have hS:=Lib.hid (ar.out j (i-j) (cap-j) q (l.drop j) [] wr av (by simpa using aa) ax.out hlen (by omega))
           have au:=Za hlen
           clear xb b1 aj hpos hlen aa av hS
           go_wp2_with fail
           refine wp_region_ext (by kernel_rfl) (by kernel_rfl) ?_
           repeat (go_big_quiet_step (fail))
           refine wpQuiet_nil ?_
           intro xw
           have h1:=aq.out.below xw.below
           have h2:=Rw.grown_trans b3.out (Ss.grown_below xw.below)
           have hS:=Lib.hid (ar.out j (i-j) (cap-j) q (l.drop j) [] xw.val h2 (by simpa using h1) ax.out au.out (by omega))
           have H2:=Za h2
           clear h1 h2
           go_wp2_with fail
           refine hS.out.mono ?_
           rintro e w2 ⟨rfl,⟨C,sC,eC,ag⟩,az⟩
           have bf:Ss.At w2 g cap (q++C):=by simpa using ag
           have aw:Or.R f l (q++C):=by
            have h:=a1.out.app (Or.R.run a8.out sC eC)
            rw[ZG]at h
            exact h
           have a7:(q++C).length=i:=aw.length.trans HL.out
           have N1:=Za bf
           have N2:=Za aw
           have N3:=Za a7
           have N4:=Za (Rw.grown_trans H2.out az)
           clear bf aw a7 sC eC ag az hS
           go_wp2_with fail
           exact⟨⟨i+1,q++C,by first|rfl|go_num,N3.out,by omega,.inr ⟨by omega,N2.out⟩,N1.out,N4.out⟩,by simp[intOf];omega⟩
      · omega
    · have jI:¬(j:Int)<n:=by omega
      have hR:Or.R f l Z:=by
       rcases ak with ⟨c7,q,af,rfl⟩|⟨_,h⟩
       · obtain rfl:j=n:=by omega
         rw[Yp (by rw[HL.out];exact Zb _)]
         have h:=af.app (Or.R.run (f:=f) (a:=[]) (b:=[]) (fun x hx=>by simp at hx) (Ss.so_nil f) (Ss.eqv.refl _ _))
         rw[Yc,Zj (by rw[HL.out];exact Zb _)]at h
         exact h
       · exact h
      have hZ:Z=Or.of f l:=(Or.R.unique (Or.of_R f l) hR)
      have bm:(Or.of f l).length=n:=by rw[←hZ];exact bx
      rw[hZ]at ae
      have ao:=ae.own (n:=n) (base:=w.heap.size) bm b4.out.1 b4.out.2.1 b4.out.2.2
      have HO:=Za ao
      have cq:=Za (b9.out wr bi)
      have cp:=Za bm
      clear hR hZ ae ao bi bm bx
      go_wp2_with fail
      go_ret
      unfold Md.RetOwn
      rw[cp.out]
      exact⟨_,_,rfl,HO.out,cq.out⟩
theorem Rw.flI_app:∀(rs:List Rw.Row) (ads:List (Option Addr × Nat)) (r:Rw.Row) (a:Option Addr × Nat),ads.length=rs.length →
 Rw.flI (rs++[r]) (ads++[a])=Rw.flI rs ads++[.int .i64 r.1,.int .i64 r.2.1,.slice a.1 r.2.2.length a.2]
 | [],[],r,a,_=>rfl
 | [],_::_,_,_,h=>by simp at h
 | q::rs,[],r,a,h=>by simp at h
 | q::rs,b::ads,r,a,h=>by
   simp only[ZQ,Rw.flI]
   rw[Rw.flI_app rs ads r a (by simpa using h)]
def Rw.MapsI (w:World) (rs:List Rw.Row) (ads:List (Option Addr × Nat)):Prop:=∀(i:Nat) (r:Rw.Row) (a:Option Addr × Nat),rs[i]?=some r→ads[i]?=some a→Slt w 3 a.1 (r.2.2.map (Value.int .i64))
theorem Rw.MapsI.app {w:World} {rs:List Rw.Row} {ads:List (Option Addr × Nat)} (h:Rw.MapsI w rs ads) (hl:ads.length=rs.length) {r:Rw.Row} {a:Option Addr × Nat} (hr:Slt w 3 a.1 (r.2.2.map (Value.int .i64))):Rw.MapsI w (rs++[r]) (ads++[a]):=by
 intro i q x hq hx
 rcases ZX i rs.length with hi|hi
 · rw[ZW hi]at hq
   rw[ZW (by omega)]at hx
   exact h i q x hq hx
 · rw[ZL hi]at hq
   rw[ZL (by omega)]at hx
   obtain⟨j,hj⟩:∃j,i-rs.length=j:=⟨_,rfl⟩
   rw[hl,hj]at hx
   rw[hj]at hq
   rcases j with _|j
   · simp at hq hx
     subst hq hx
     exact hr
   · simp at hq
theorem Rw.MapsI.below {w w':World} {rs:List Rw.Row} {ads:List (Option Addr × Nat)} (h:Rw.MapsI w rs ads) (hb:Below w.heap.size w w'):Rw.MapsI w' rs ads:=fun i r a h1 h2=>(h i r a h1 h2).below hb
theorem Rw.MapsI.grown {w w':World} {rs:List Rw.Row} {ads:List (Option Addr × Nat)} {row:Option Nat} (h:Rw.MapsI w rs ads) (hg:w.grownBy w' row) (hr:∀k,row=some k→∀cs z,w.heap[k]?≠some (.cells cs 3 z)):Rw.MapsI w' rs ads :=
 fun i r a h1 h2=>(h i r a h1 h2).grown hg hr
theorem Rw.seesI_mk {w:World} {A:Option Addr} {rs:List Rw.Row} {ads:List (Option Addr × Nat)} (hl:ads.length=rs.length) (hs:Slt w 61 A (Rw.flI rs ads)) (hm:Rw.MapsI w rs ads):Rw.SeesI w A rs :=
 ⟨ads,hl,hs.sl,fun i r a h1 h2=>(hm i r a h1 h2).sl⟩
theorem Rw.At.slt {w:World} {b:Nat} {t:TypeId} {cs:List Value} (h:Rw.At w b t cs):Slt w t (some ⟨b,0,none⟩) cs :=
 fun _=>⟨b,0,cs.toArray,rfl,h,fun i _=>by simp⟩
theorem infoRowI:(Tryz.prog.info? 61).map (fun i=>(i.zero,i.size,i.bytes))=some (some (.agg #[.int .i64 0,.int .i64 0,.slice none 0 0]),3,40):=by kernel_rfl
def Md.Doc (w:World) (v:Value) (T:List Rw.Row) (E:List Int):Prop:=∃A c XA xc,v=Md.tv A T.length c XA E.length xc∧Rw.SeesI w A T∧Sl w w.heap.size XA (E.map (Value.int .i64))
theorem Md.Doc.below {w w':World} {v:Value} {T:List Rw.Row} {E:List Int} (h:Md.Doc w v T E) (hb:Below w.heap.size w w'):Md.Doc w' v T E:=by
 obtain⟨A,c,XA,xc,h1,h2,h3⟩:=h
 exact⟨A,c,XA,xc,h1,h2.below hb,h3.below hb hb.size⟩
set_option maxRecDepth 100000 in
set_option maxHeartbeats 1000000 in
theorem Md.in_any (A:Option Addr) (n c:Nat) (l:List Int) (d:Int) (w:World) (hn:l.length=n) (ap:n≤1000000) (hA:Sl w w.heap.size A (l.map (Value.int .i64))) :
 Calls Tryz.prog 134 #[.slice A n c,.int .i64 d] w fun e w'=>e=.returned (.bool (decide (d∈l)))∧w=w':=by
 obtain⟨o,ho⟩:∃o,decide (d∈l)=o:=⟨_,rfl⟩
 rw[ho]
 have HO:=Za ho
 have HN:=Za hn
 have HA:=Za hA
 clear ho hn hA
 go_enter Tryz.func134,Tryz.ntmps134
 go_wp2_with fail
 go_loop [9] (fun i=>∃k:Nat,k≤n∧i=.int .i64 k∧d∉l.take k) (fun i=>n-(intOf i).toNat)
 case atStart=>exact⟨0,ZE _,rfl,by simp⟩
 case round =>
  obtain⟨k,hk,rfl,ah⟩:=hrel
  have ag:=Za ah
  clear ah
  by_cases hlt:k<n
  · obtain⟨x,hx⟩:∃x,l[k]?=some x:=⟨_,Zc (by rw[HN.out];exact hlt)⟩
    obtain⟨ab,ao,rfl,ak,af⟩:=HA.out (by rw[Zg,HN.out];omega)
    have hc:=af k (by rw[Zg,HN.out];exact hlt)
    rw[Zu,hx,Zt]at hc
    have aj:(k:Int)<n:=by omega
    have HX:=Za hx
    clear af hx
    rcases hxd:(x == d) with _|_
    · have hne:¬x=d:=by simpa using hxd
      have ai:Hid (d∉l.take (k+1)):=Za (by
       rw[Zw,HX.out]
       intro h
       rcases List.mem_append.1 h with h|h
       · exact ag.out h
       · simp at h
         exact hne h.symm)
      clear hne
      go_wp2_with fail
      go_round
      case rel=>exact⟨k+1,by omega,by go_num,ai.out⟩
      case measure=>simp[intOf];omega
    · have he:x=d:=beq_iff_eq.1 hxd
      have aa:o=true:=by
       rw[←HO.out]
       exact Zn (by rw[←he];exact Zk HX.out)
      have ae:=Za aa
      clear he aa
      go_wp2_with fail
      go_ret
      exact⟨by rw[ae.out];rfl,rfl⟩
  · obtain rfl:n=k:=by omega
    have aa:o=false:=by
     rw[←HO.out]
     have:=ag.out
     rw[Zj (by rw[HN.out];exact Zb _)]at this
     exact Zo this
    have ae:=Za aa
    clear aa hlt
    go_wp2_with fail
    go_ret
    exact⟨by rw[ae.out];rfl,rfl⟩
theorem Md.find_take {T:List Rw.Row} {k:Nat} {r:Rw.Row} {c:Int} (hr:T[k]?=some r) (aa:∀q∈T.take k,q.1≠c) (he:r.1=c):Md.find T c=some r:=by
 obtain⟨h1,h2⟩:=List.getElem?_eq_some_iff.1 hr
 rw[←ZG k T,ZV h1,h2]
 unfold Md.find
 rw[List.find?_append,List.find?_eq_none.2 (fun q hq=>by simpa using aa q hq)]
 simp[he]
theorem Md.find_no {T:List Rw.Row} {k:Nat} {c:Int} (hk:T.length≤k) (aa:∀q∈T.take k,q.1≠c):Md.find T c=none:=by
 rw[Zj hk]at aa
 exact Md.find_none aa
theorem Md.no_succ {T:List Rw.Row} {k:Nat} {r:Rw.Row} {c:Int} (hr:T[k]?=some r) (aa:∀q∈T.take k,q.1≠c) (he:¬r.1=c):∀q∈T.take (k+1),q.1≠c:=by
 rw[Zw,hr]
 intro q hq
 rcases List.mem_append.1 hq with hq|hq
 · exact aa q hq
 · simp at hq
   subst hq
   exact he
set_option maxRecDepth 100000 in
set_option maxHeartbeats 2000000 in
theorem Md.rcls_any (v:Value) (T:List Rw.Row) (E:List Int) (d:Int) (w:World) (a1:T.length≤1000000) (h:Md.Doc w v T E) :
 Calls Tryz.prog 50 #[v,.int .i64 d] w fun e w'=>e=.returned (.int .i64 (Md.cls T d))∧Below w.heap.size w w':=by
 obtain⟨A,c,XA,xc,rfl,h2,hX⟩:=h
 obtain⟨n,hn⟩:∃k,T.length=k:=⟨_,rfl⟩
 obtain⟨xn,hxn⟩:∃k,E.length=k:=⟨_,rfl⟩
 rw[hn]at a1 ⊢
 rw[hxn]
 obtain⟨res,ae⟩:∃k,Md.cls T d=k:=⟨_,rfl⟩
 rw[ae]
 have ai:Below w.heap.size w (w.alloc (.cells #[.slice A n c,.slice XA xn xc] 25)):=(Zd _ _).alloc (Zb _) _
 have ap:Rw.At (w.alloc (.cells #[.slice A n c,.slice XA xn xc] 25)) w.heap.size 25 [.slice A n c,.slice XA xn xc]:=Rw.At.new w 25 [.slice A n c,.slice XA xn xc]
 obtain⟨wa,aq⟩:∃wa,w.alloc (.cells #[.slice A n c,.slice XA xn xc] 25)=wa:=⟨_,rfl⟩
 rw[aq]at ai ap
 have z0:=ap.cell 0 rfl
 have az:=Za aq
 have aj:=Za ai
 have ao:=Za (h2.below ai)
 have HN:=Za hn
 have ag:=Za ae
 clear aq ai ap hn hxn ae h2 hX
 unfold Md.tv
 go_enter Tryz.func50,Tryz.ntmps50
 go_upto_region 1 with (fail)
 rw[az.out]
 go_wp2_with fail
 go_loopw [10] (fun i wr=>∃k:Nat,k≤n∧i=.int .i64 k∧(∀q∈T.take k,q.1≠d)∧Below wa.heap.size wa wr) (fun i _=>n-(intOf i).toNat)
 case atStart=>exact⟨0,ZE _,rfl,by simp,Zd _ _⟩
 case round =>
  obtain⟨k,hk,rfl,aw,aa⟩:=hrel
  have ak:=Za aw
  have ar:=Za aa
  clear aw
  by_cases hlt:k<n
  · obtain⟨r,hr⟩:∃r,T[k]?=some r:=⟨_,Zc (by rw[HN.out];exact hlt)⟩
    obtain⟨b,o,a,a6,hb,c0,c1,c2,ay⟩:=(ao.out.below aa).row hr
    have a7:(k:Int)<n:=by omega
    have af:=Rw.At.new wr 61 [.int .i64 r.1,.int .i64 r.2.1,.slice a.1 r.2.2.length a.2]
    obtain⟨x0,x1,x2,_,_,_⟩:=af.three
    have av:=Za (aa.alloc aa.size (.cells #[.int .i64 r.1,.int .i64 r.2.1,.slice a.1 r.2.2.length a.2] 61))
    have HR:=Za hr
    subst a6
    clear hr ay aa af
    rcases hxd:(r.1 == d) with _|_
    · have ax:=Lib.hid (Md.no_succ HR.out ak.out (by simpa using hxd))
      go_wp2_with fail
      exact⟨⟨k+1,by omega,by go_num,ax.out,av.out⟩,by simp[intOf];omega⟩
    · have ah:res=r.2.1:=by
       rw[←ag.out]
       unfold Md.cls
       rw[Md.find_take HR.out ak.out (beq_iff_eq.1 hxd)]
       rfl
      have au:=Za ah
      clear ah
      go_wp2_with fail
      go_ret
      exact⟨by rw[au.out];rfl,aj.out.trans (av.out.mono aj.out.size)⟩
  · obtain rfl:n=k:=by omega
    have ah:res=0:=by
     rw[←ag.out]
     unfold Md.cls
     rw[Md.find_no (by rw[HN.out];exact Zb _) ak.out]
     rfl
    have au:=Za ah
    clear ah hlt
    go_wp2_with fail
    go_ret
    exact⟨by rw[au.out];rfl,aj.out.trans (ar.out.mono aj.out.size)⟩
end Go.Proofs.YtikiplbhlohmdaaGreatDoor
