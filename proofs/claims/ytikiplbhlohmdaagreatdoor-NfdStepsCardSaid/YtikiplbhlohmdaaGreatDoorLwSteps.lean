/- The law NfdSteps, by walking its text. -/
import Derived.Test.YtikiplbhlohmdaaGreatDoorNfLawS
import Derived.Test.YtikiplbhlohmdaaGreatDoorSlCut
set_option linter.unusedVariables false
set_option linter.unusedSimpArgs false
namespace Go.Proofs.YtikiplbhlohmdaaGreatDoor
open Go.RowKit
set_option maxRecDepth 100000 in
set_option maxHeartbeats 4000000 in
theorem Nf.nfdSteps_any (w:World) (A XA PA MA:Option Addr) (n c xn xc pn pc mn mc:Nat) (T0:List Rw.Row) (E0 P M:List Int) (hT:Tx.In A XA PA MA n c xn xc pn pc mn mc T0 E0 P M w) (at':Int) (ja : -9223372036854775808≤at') (iq:at'≤9223372036854775807) (hL:Nf.Laid w) :
 Calls Tryz.prog 3 #[.agg #[.slice A n c,.slice XA xn xc,.slice PA pn pc,.slice MA mn mc],.int .i64 at'] w fun e w'=>e=.returned (.bool true)∧Below w.heap.size w w':=by
 have aq:=Za (fun W (hW:Below w.heap.size w W)=>Tx.made_in A XA PA MA n c xn xc pn pc mn mc T0 E0 P M 20 W (by decide) (hT.below hW) (Rw.Laid.next hL.1 hW))
 have ek:=Za (fun W (hW:Below w.heap.size w W)=>Nf.awake17 W (hL.next hW))
 obtain⟨wa,b7⟩:∃wa,w.alloc (.cells #[.slice A n c,.slice XA xn xc,.slice PA pn pc,.slice MA mn mc] 27)=wa:=⟨_,rfl⟩
 have ed:Below w.heap.size w wa:=by rw[←b7];exact (Zd _ _).alloc (Zb _) _
 have e8:Rw.At wa w.heap.size 27 [.slice A n c,.slice XA xn xc,.slice PA pn pc,.slice MA mn mc]:=by rw[←b7];exact Rw.At.new w 27 [.slice A n c,.slice XA xn xc,.slice PA pn pc,.slice MA mn mc]
 have e4:=Za b7
 have bw:=Za ed
 have ee:=Za e8
 have HH:=Za hL.2
 clear b7 ed e8 hT hL
 go_enter Tryz.func3,Tryz.ntmps3
 go_upto_region 1 with (fail)
 rw[e4.out]
 go_wp2_with fail
 refine (ek.out wa bw.out).mono ?_
 rintro e w1 ⟨rfl,dt⟩
 have af:=ee.out.below dt
 have du:=Za (bw.out.trans (dt.mono bw.out.size))
 have x0:=af.cell 0 rfl
 have x1:=af.cell 1 rfl
 have x2:=af.cell 2 rfl
 have x3:=af.cell 3 rfl
 have xl:=af.lt
 clear dt af
 go_wp2_with fail
 refine (aq.out w1 du.out).mono ?_
 rintro e w2 ⟨p,v2,T,E,S,l,Al,cl,rfl,cc,bj,hR,aa,cj,hh,bp,ba⟩
 obtain⟨pb,rfl,h5⟩:=cc.form
 obtain⟨A2,c2,XA2,xc2,rfl,cf⟩:=id bj
 obtain⟨n2,b5⟩:∃k,T.length=k:=⟨_,rfl⟩
 obtain⟨xn2,ar⟩:∃k,E.length=k:=⟨_,rfl⟩
 obtain⟨ln,cu⟩:∃k,l.length=k:=⟨_,rfl⟩
 unfold Md.tv at bj bp ⊢
 rw[b5,ar]at bj ⊢
 simp only[b5,ar]at bp
 rw[cu]at aa hh bp ⊢
 obtain⟨w3,bg⟩:∃w3,w2.alloc (.cells #[.slice A2 n2 c2,.slice XA2 xn2 xc2] 25)=w3:=⟨_,rfl⟩
 have aj:Below w2.heap.size w2 w3:=by rw[←bg];exact (Zd _ _).alloc (Zb _) _
 have ah:Rw.At w3 w2.heap.size 25 [.slice A2 n2 c2,.slice XA2 xn2 xc2]:=by rw[←bg];exact Rw.At.new w2 25 [.slice A2 n2 c2,.slice XA2 xn2 xc2]
 have e9:=Za bg
 have bz:=Za (du.out.trans ((ba.trans (aj.mono ba.size)).mono du.out.size))
 have df:=Za ah
 have eg:=Za (cc.below aj)
 have c1:=Za (bj.below aj)
 have di:=Za (own_below aa aj (Zb _))
 have HR:=Za hR
 have a7:=Za cj
 have au:=Za cu
 have iv:=Za b5
 have iu:Hid (∀w'',w3.grownBy w'' (Value.slice Al ln cl).ownBlock→Ud.Is w'' (.pointer (some ⟨pb,0,none⟩)) T S∧Md.Doc w'' (.agg #[.slice A2 n2 c2,.slice XA2 xn2 xc2]) T E):=Za fun w'' hg=>bp w'' (Rw.grown_trans (by rw[←bg];exact Yk _ _ _) hg)
 have dz:=Za (fun x (hx:x∈l)=>Tx.isC_i32 (cj x hx))
 have z0:=ah.cell 0 rfl
 have z1:=ah.cell 1 rfl
 have zl:=ah.lt
 clear x0 x1 x2 x3 xl bp bj cf cc hR aa cj cu b5 ar bg aj ah ba aq ek e4 bw ee
 go_upto_region 4 with (fail)
 rw[e9.out]
 have ae:=HR.out.ok
 obtain⟨i0,a8,az,bc,a1⟩:=Z7 infoInt
 have ag:=Za (Sl.of_own di.out)
 have ep:=Za (HH.out.next bz.out)
 by_cases hn:0<ln
 case neg =>
  have nI:(ln:Int)=0:=by omega
  have nB:((ln:Int) == 0)=true:=by rw[nI];rfl
  go_wp2_with fail
  go_ret
  exact⟨rfl,bz.out⟩
 obtain⟨j,hj,bq⟩:=Tx.pick at' hn (show ln≤1000000 by omega)
 have hA:∃gb,Al=some ⟨gb,0,none⟩∧ln≤cl:=by
  rcases di.out.2 with ⟨hv,h0⟩|⟨g',ig,iy,hv,hg,hb,h1,h2,h3,h4⟩
  · omega
  · cases hv;exact⟨g',rfl,by omega⟩
 obtain⟨gb,rfl,gy⟩:=hA
 obtain⟨x,hx⟩:∃x,l[j]?=some x:=⟨_,Zc (by rw[au.out];exact hj)⟩
 have dr:=Zk hx
 obtain⟨gi,il⟩:=dz.out x dr
 obtain⟨ka,a6⟩:∃z,l.take j=z:=⟨_,rfl⟩
 obtain⟨kb,bs⟩:∃z,l.drop (j+1)=z:=⟨_,rfl⟩
 have cq:l.drop j=x::kb:=by
  obtain⟨h1,h2⟩:=List.getElem?_eq_some_iff.1 hx
  rw[ZV h1,h2,bs]
 have bu:l=ka++x::kb:=by rw[←cq,←a6,ZG]
 obtain⟨m1,cz⟩:∃q,ln-(j+1)=q:=⟨_,rfl⟩
 have ax:ka.length=j:=by rw[←a6,Zq,au.out];omega
 have bl:kb.length=m1:=by rw[←bs,ZK,au.out,cz]
 have ak:∀y∈ka,y∈l:=fun y hy=>Yf (a6▸hy)
 have bm:∀y∈kb,y∈l:=fun y hy=>List.mem_of_mem_drop (bs▸hy)
 obtain⟨Z,hZ⟩:∃Z,Nf.chars T l=Z:=⟨_,rfl⟩
 obtain⟨zn,bf⟩:∃q,Z.length=q:=⟨_,rfl⟩
 have er:(Nf.fl T l).length≤1024:=Nf.fl_30 ae (by rw[au.out];omega)
 have bx:zn≤1024:=by rw[←bf,←hZ,Nf.chars_len];exact er
 have eo:∀c∈Z,C.isC c=true:=by rw[←hZ];exact Nf.chars_isC ae a7.out
 obtain⟨mp,bi⟩:∃q,Md.mp T x=q:=⟨_,rfl⟩
 have dp:mp.length≤1000:=by rw[←bi];exact Md.mp_len (fun r hr=>by have:=(HR.out.rok r hr).2.2.1;omega) x
 obtain⟨mm,b1⟩:∃q,(if mp=[] then [x] else mp)=q:=⟨_,rfl⟩
 have gv:mm.length≤1000:=by rw[←b1];split;simp;exact dp
 have bh:∀c∈mm,C.isC c=true:=by
  rw[←b1];split
  · intro c hc;rw[ZA]at hc;rw[hc];exact a7.out x dr
  · rw[←bi];exact fun c hc=>Nf.mp_isC ae hc
 have cv:Nf.chars T (ka++(mm++kb))=Z:=by
  rw[←hZ,bu,←b1]
  split
  · rfl
  · rename_i hne
    rw[←bi]at hne ⊢
    exact Nf.alike_map ae ka kb hne
 have ck:(Nf.fl T (ka++(mm++kb))).length≤1024:=by rw[←Nf.chars_len,cv,bf];exact bx
 have ir:(ka++(mm++kb)).length≤1024:=Zh (Nf.fl_ge ae _) ck
 have cg:∀c∈ka++(mm++kb),C.isC c=true:=fun c hc=>by
  rcases List.mem_append.1 hc with h|h
  · exact a7.out c (ak c h)
  · rcases List.mem_append.1 h with h|h
    · exact bh c h
    · exact a7.out c (bm c h)
 obtain⟨P,hP⟩:∃q,Nf.chars T ka=q:=⟨_,rfl⟩
 obtain⟨pn,hpn⟩:∃q,P.length=q:=⟨_,rfl⟩
 have im:pn≤640:=by rw[←hpn,←hP];have:=Nf.chars_le ae ka;omega
 have dk:Nf.chars T (P++(x::kb))=Z:=by rw[←hP,Nf.alike_begin ae,←bu,hZ]
 have dm:(Nf.fl T (P++(x::kb))).length≤1024:=by rw[←Nf.chars_len,dk,bf];exact bx
 have ix:(P++(x::kb)).length≤1024:=Zh (Nf.fl_ge ae _) dm
 have ai:∀c∈P++(x::kb),C.isC c=true:=fun c hc=>by
  rcases List.mem_append.1 hc with h|h
  · rw[←hP]at h;exact Nf.chars_isC ae (fun y hy=>a7.out y (ak y hy)) c h
  · exact a7.out c (by rw[bu];exact List.mem_append_right _ h)
 obtain⟨sz,b9⟩:∃q,U.encS Z=q:=⟨_,rfl⟩
 obtain⟨sc,hsc⟩:∃q,U.encS (ka++(mm++kb))=q:=⟨_,rfl⟩
 obtain⟨sb,ch⟩:∃q,U.encS (P++(x::kb))=q:=⟨_,rfl⟩
 have h9:Hid (∀W,Below w3.heap.size w3 W→Calls Tryz.prog 10 #[.agg #[.slice A2 n2 c2,.slice XA2 xn2 xc2],.slice (some ⟨gb,0,none⟩) ln cl] W fun e w'=>∃A' c',e=.returned (.slice A' zn c')∧Sl w' w'.heap.size A' (Z.map (Value.int .i64))∧Below W.heap.size W w'):=Za fun W hW=>by
  refine (Nf.rchars_any _ T E _ ln cl l W (by have:=HR.out.tl;omega) ae.bd (fun r hr=>by have:=(HR.out.rok r hr).2.2.1;omega) (fun c=>Ud.fullT_le ae c) (c1.out.below hW) au.out (by omega) dz.out (ag.out.below hW hW.size)).mono ?_
  rintro e w' ⟨A',c',rfl,ho,hb⟩
  rw[hZ,bf]at ho ⊢
  exact⟨A',c',rfl,Sl.of_own ho,hb⟩
 have gu:Hid (∀W,Below w3.heap.size w3 W→Calls Tryz.prog 10 #[.agg #[.slice A2 n2 c2,.slice XA2 xn2 xc2],.slice (some ⟨gb,0,none⟩) j cl] W fun e w'=>∃A' c',e=.returned (.slice A' pn c')∧w'.ownsRow W.heap.size 3 1 (.slice A' pn c') pn (P.map (Value.int .i64))∧Below W.heap.size W w'):=Za fun W hW=>by
  have ez:=(ag.out.below hW hW.size).takeN j
  rw[←List.map_take,a6]at ez
  refine (Nf.rchars_any _ T E _ j cl ka W (by have:=HR.out.tl;omega) ae.bd (fun r hr=>by have:=(HR.out.rok r hr).2.2.1;omega) (fun c=>Ud.fullT_le ae c) (c1.out.below hW) ax (by omega) (fun y hy=>dz.out y (ak y hy)) ez).mono ?_
  rintro e w' ⟨A',c',rfl,ho,hb⟩
  rw[hP,hpn]at ho ⊢
  exact⟨A',c',rfl,ho,hb⟩
 have gg:Hid (∀W,Below w3.heap.size w3 W→Calls Tryz.prog 11 #[.agg #[.slice A2 n2 c2,.slice XA2 xn2 xc2],.int .i64 x] W fun e w'=>∃A' c',e=.returned (.slice A' mp.length c')∧Sl w' w'.heap.size A' (mp.map (Value.int .i64))∧Below W.heap.size W w'):=Za fun W hW=>by
  have:=Md.rmap_any _ T E x W (by have:=HR.out.tl;omega) (c1.out.below hW) gi il
  unfold RetInts at this
  rw[bi]at this
  exact this
 have cy:Hid (∀(A':Option Addr) (m c':Nat) (z:List Int) (sq:ByteArray) (W:World),z.length=m→m≤2000→(∀c∈z,C.isC c=true)→U.encS z=sq→Sl W W.heap.size A' (z.map (Value.int .i64))→Calls Tryz.prog 13 #[.slice A' m c'] W fun e w'=>e=.returned (.string sq)∧Below W.heap.size W w'):=Za fun A' m c' z sq W hz hm bx hs hA=>by
  have:=U.rencS_any A' m c' z W hz (by omega) hA bx
  rw[hs]at this
  exact this
 have fo:Hid (∀W,Below w3.heap.size w3 W→Calls Tryz.prog 12 #[.pointer (some ⟨pb,0,none⟩),.string sc] W fun e w'=>e=.returned (.tuple #[.string sz,.int .i64 0])∧Below W.heap.size W w'):=Za fun W hW=>by
  have:=Nf.of_chars _ T S _ W ae (eg.out.below hW) (ep.out.next hW) cg (by omega) ck
  rw[hsc,cv,b9]at this
  exact this
 have gj:Hid (∀W,Below w3.heap.size w3 W→Calls Tryz.prog 12 #[.pointer (some ⟨pb,0,none⟩),.string sb] W fun e w'=>e=.returned (.tuple #[.string sz,.int .i64 0])∧Below W.heap.size W w'):=Za fun W hW=>by
  have:=Nf.of_chars _ T S _ W ae (eg.out.below hW) (ep.out.next hW) ai (by omega) dm
  rw[ch,dk,b9]at this
  exact this
 have h7:Hid (∀W,Below w3.heap.size w3 W→Sl W W.heap.size (some ⟨gb,0,none⟩) (ka.map (Value.int .i64))):=Za fun W hW=>by
  rw[←a6,List.map_take];exact (ag.out.below hW hW.size).takeN j
 have fg:Hid (∀W,Below w3.heap.size w3 W→Sl W W.heap.size (some ⟨gb,j+1,none⟩) (kb.map (Value.int .i64))):=Za fun W hW=>by
  have:=(ag.out.below hW hW.size).dropN (j+1)
  rw[Z1]at this
  rw[←bs,List.map_drop];exact this
 have ib:Hid (∀W,Below w3.heap.size w3 W→Sl W W.heap.size (some ⟨gb,j,none⟩) ((x::kb).map (Value.int .i64))):=Za fun W hW=>by
  have:=(ag.out.below hW hW.size).dropN j
  rw[Z1]at this
  rw[←cq,List.map_drop];exact this
 obtain⟨ab,ao,hA2,b4,e2⟩:=ag.out (by rw[Zg,au.out];omega)
 have hc:=e2 j (by rw[Zg,au.out];exact hj)
 rw[Zu,hx,Zt]at hc
 cases hA2
 rw[Z1]at hc
 have eh:Hid (∀W,Below w3.heap.size w3 W→(∀x:Stg.Later Stg.Ex W,x.val.cell? ⟨w2.heap.size,0,none⟩=some (.slice A2 n2 c2))∧(∀x:Stg.Later Stg.Ex W,x.val.cell? ⟨w2.heap.size,1,none⟩=some (.slice XA2 xn2 xc2))∧(∀u:Stg.Later Stg.Ex W,u.val.cell? ⟨gb,j,none⟩=some (.int .i64 x))):=Za fun W hW =>
  have hT:=df.out.below hW
  ⟨Stg.cells (hT.cell 0 rfl) hT.lt,Stg.cells (hT.cell 1 rfl) hT.lt,Stg.cells (((bcell hW).1 _ _ b4).trans hc) (Zf b4 hW.size)⟩
 have cn:=Za (Zd w3.heap.size w3)
 have ei:=Za ax
 have bk:=Za (show kb.length=ln-(j+1) by rw[bl,cz])
 have ic:=Za bf
 have gz:=Za hpn
 have ie:=Za eo
 have gm:=Za cg
 have fz:=Za ai
 have gx:=Za b9
 have fk:=Za hsc
 have dh:=Za ch
 have e3:=Za b1
 have m0:(ln:Int)≠0:=by omega
 have nB:((ln:Int) == 0)=false:=by simp;omega
 have i7:=Za bq
 have e1:(sz.toList == sz.toList)=true:=by rw[U.ba_eq,Zn rfl]
 clear ae hZ er eo bi bh cv ck cg hP dk dm ai b9 hsc ch hx dr cq bu a6 bs ax bl ak bm e2 di bf hpn cz
 go_wp2_with fail
 refine (h9.out w3 cn.out).mono ?_
 rintro e q1 ⟨A7,c7,rfl,ej,hb⟩
 have cm:=Za (cn.out.trans (hb.mono cn.out.size))
 obtain⟨wb,b2⟩:∃wb,q1.alloc (.cells #[] 3)=wb:=⟨_,rfl⟩
 have bn:Below q1.heap.size q1 wb:=by rw[←b2];exact (Zd _ _).alloc (Zb _) _
 have how:wb.ownsRow q1.heap.size 3 1 (.slice (some ⟨q1.heap.size,0,none⟩) 0 0) 0 []:=by
  have:=Md.own_empty q1 3 (by decide)
  rw[←b2];exact this
 have eu:=Za (cm.out.trans (bn.mono cm.out.size))
 have b8:Hid (∀W,Below q1.heap.size wb W→Below w3.heap.size w3 W):=Za fun W hW=>eu.out.trans (hW.mono cm.out.size)
 have fj:Hid (∀W,Below q1.heap.size wb W→Sl W W.heap.size A7 (Z.map (Value.int .i64))):=Za fun W hW=>(ej.below bn (Zb _)).below hW (Zh bn.size hW.size)
 have gp:=Za b2
 have ih:=Za how
 have dw:=Za (h7.out wb eu.out)
 have ik:=Za (show (ka.map (Value.int .i64)).length=j*1 by rw[Zg,ei.out];omega)
 have fu:=Za (oneCells .i64 ka)
 have jc:(j:Int)≤cl:=by omega
 have j0:(0:Int)≤j:=by omega
 have aw:=bn.size
 have i1:Hid (∀W,Below q1.heap.size wb W→(∀x:Stg.Later Stg.Ex W,x.val.cell? ⟨w2.heap.size,0,none⟩=some (.slice A2 n2 c2))∧(∀x:Stg.Later Stg.Ex W,x.val.cell? ⟨w2.heap.size,1,none⟩=some (.slice XA2 xn2 xc2))∧(∀u:Stg.Later Stg.Ex W,u.val.cell? ⟨gb,j,none⟩=some (.int .i64 x))):=Za fun W hW=>eh.out W (b8.out W hW)
 clear hb ej bn how b2 z0 z1 zl
 go_upto_region 9 with (first|(at_builtin;(rw[gp.out]);refine wpList_appendSl _ rfl _ _ _ rfl q1.heap.size 3 i0 _ 1 8 Tryz.underlying23 a8 az bc a1 rfl (by omega) _ 0 _ rfl ih.out _ (some ⟨gb,0,none⟩) j cl (ka.map (Value.int .i64)) rfl ik.out dw.out fu.out (by simp only[maxLen];omega) (by omega) aw ?_;intro v2 q2 aa ba fe)|fail)
 rw[Z2,Z1]at aa
 obtain⟨A8,c8,rfl⟩:=own_form aa
 have gf:=Za (own_below aa (Zd _ _).drew (Zb _))
 have cb:=Za ba.drew
 have b6:=Za (b8.out _ cb.out)
 clear aa ba fe
 refine Stg.wp_region Stg.Ex Stg.Ex.rel (by kernel_rfl) (by kernel_rfl) (by kernel_rfl) ?_
 obtain⟨f0,f1,e0⟩:=eh.out q2.drew b6.out
 refine Stg.read 0 (by kernel_rfl) (by kernel_rfl) (by kernel_rfl) q2.drew rfl (by kernel_rfl) ?_;intro K hK;go_big_quiet_op;go_big_quiet_on
 iterate 3 (refine Stg.readW (by kernel_rfl) (by kernel_rfl) (by kernel_rfl) ?_;intro K hK;go_big_quiet_op;go_big_quiet_on)
 refine Stg.read 0 (by kernel_rfl) (by kernel_rfl) (by kernel_rfl) q2.drew rfl (by kernel_rfl) ?_;intro K hK;go_big_quiet_op;go_big_quiet_on
 refine Stg.call 11 _ _ rfl (C.enter Tryz.func11 (by kernel_rfl) rfl) [.agg #[.slice A2 n2 c2,.slice XA2 xn2 xc2],.int .i64 x] rfl q2.drew _ (gg.out q2.drew b6.out) (by kernel_rfl) rfl (by kernel_rfl) ?_
 rintro e v1 ⟨A9,c9,rfl,en,hb⟩;refine⟨_,rfl,hb,?_⟩;have e5:=Za (b6.out.trans (hb.mono b6.out.size));have bt:=Za (cb.out.trans (hb.mono (Zh aw cb.out.size)));have ij:=Za en;have ec:=Za (own_below gf.out hb (Zb _));clear en;clear hb;intro A' ap;simp only[Act.put,Zs,ZF,ZD]at ap;subst ap
 refine Stg.readW (by kernel_rfl) (by kernel_rfl) (by kernel_rfl) ?_;intro K hK;go_big_quiet_op;go_big_quiet_on
 clear f0 f1 e0
 refine Stg.nil v1 rfl ?_
 go_upto_if 61 with (fail)
 go_cut [11] (fun s wx=>(∃A' c',s=.slice A' (j+mm.length) c'∧wx.ownsRow q1.heap.size 3 1 (.slice A' (j+mm.length) c') (j+mm.length) ((ka++mm).map (Value.int .i64)))∧Below q1.heap.size wb wx)
 case first =>
  by_cases hmq:mp=[]
  · have hmx:mm=[x]:=by rw[←e3.out,Zp hmq]
    have br:mp.length=0:=by rw[hmq];rfl
    have nI:¬((mp.length:Int) > 0):=by omega
    have hce:=((bcell e5.out).1 _ j b4).trans hc
    have i6:=Zf b4 e5.out.size
    have jI:(j:Int)<ln:=by omega
    have dv:=Zh aw bt.out.size
    have cp:=Za hmx
    clear hmq hmx br
    go_wp2_with (first|(at_builtin;refine wpList_push1 _ rfl _ _ _ rfl q1.heap.size 3 i0 _ 8 Tryz.underlying23 a8 az bc a1 rfl _ j _ rfl ec.out _ rfl rfl (by simp only[maxLen];omega) (by omega) dv ?_;intro v3 q3 aa aj)|fail)
    obtain⟨A3,c3,rfl⟩:=own_form aa
    go_meet
    rw[cp.out]
    refine⟨⟨A3,c3,rfl,?_⟩,bt.out.trans aj⟩
    rw[ZM]
    exact aa
  · have hmx:mm=mp:=by rw[←e3.out,Zl hmq]
    have br:0<mp.length:=List.length_pos_iff.2 hmq
    have nI:(mp.length:Int) > 0:=by omega
    have dv:=Zh aw bt.out.size
    have cp:=Za hmx
    have fc:=Za (show (mp.map (Value.int .i64)).length=mp.length*1 by rw[Zg];omega)
    have gw:=Za (oneCells .i64 mp)
    clear hmq hmx
    go_wp2_with (first|(at_builtin;refine wpList_appendSl _ rfl _ _ _ rfl q1.heap.size 3 i0 _ 1 8 Tryz.underlying23 a8 az bc a1 rfl (by omega) _ j _ rfl ec.out _ A9 mp.length c9 (mp.map (Value.int .i64)) rfl fc.out ij.out gw.out (by simp only[maxLen];omega) (by omega) dv ?_;intro v3 q3 aa aj iw)|fail)
    obtain⟨A3,c3,rfl⟩:=own_form aa
    go_meet
    rw[cp.out]
    refine⟨⟨A3,c3,rfl,?_⟩,bt.out.trans aj⟩
    rw[ZM]
    exact aa
 case rest =>
  obtain⟨⟨A3,c3,rfl,aa⟩,ai⟩:=hcut
  obtain⟨q4,rfl⟩:∃w4:World,w4=wc:=⟨_,rfl⟩
  have ef:=Za aa
  have dc:=Za ai
  have e7:=Zh aw ai.size
  clear aa ai
  go_upto_region 13 with (fail)
  go_cut [11] (fun s wx=>(∃A' c',s=.slice A' (j+mm.length+(ln-(j+1))) c'∧wx.ownsRow q1.heap.size 3 1 (.slice A' (j+mm.length+(ln-(j+1))) c') (j+mm.length+(ln-(j+1))) ((ka++(mm++kb)).map (Value.int .i64)))∧Below q1.heap.size wb wx)
  case first =>
   have eb:=Za (oneCells .i64 kb)
   have iz:(j:Int)+1≤cl:=by omega
   have jb:(j:Int)+1≤ln:=by omega
   rcases ZX (j+1) cl with hkc|hkc
   · have ay:=Za (fg.out q4 (b8.out _ dc.out))
     have av:=Za (show (kb.map (Value.int .i64)).length=(ln-(j+1))*1 by rw[Zg,bk.out];omega)
     have fy:¬cl=j+1:=by omega
     go_wp2_with (first|(at_builtin;refine wpList_appendSl _ rfl _ _ _ rfl q1.heap.size 3 i0 _ 1 8 Tryz.underlying23 a8 az bc a1 rfl (by omega) _ (j+mm.length) _ rfl ef.out _ (some ⟨gb,j+1,none⟩) (ln-(j+1)) (cl-(j+1)) (kb.map (Value.int .i64)) rfl av.out ay.out eb.out (by simp only[maxLen];omega) (by omega) e7 ?_;intro v5 q5 aa dx fm)|fail)
     rw[←ZM,Zz]at aa
     obtain⟨A5,c5,rfl⟩:=own_form aa
     go_meet
     exact⟨⟨A5,c5,rfl,aa⟩,dc.out.trans dx⟩
   · obtain rfl:cl=j+1:=by omega
     obtain rfl:ln=j+1:=by omega
     have cd:kb=[]:=Zy (by rw[bk.out];omega)
     have ay:Hid (Sl q4 q4.heap.size (some ⟨gb,0,none⟩) (kb.map (Value.int .i64))):=Za (by rw[cd];exact Sl.nil _ _ _)
     have av:=Za (show (kb.map (Value.int .i64)).length=0*1 by rw[cd];rfl)
     clear cd
     go_wp2_with (first|(at_builtin;refine wpList_appendSl _ rfl _ _ _ rfl q1.heap.size 3 i0 _ 1 8 Tryz.underlying23 a8 az bc a1 rfl (by omega) _ (j+mm.length) _ rfl ef.out _ (some ⟨gb,0,none⟩) 0 0 (kb.map (Value.int .i64)) rfl av.out ay.out eb.out (by simp only[maxLen];omega) (by omega) e7 ?_;intro v5 q5 aa dx fm)|fail)
     rw[←ZM,Zz]at aa
     obtain⟨A5,c5,rfl⟩:=own_form aa
     go_meet
     rw[Yv]
     exact⟨⟨A5,c5,rfl,aa⟩,dc.out.trans dx⟩
  case rest =>
   obtain⟨⟨A5,c5,rfl,aa⟩,ai⟩:=hcut
   obtain⟨q5,rfl⟩:∃w4:World,w4=wc:=⟨_,rfl⟩
   have fw:=Za aa
   have b3:=Za ai
   clear aa ai
   have bo:Hid (∀W,Below q5.heap.size q5 W→Below w3.heap.size w3 W):=Za fun W hW=>b8.out W (b3.out.trans (hW.mono (Zh aw b3.out.size)))
   have gh:Hid (∀W,Below q5.heap.size q5 W→(∀x:Stg.Later (Stg.Keep fun b=>b<q5.heap.size) W,x.val.cell? ⟨w2.heap.size,0,none⟩=some (.slice A2 n2 c2))∧(∀x:Stg.Later (Stg.Keep fun b=>b<q5.heap.size) W,x.val.cell? ⟨w2.heap.size,1,none⟩=some (.slice XA2 xn2 xc2))):=Za fun W hW =>
    have hT:=df.out.below (bo.out W hW)
    have hz:w2.heap.size<q5.heap.size:=Zf df.out.lt (bo.out q5 (Zd _ _)).size
    ⟨Stg.Keep.cells (hT.cell 0 rfl) hz,Stg.Keep.cells (hT.cell 1 rfl) hz⟩
   have bb:=Za (Zd q5.heap.size q5).drew
   have hl:=Za (show ((x::kb).map (Value.int .i64)).length=(ln-j)*1 by rw[Zg,ZI,bk.out];omega)
   have fp:=Za (oneCells .i64 (x::kb))
   have fy:¬cl=j:=by omega
   have jl:(j:Int)≤ln:=by omega
   go_upto_region 14 with (fail)
   refine Stg.wp_region (Stg.Keep fun b=>b<q5.heap.size) (Stg.Keep.rel _) (by kernel_rfl) (by kernel_rfl) (by kernel_rfl) ?_
   obtain⟨f0,f1⟩:=gh.out q5.drew bb.out
   refine Stg.read 0 (by kernel_rfl) (by kernel_rfl) (by kernel_rfl) q5.drew rfl (by kernel_rfl) ?_;intro K hK;go_big_quiet_op;go_big_quiet_on
   iterate 3 (refine Stg.readW (by kernel_rfl) (by kernel_rfl) (by kernel_rfl) ?_;intro K hK;go_big_quiet_op;go_big_quiet_on)
   refine Stg.call 10 _ _ rfl (C.enter Tryz.func10 (by kernel_rfl) rfl) [.agg #[.slice A2 n2 c2,.slice XA2 xn2 xc2],.slice (some ⟨gb,0,none⟩) j cl] rfl q5.drew _ (gu.out q5.drew (bo.out _ bb.out)) (by kernel_rfl) rfl (by kernel_rfl) ?_
   rintro e x1 ⟨A6,c6,rfl,e6,hb⟩;refine⟨_,rfl,(Stg.Keep.of_below hb (fun q hq=>Zf hq bb.out.size)),?_⟩;have cr:=Za (bb.out.trans (hb.mono bb.out.size));have ia:=Za (own_mono e6 bb.out.size);clear e6;clear hb;intro A' ap;simp only[Act.put,Zs,ZF,ZD]at ap;subst ap
   iterate 3 (refine Stg.readW (by kernel_rfl) (by kernel_rfl) (by kernel_rfl) ?_;intro K hK;go_big_quiet_op;go_big_quiet_on)
   refine Stg.stepW x1 (by kernel_rfl) (by kernel_rfl) rfl (by kernel_rfl) ?_;intro K hK
   have ea:=Za (ib.out x1 (bo.out _ cr.out))
   refine wp_appendSl x1 _ _ _ rfl q5.heap.size 3 i0 _ 1 8 Tryz.underlying23 a8 az bc a1 rfl (by omega) _ pn _ rfl ia.out _ (some ⟨gb,j,none⟩) (ln-j) (cl-j) ((x::kb).map (Value.int .i64)) rfl hl.out ea.out fp.out (by simp only[maxLen];omega) (by omega) cr.out.size ?_
   intro v7 x2 aa hb hg
   have dy:=Za (cr.out.trans hb)
   refine hK _ _ (Stg.Keep.of_below hb (fun q hq=>hq)) ?_
   rw[←ZM]at aa
   obtain⟨fx,fq,rfl⟩:=own_form aa
   have h6:=Za aa
   clear aa hb hg
   intro A' ap;simp only[Act.put,Zs,ZF,ZD]at ap;subst ap
   refine Stg.readW (by kernel_rfl) (by kernel_rfl) (by kernel_rfl) ?_;intro K hK;go_big_quiet_op;go_big_quiet_on
   clear f0 f1
   refine Stg.nil x2 rfl ?_
   have cx:=Za (own_below fw.out dy.out (Zb _))
   have ft:=Za (fj.out x2 (b3.out.trans (dy.out.mono (Zh aw b3.out.size))))
   have et:=Za (bo.out x2 dy.out)
   go_wp2_with fail
   refine (cy.out A5 _ c5 (ka++(mm++kb)) sc x2 (by rw[Ze,Ze,ei.out,bk.out];omega) (by omega) gm.out fk.out (Sl.of_own cx.out)).mono ?_
   rintro e y1 ⟨rfl,hb⟩
   have cw:=Za (et.out.trans (hb.mono et.out.size))
   have dl:=Za ((Sl.of_own h6.out).below hb hb.size)
   have gl:=Za (ft.out.below hb hb.size)
   clear hb
   go_wp2_with fail
   refine (fo.out y1 cw.out).mono ?_
   rintro e y2 ⟨rfl,hb⟩
   have ew:=Za (cw.out.trans (hb.mono cw.out.size))
   have dn:=Za (dl.out.below hb hb.size)
   have fh:=Za (gl.out.below hb hb.size)
   clear hb
   go_wp2_with fail
   refine (cy.out fx _ fq (P++(x::kb)) sb y2 (by rw[Ze,ZI,gz.out,bk.out];omega) (by omega) fz.out dh.out dn.out).mono ?_
   rintro e y3 ⟨rfl,hb⟩
   have ct:=Za (ew.out.trans (hb.mono ew.out.size))
   have hk:=Za (fh.out.below hb hb.size)
   clear hb
   go_wp2_with fail
   refine (gj.out y3 ct.out).mono ?_
   rintro e y4 ⟨rfl,hb⟩
   have ey:=Za (ct.out.trans (hb.mono ct.out.size))
   have h8:=Za (hk.out.below hb hb.size)
   clear hb
   go_wp2_with fail
   refine (cy.out A7 zn c7 Z sz y4 ic.out (by omega) ie.out gx.out h8.out).mono ?_
   rintro e y5 ⟨rfl,hb⟩
   have gq:=Za (bz.out.trans ((ey.out.trans (hb.mono ey.out.size)).mono bz.out.size))
   clear hb
   go_wp2_with fail
   go_ret
   exact⟨by first|rfl|(simp;done)|(simp;omega),gq.out⟩
end Go.Proofs.YtikiplbhlohmdaaGreatDoor
