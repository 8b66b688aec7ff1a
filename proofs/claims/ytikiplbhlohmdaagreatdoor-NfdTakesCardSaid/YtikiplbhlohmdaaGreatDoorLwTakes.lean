/- The law NfdTakes, by walking its text. -/
import Derived.Test.YtikiplbhlohmdaaGreatDoorNfLawS
import Derived.Test.YtikiplbhlohmdaaGreatDoorSlCut
import Derived.Test.YtikiplbhlohmdaaGreatDoorTxSame
set_option linter.unusedVariables false
set_option linter.unusedSimpArgs false
namespace Go.Proofs.YtikiplbhlohmdaaGreatDoor
open Go.RowKit
set_option maxRecDepth 100000 in
set_option maxHeartbeats 4000000 in
theorem Nf.nfdTakes_any (w:World) (A XA PA MA:Option Addr) (n c xn xc pn pc mn mc:Nat) (T0:List Rw.Row) (E0 P M:List Int) (hT:Tx.In A XA PA MA n c xn xc pn pc mn mc T0 E0 P M w) (hL:Nf.Laid w) :
 Calls Tryz.prog 7 #[.agg #[.slice A n c,.slice XA xn xc,.slice PA pn pc,.slice MA mn mc]] w fun e w'=>e=.returned (.bool true)∧Below w.heap.size w w':=by
 have ak:=Za (fun W (hW:Below w.heap.size w W)=>Tx.made_in A XA PA MA n c xn xc pn pc mn mc T0 E0 P M 30 W (by decide) (hT.below hW) (Rw.Laid.next hL.1 hW))
 have dm:=Za (fun W (hW:Below w.heap.size w W)=>Nf.awake17 W (hL.next hW))
 obtain⟨wa,bo⟩:∃wa,w.alloc (.cells #[.slice A n c,.slice XA xn xc,.slice PA pn pc,.slice MA mn mc] 27)=wa:=⟨_,rfl⟩
 have cx:Below w.heap.size w wa:=by rw[←bo];exact (Zd _ _).alloc (Zb _) _
 have dr:Rw.At wa w.heap.size 27 [.slice A n c,.slice XA xn xc,.slice PA pn pc,.slice MA mn mc]:=by rw[←bo];exact Rw.At.new w 27 [.slice A n c,.slice XA xn xc,.slice PA pn pc,.slice MA mn mc]
 have di:=Za bo
 have bm:=Za cx
 have df:=Za dr
 have HH:=Za hL.2
 clear bo cx dr hT hL
 go_enter Tryz.func7,Tryz.ntmps7
 go_upto_region 1 with (fail)
 rw[di.out]
 go_wp2_with fail
 refine (dm.out wa bm.out).mono ?_
 rintro e w1 ⟨rfl,cg⟩
 have af:=df.out.below cg
 have ch:=Za (bm.out.trans (cg.mono bm.out.size))
 have x0:=af.cell 0 rfl
 have x1:=af.cell 1 rfl
 have x2:=af.cell 2 rfl
 have x3:=af.cell 3 rfl
 have xl:=af.lt
 clear cg af
 go_wp2_with fail
 refine (ak.out w1 ch.out).mono ?_
 rintro e w2 ⟨p,v2,T,E,S,l,Al,cl,rfl,bw,bf,hR,av,b4,dx,bc,cd⟩
 obtain⟨pb,rfl,ed⟩:=bw.form
 obtain⟨A2,c2,XA2,xc2,rfl,b1⟩:=id bf
 obtain⟨n2,bn⟩:∃k,T.length=k:=⟨_,rfl⟩
 obtain⟨xn2,au⟩:∃k,E.length=k:=⟨_,rfl⟩
 obtain⟨ln,cp⟩:∃k,l.length=k:=⟨_,rfl⟩
 unfold Md.tv at bf bc ⊢
 rw[bn,au]at bf ⊢
 simp only[bn,au]at bc
 rw[cp]at av dx bc ⊢
 obtain⟨w3,a8⟩:∃w3,w2.alloc (.cells #[.slice A2 n2 c2,.slice XA2 xn2 xc2] 25)=w3:=⟨_,rfl⟩
 have bb:Below w2.heap.size w2 w3:=by rw[←a8];exact (Zd _ _).alloc (Zb _) _
 have ah:Rw.At w3 w2.heap.size 25 [.slice A2 n2 c2,.slice XA2 xn2 xc2]:=by rw[←a8];exact Rw.At.new w2 25 [.slice A2 n2 c2,.slice XA2 xn2 xc2]
 have dt:=Za a8
 have cq:=Za (ch.out.trans ((cd.trans (bb.mono cd.size)).mono ch.out.size))
 have e4:=Za ah
 have ai:=Za (bw.below bb)
 have du:=Za (bf.below bb)
 have cy:=Za (own_below av bb (Zb _))
 have HR:=Za hR
 have az:=Za b4
 have aj:=Za cp
 have e7:=Za bn
 have e6:Hid (∀w'',w3.grownBy w'' (Value.slice Al ln cl).ownBlock→Ud.Is w'' (.pointer (some ⟨pb,0,none⟩)) T S∧Md.Doc w'' (.agg #[.slice A2 n2 c2,.slice XA2 xn2 xc2]) T E):=Za fun w'' hg=>bc w'' (Rw.grown_trans (by rw[←a8];exact Yk _ _ _) hg)
 have cn:=Za (fun x (hx:x∈l)=>Tx.isC_i32 (b4 x hx))
 have z0:=ah.cell 0 rfl
 have z1:=ah.cell 1 rfl
 have zl:=ah.lt
 clear x0 x1 x2 x3 xl bc bf b1 bw hR av b4 cp bn au a8 bb ah cd ak dm di bm df
 go_upto_region 4 with (fail)
 rw[dt.out]
 have ae:=HR.out.ok
 have aw:=Za (Sl.of_own cy.out)
 have ba:=Za (HH.out.next cq.out)
 obtain⟨Z,hZ⟩:∃Z,Nf.chars T l=Z:=⟨_,rfl⟩
 obtain⟨zn,ag⟩:∃q,Z.length=q:=⟨_,rfl⟩
 have ax:(Nf.fl T l).length≤1024:=Nf.fl_30 ae (by rw[aj.out];omega)
 have c6:zn≤1024:=by rw[←ag,←hZ,Nf.chars_len];exact ax
 have bx:(Nf.fl T Z).length≤1024:=by rw[←hZ];exact Nf.fl_ch ae ax
 have hzz:Nf.chars T Z=Z:=by rw[←hZ];exact Nf.chars_chars ae l
 have a6:∀c∈Z,C.isC c=true:=by rw[←hZ];exact Nf.chars_isC ae az.out
 have bl:∀c∈Z,-2147483648≤c∧c≤2147483647:=fun c hc=>Nf.isC_i32 (a6 c hc)
 have c1:∀c∈Z,Md.mp T c=[]:=by rw[←hZ];exact Nf.chars_mp ae l
 have cv:Or.inB (Md.cls T) 0 Z=true:=by rw[←hZ];exact Nf.chars_in ae l
 obtain⟨sl,ay⟩:∃q,U.encS l=q:=⟨_,rfl⟩
 obtain⟨sz,a1⟩:∃q,U.encS Z=q:=⟨_,rfl⟩
 obtain⟨bq,bu⟩:∃b,decide (Z=l)=b:=⟨_,rfl⟩
 have bt:(sl.toList == sz.toList)=bq:=by
  rw[U.ba_eq,←bu,Yb,Z5,Z5,←ay,←a1]
  exact⟨fun e=>(U.encS_inj az.out a6 e).symm,fun e=>by rw[e]⟩
 have ek:Hid (∀W,Below w3.heap.size w3 W→Calls Tryz.prog 10 #[.agg #[.slice A2 n2 c2,.slice XA2 xn2 xc2],.slice Al ln cl] W fun e w'=>∃A' c',e=.returned (.slice A' zn c')∧Sl w' w'.heap.size A' (Z.map (Value.int .i64))∧Below W.heap.size W w'):=Za fun W hW=>by
  refine (Nf.rchars_any _ T E Al ln cl l W (by have:=HR.out.tl;omega) ae.bd (fun r hr=>by have:=(HR.out.rok r hr).2.2.1;omega) (fun c=>Ud.fullT_le ae c) (du.out.below hW) aj.out (by omega) cn.out (aw.out.below hW hW.size)).mono ?_
  rintro e w' ⟨A',c',rfl,ho,hb⟩
  rw[hZ,ag]at ho ⊢
  exact⟨A',c',rfl,Sl.of_own ho,hb⟩
 have ee:Hid (∀W,Below w3.heap.size w3 W→Calls Tryz.prog 13 #[.slice Al ln cl] W fun e w'=>e=.returned (.string sl)∧Below W.heap.size W w'):=Za fun W hW=>by
  have:=U.rencS_any Al ln cl l W aj.out (by omega) (aw.out.below hW hW.size) az.out
  rw[ay]at this
  exact this
 have ec:Hid (∀A' c' W,Sl W W.heap.size A' (Z.map (Value.int .i64))→Calls Tryz.prog 13 #[.slice A' zn c'] W fun e w'=>e=.returned (.string sz)∧Below W.heap.size W w'):=Za fun A' c' W hA=>by
  have:=U.rencS_any A' zn c' Z W ag (by omega) hA a6
  rw[a1]at this
  exact this
 have er:Hid (∀W,Below w3.heap.size w3 W→Calls Tryz.prog 12 #[.pointer (some ⟨pb,0,none⟩),.string sl] W fun e w'=>e=.returned (.tuple #[.string sz,.int .i64 0])∧Below W.heap.size W w'):=Za fun W hW=>by
  have:=Nf.of_chars _ T S l W ae (ai.out.below hW) (ba.out.next hW) az.out (by rw[aj.out];omega) ax
  rw[ay,hZ,a1]at this
  exact this
 have eg:Hid (∀W,Below w3.heap.size w3 W→Calls Tryz.prog 12 #[.pointer (some ⟨pb,0,none⟩),.string sz] W fun e w'=>e=.returned (.tuple #[.string sz,.int .i64 0])∧Below W.heap.size W w'):=Za fun W hW=>by
  have:=Nf.of_chars _ T S Z W ae (ai.out.below hW) (ba.out.next hW) a6 (by rw[ag];omega) bx
  rw[hzz,a1]at this
  exact this
 have dv:Hid (∀W,Below w3.heap.size w3 W→Calls Tryz.prog 17 #[.pointer (some ⟨pb,0,none⟩),.string sl] W fun e w'=>e=.returned (.bool bq)∧Below W.heap.size W w'):=Za fun W hW=>by
  have:=Nf.is_chars _ T S l W ae (ai.out.below hW) (ba.out.next hW) az.out (by rw[aj.out];omega) ax
  rw[ay,hZ,bu]at this
  exact this
 have ei:Hid (∀W,Below w3.heap.size w3 W→Calls Tryz.prog 17 #[.pointer (some ⟨pb,0,none⟩),.string sz] W fun e w'=>e=.returned (.bool true)∧Below W.heap.size W w'):=Za fun W hW=>by
  have:=Nf.is_chars _ T S Z W ae (ai.out.below hW) (ba.out.next hW) a6 (by rw[ag];omega) bx
  rw[hzz,a1,Zn rfl]at this
  exact this
 have ey:Hid (∀W,Below w3.heap.size w3 W→Calls Tryz.prog 16 #[.pointer (some ⟨pb,0,none⟩),.string sl] W fun e w'=>e=.returned (.tuple #[.int .i64 zn,.int .i64 0])∧Below W.heap.size W w'):=Za fun W hW=>by
  have:=Nf.count_chars _ T S l W ae (ai.out.below hW) (ba.out.next hW) az.out (by rw[aj.out];omega) ax
  rw[ay,hZ,ag]at this
  exact this
 have dn:Hid (∀(A':Option Addr) (m c':Nat) (z:List Int) (W:World),z.length=m→m≤1000000→(∀x∈z,-2147483648≤x∧x≤2147483647)→Sl W W.heap.size A' (z.map (Value.int .i64))→Calls Tryz.prog 24 #[.slice A' m c'] W fun e w'=>∃A' c',e=.returned (.slice A' m c')∧Sl w' w'.heap.size A' (z.map (Value.int .i32))∧Below W.heap.size W w'):=Za fun A' m c' z W hz hm c6 hA=>by
  refine (Tx.runes_any A' m c' z W hz hm c6 hA).mono ?_
  rintro e w' ⟨A',c',rfl,ho,hb⟩
  rw[hz]at ho ⊢
  exact⟨A',c',rfl,Sl.of_own ho,hb⟩
 have e0:Hid (∀A' c' W,Below w3.heap.size w3 W→Sl W W.heap.size A' (l.map (Value.int .i32))→Calls Tryz.prog 23 #[.pointer (some ⟨pb,0,none⟩),.slice A' ln c'] W fun e w'=>∃A' c',e=.returned (.slice A' zn c')∧Sl w' w'.heap.size A' (Z.map (Value.int .i32))∧Below W.heap.size W w'):=Za fun A' c' W hW hA=>by
  refine (Nf.Chars_any _ T S A' ln c' l W ae (ai.out.below hW) aj.out (by omega) cn.out hA Tx.sym).mono ?_
  rintro e w' ⟨A',c',rfl,ho,hb⟩
  rw[hZ,ag]at ho ⊢
  exact⟨A',c',rfl,Sl.of_own ho,hb⟩
 have en:Hid (∀(A' B':Option Addr) (ca cb:Nat) (W:World),Sl W W.heap.size A' (Z.map (Value.int .i32))→Sl W W.heap.size B' (Z.map (Value.int .i64))→Calls Tryz.prog 22 #[.slice A' zn ca,.slice B' zn cb] W fun e w'=>e=.returned (.bool true)∧Below W.heap.size W w'):=Za fun A' B' ca cb W hA hB=>by
  have:=Tx.same_any A' B' zn ca zn cb Z Z W ag ag (by omega) (by omega) bl hA hB
  rw[Zn rfl]at this
  exact this
 have dz:Hid (∀A' c' W,Below w3.heap.size w3 W→Sl W W.heap.size A' (Z.map (Value.int .i32))→Calls Tryz.prog 26 #[.pointer (some ⟨pb,0,none⟩),.slice A' zn c'] W fun e w'=>e=.returned (.bool true)∧Below W.heap.size W w'):=Za fun A' c' W hW hA=>by
  have:=Or.in_any _ T S A' zn c' Z W ae (ai.out.below hW) ag (by omega) hA
  rw[cv]at this
  exact this
 have ef:Hid (∀x W,Below w3.heap.size w3 W→x∈Z→Calls Tryz.prog 25 #[.pointer (some ⟨pb,0,none⟩),.int .i32 x] W fun e w'=>e=.returned (.bool true)∧Below W.heap.size W w'):=Za fun x W hW hx=>by
  have:=Ud.plain_any _ T S x W ae (ai.out.below hW) (bl x hx).1 (bl x hx).2
  rw[Zn (c1 x hx)]at this
  exact this
 have b8:=Za (Zd w3.heap.size w3)
 have bp:=Za ag
 have dc:=Za bl
 have e1:(sz.toList == sz.toList)=true:=by rw[U.ba_eq,Zn rfl]
 have fc:(sz.toList != sz.toList)=false:=by rw[bne,e1];rfl
 have e3:((zn:Int) != zn)=false:=by simp
 have ej:=Za bt
 clear ae hZ ag ax bx hzz a6 bl c1 cv ay a1 bu cy bt
 go_wp2_with fail
 refine (ek.out w3 b8.out).mono ?_
 rintro e q1 ⟨A7,c7,rfl,dl,hb⟩
 have b7:=Za (b8.out.trans (hb.mono b8.out.size))
 have eo:=Za dl
 clear dl z0 z1 zl
 clear hb
 go_wp2_with fail
 refine (ee.out q1 b7.out).mono ?_
 rintro e q2 ⟨rfl,hb⟩
 have cc:=Za (b7.out.trans (hb.mono b7.out.size))
 have b5:=Za (eo.out.below hb hb.size)
 clear hb
 go_wp2_with fail
 refine (er.out q2 cc.out).mono ?_
 rintro e q3 ⟨rfl,hb⟩
 have ck:=Za (cc.out.trans (hb.mono cc.out.size))
 have b3:=Za (b5.out.below hb hb.size)
 clear hb
 go_wp2_with fail
 refine (ey.out q3 ck.out).mono ?_
 rintro e q4 ⟨rfl,hb⟩
 have br:=Za (ck.out.trans (hb.mono ck.out.size))
 have b2:=Za (b3.out.below hb hb.size)
 clear hb
 go_wp2_with fail
 refine (dn.out Al ln cl l q4 aj.out (by omega) cn.out (aw.out.below br.out br.out.size)).mono ?_
 rintro e q5 ⟨A8,c8,rfl,cw,hb⟩
 have bz:=Za (br.out.trans (hb.mono br.out.size))
 have b6:=Za (b2.out.below hb hb.size)
 have dy:=Za cw
 clear cw
 clear hb
 go_wp2_with fail
 refine (e0.out A8 c8 q5 bz.out dy.out).mono ?_
 rintro e q6 ⟨A9,c9,rfl,dp,hb⟩
 have cu:=Za (bz.out.trans (hb.mono bz.out.size))
 have bg:=Za (b6.out.below hb hb.size)
 have et:=Za dp
 clear dp
 clear hb
 go_wp2_with fail
 refine (en.out A9 A7 c9 c7 q6 et.out bg.out).mono ?_
 rintro e q7 ⟨rfl,hb⟩
 have cz:=Za (cu.out.trans (hb.mono cu.out.size))
 have bi:=Za (bg.out.below hb hb.size)
 clear hb
 go_wp2_with fail
 refine (ec.out A7 c7 q7 bi.out).mono ?_
 rintro e q8 ⟨rfl,hb⟩
 have bs:=Za (cz.out.trans (hb.mono cz.out.size))
 have bh:=Za (bi.out.below hb hb.size)
 clear hb
 go_wp2_with fail
 go_loopw [14,74] (fun _ i wr=>∃(k:Nat),k≤zn∧i=.int .i64 k∧Below q8.heap.size q8 wr) (fun _ i _=>zn-(intOf i).toNat)
 case atStart=>exact⟨0,ZE _,rfl,Zd _ _⟩
 case round =>
  obtain⟨k,hk,rfl,aa⟩:=hrel
  by_cases hlt:k<zn
  · obtain⟨x,hx⟩:∃x,Z[k]?=some x:=⟨_,Zc (by rw[bp.out];exact hlt)⟩
    have cf:=Zk hx
    obtain⟨e8,e9⟩:=dc.out x cf
    obtain⟨ab,ao,rfl,e2,dh⟩:=(bh.out.below aa aa.size) (by rw[Zg,bp.out];omega)
    have hc:=dh k (by rw[Zg,bp.out];exact hlt)
    rw[Zu,hx,Zt]at hc
    have kI:(k:Int)<zn:=by omega
    have k0:(0:Int)≤k:=by omega
    have ex:IntKind.i32.wrap x=x:=by rw[Xu];omega
    have HP:=Za (ef.out x wr (bs.out.trans (aa.mono bs.out.size)) cf)
    have bk:=Za aa
    clear hx cf dh aa
    go_wp2_with (first|(go_at_call 25;(try rw[ex]);refine HP.out.mono ?_;rintro e w5 ⟨rfl,dk⟩;have ez:=Za (bk.out.trans (dk.mono bk.out.size));clear dk hc)|fail)
    exact⟨⟨k+1,by omega,by first|rfl|go_num,ez.out⟩,by simp[intOf];omega⟩
  · obtain rfl:k=zn:=by omega
    have kI:¬(k:Int)<k:=by omega
    obtain⟨q9,rfl⟩:∃w9:World,w9=wr:=⟨_,rfl⟩
    have ct:=Za (bs.out.trans (aa.mono bs.out.size))
    have cj:=Za (bh.out.below aa aa.size)
    clear aa
    have bt:=ej.out
    go_wp2_with fail
    refine (eg.out q9 ct.out).mono ?_
    rintro e eu ⟨rfl,hb⟩
    have a7:=Za (ct.out.trans (hb.mono ct.out.size))
    have cr:=Za (cj.out.below hb hb.size)
    clear hb
    go_wp2_with fail
    refine (dn.out A7 k c7 Z eu bp.out (by omega) dc.out cr.out).mono ?_
    rintro e ew ⟨eh,eb,rfl,bj,hb⟩
    have ar:=Za (a7.out.trans (hb.mono a7.out.size))
    have b9:=Za bj
    clear bj
    clear hb
    go_wp2_with fail
    refine (dz.out eh eb ew ar.out b9.out).mono ?_
    rintro e ea ⟨rfl,hb⟩
    have aq:=Za (ar.out.trans (hb.mono ar.out.size))
    clear hb
    go_wp2_with fail
    refine (ei.out ea aq.out).mono ?_
    rintro e dw ⟨rfl,hb⟩
    have ap:=Za (aq.out.trans (hb.mono aq.out.size))
    clear hb
    go_wp2_with fail
    refine (dv.out dw ap.out).mono ?_
    rintro e e5 ⟨rfl,hb⟩
    have cm:=Za (ap.out.trans (hb.mono ap.out.size))
    clear hb
    have ep:=Za (cq.out.trans (cm.out.mono cq.out.size))
    go_wp2_with fail
    go_ret
    exact⟨by first|rfl|simp,ep.out⟩
end Go.Proofs.YtikiplbhlohmdaaGreatDoor
