/- The law OrderSorts, by walking its text. -/
import Derived.Test.YtbeakahjbkdeiaaGreatDoorAl1
import Derived.Test.YtbeakahjbkdeiaaGreatDoorTxAwake
import Derived.Test.YtbeakahjbkdeiaaGreatDoorOrRuns
import Derived.Test.YtbeakahjbkdeiaaGreatDoorTxSame
set_option linter.unusedVariables false
set_option linter.unusedSimpArgs false
namespace Go.Proofs.YtbeakahjbkdeiaaGreatDoor
open Go.RowKit
set_option linter.unusedSimpArgs false
set_option linter.unusedVariables false
set_option maxRecDepth 100000 in
set_option maxHeartbeats 4000000 in
theorem Tx.orderSorts_any (w:World) (A XA PA MA:Option Addr) (n c xn xc pn pc mn mc:Nat) (T0:List Rw.Row) (E0 P M:List Int) (hT:Tx.In A XA PA MA n c xn xc pn pc mn mc T0 E0 P M w) (hL:Rw.Laid w) :
 Calls Tryz.prog 5 #[.agg #[.slice A n c,.slice XA xn xc,.slice PA pn pc,.slice MA mn mc]] w fun e w'=>e=.returned (.bool true)∧Below w.heap.size w w':=by
 have ap:=Za (fun W (hW:Below w.heap.size w W)=>Tx.made_in A XA PA MA n c xn xc pn pc mn mc T0 E0 P M 40 W (by decide) (hT.below hW) (Rw.Laid.next hL hW))
 have cz:=Za (fun W (hW:Below w.heap.size w W)=>Tx.awake16 W (hL.next hW))
 obtain⟨wa,bs⟩:∃wa,w.alloc (.cells #[.slice A n c,.slice XA xn xc,.slice PA pn pc,.slice MA mn mc] 50)=wa:=⟨_,rfl⟩
 have dl:Below w.heap.size w wa:=by rw[←bs];exact (Zd _ _).alloc (Zb _) _
 have dk:Rw.At wa w.heap.size 50 [.slice A n c,.slice XA xn xc,.slice PA pn pc,.slice MA mn mc]:=by rw[←bs];exact Rw.At.new w 50 [.slice A n c,.slice XA xn xc,.slice PA pn pc,.slice MA mn mc]
 have cx:=Za bs
 have bq:=Za dl
 have du:=Za dk
 clear bs dl dk hT hL
 go_enter Tryz.func5,Tryz.ntmps5
 go_upto_region 1 with (fail)
 rw[cx.out]
 go_wp2_with fail
 refine (cz.out wa bq.out).mono ?_
 rintro e w1 ⟨rfl,b5⟩
 have ae:=du.out.below b5
 have bz:=Za (bq.out.trans (b5.mono bq.out.size))
 have x0:=ae.cell 0 rfl
 have x1:=ae.cell 1 rfl
 have x2:=ae.cell 2 rfl
 have x3:=ae.cell 3 rfl
 have xl:=ae.lt
 clear b5 ae
 go_wp2_with fail
 refine (ap.out w1 bz.out).mono ?_
 rintro e w2 ⟨p,v2,T,E,S,l,Al,cl,rfl,b9,a7,hR,af,cd,eh,ay,ck⟩
 obtain⟨pb,rfl,dy⟩:=b9.form
 obtain⟨A2,c2,XA2,xc2,rfl,b1⟩:=id a7
 obtain⟨n2,bl⟩:∃k,T.length=k:=⟨_,rfl⟩
 obtain⟨xn2,ar⟩:∃k,E.length=k:=⟨_,rfl⟩
 obtain⟨ln,bx⟩:∃k,l.length=k:=⟨_,rfl⟩
 unfold Md.tv at a7 ay ⊢
 rw[bl,ar]at a7 ⊢
 simp only[bl,ar]at ay
 rw[bx]at af eh ay ⊢
 obtain⟨w3,a6⟩:∃w3,w2.alloc (.cells #[.slice A2 n2 c2,.slice XA2 xn2 xc2] 31)=w3:=⟨_,rfl⟩
 have az:Below w2.heap.size w2 w3:=by rw[←a6];exact (Zd _ _).alloc (Zb _) _
 have ah:Rw.At w3 w2.heap.size 31 [.slice A2 n2 c2,.slice XA2 xn2 xc2]:=by rw[←a6];exact Rw.At.new w2 31 [.slice A2 n2 c2,.slice XA2 xn2 xc2]
 have ei:=Za a6
 have cr:=Za (bz.out.trans ((ck.trans (az.mono ck.size)).mono bz.out.size))
 have c1:=Za ah
 have dt:=Za (b9.below az)
 have cm:=Za (a7.below az)
 have cy:=Za (own_below af az (Zb _))
 have HR:=Za hR
 have ep:=Za cd
 have ag:=Za bx
 have eo:=Za bl
 have en:Hid (∀w'',w3.grownBy w'' (Value.slice Al ln cl).ownBlock→Ud.Is w'' (.pointer (some ⟨pb,0,none⟩)) T S∧Md.Doc w'' (.agg #[.slice A2 n2 c2,.slice XA2 xn2 xc2]) T E):=Za fun w'' hg=>ay w'' (Rw.grown_trans (by rw[←a6];exact Yi _ _ _) hg)
 have b4:=Za (fun x (hx:x∈l)=>Tx.isC_i32 (cd x hx))
 have z0:=ah.cell 0 rfl
 have z1:=ah.cell 1 rfl
 have zl:=ah.lt
 clear x0 x1 x2 x3 xl ay a7 b1 b9 hR af cd bx bl ar a6 az ah ck ap cz cx bq du
 go_upto_region 4 with (fail)
 rw[ei.out]
 have bu:=HR.out.ok
 have cg:=Sl.of_own cy.out
 have cn:=Tx.runes_any Al ln cl l w3 ag.out (by omega) b4.out cg
 clear z0 z1 zl
 go_wp2_with fail
 refine cn.mono ?_
 rintro e w5 ⟨A5,c5,rfl,ai,aq⟩
 rw[ag.out]at ai ⊢
 have cw:=Za (cr.out.trans (aq.mono cr.out.size))
 have ef:=Za (c1.out.below aq)
 have ee:=Za (cm.out.below aq)
 have dc:=Za (dt.out.below aq)
 have cc:=Za (cg.below aq aq.size)
 have c8:=Za (Sl.of_own ai)
 obtain⟨f,hf⟩:∃f,Md.cls T=f:=⟨_,rfl⟩
 have h0:∀x,0≤f x:=fun x=>by rw[←hf];exact (Ud.cls_bd bu x).1
 obtain⟨wl,ak⟩:∃wl,Or.of f l=wl:=⟨_,rfl⟩
 have bp:wl.length=ln:=by rw[←ak,Or.of_len];exact ag.out
 have cv:∀x∈wl,-2147483648≤x∧x≤2147483647:=fun x hx=>b4.out x (by rw[←ak]at hx;exact (Or.of_mem f l x).1 hx)
 have bi:Or.inB f 0 wl=true:=by rw[←ak];exact Or.in_of h0 l
 have av:Or.inB f 0 l=decide (wl=l):=by
  rw[YK,Yb,←ak]
  exact Or.in_iff h0 l
 have a1:Or.of f wl=wl:=by rw[←ak];exact Or.of_of f l
 have ch:Hid (∀W,Below w5.heap.size w5 W→Calls Tryz.prog 32 #[.agg #[.slice A2 n2 c2,.slice XA2 xn2 xc2],.slice Al ln cl] W fun e w'=>∃A' c',e=.returned (.slice A' ln c')∧Sl w' w'.heap.size A' (wl.map (Value.int .i64))∧Below W.heap.size W w'):=Za fun W hW=>by
  refine (Nf.rof_any _ T E Al ln cl l W (by have:=HR.out.tl;omega) (ee.out.below hW) ag.out (by omega) (cc.out.below hW hW.size)).mono ?_
  rintro e w' ⟨A',c',rfl,ho,hb⟩
  rw[hf,ak,bp]at ho ⊢
  exact⟨A',c',rfl,Sl.of_own ho,hb⟩
 have dw:Hid (∀(A':Option Addr) (c':Nat) (z:List Int) (W:World),Below w5.heap.size w5 W→z.length=ln→Or.of f z=wl→Sl W W.heap.size A' (z.map (Value.int .i32))→Calls Tryz.prog 33 #[.pointer (some ⟨pb,0,none⟩),.slice A' ln c'] W fun e w'=>∃A' c',e=.returned (.slice A' ln c')∧Sl w' w'.heap.size A' (wl.map (Value.int .i32))∧Below W.heap.size W w'):=Za fun A' c' z W hW hz ho hA=>by
  refine (Or.ofD_any _ T S A' ln c' z W bu (dc.out.below hW) hz (by omega) hA).mono ?_
  rintro e w' ⟨A',c',rfl,af,hb⟩
  rw[hf,ho,bp]at af ⊢
  exact⟨A',c',rfl,Sl.of_own af,hb⟩
 have a8:Hid (∀(A':Option Addr) (c':Nat) (z:List Int) (W:World),Below w5.heap.size w5 W→z.length=ln→Sl W W.heap.size A' (z.map (Value.int .i32))→Calls Tryz.prog 35 #[.pointer (some ⟨pb,0,none⟩),.slice A' ln c'] W fun e w'=>e=.returned (.bool (Or.inB f 0 z))∧Below W.heap.size W w'):=Za fun A' c' z W hW hz hA=>by
  have:=Or.in_any _ T S A' ln c' z W bu (dc.out.below hW) hz (by omega) hA
  rw[hf]at this
  exact this
 have b8:Hid (∀(A' B':Option Addr) (ca cb:Nat) (z:List Int) (W:World),z.length=ln→(∀x∈z,-2147483648≤x∧x≤2147483647)→Sl W W.heap.size A' (z.map (Value.int .i32))→Sl W W.heap.size B' (z.map (Value.int .i64))→Calls Tryz.prog 34 #[.slice A' ln ca,.slice B' ln cb] W fun e w'=>e=.returned (.bool true)∧Below W.heap.size W w'):=Za fun A' B' ca cb z W hz ej hA hB=>by
  have:=Tx.same_any A' B' ln ca ln cb z z W hz hz (by omega) (by omega) ej hA hB
  rw[Zo rfl]at this
  exact this
 have aj:=Za bp
 have dp:=Za cv
 have b2:=Za a1
 have dx:=Za ak
 have bm:=ef.out
 have y0:=bm.cell 0 rfl
 have y1:=bm.cell 1 rfl
 have yl:=bm.lt
 clear cg ai aq cn c1 cm dt cy bp cv a1 ak bu h0 bm
 go_wp2_with fail
 refine (ch.out w5 (Zd _ _)).mono ?_
 rintro e w6 ⟨A6,c6,rfl,di,dm⟩
 have ed:=Za di
 have au:=Za dm
 clear di dm y0 y1 yl
 go_wp2_with fail
 refine (dw.out A5 c5 l w6 au.out ag.out dx.out (c8.out.below au.out au.out.size)).mono ?_
 rintro e w7 ⟨A7,c7,rfl,cq,br⟩
 have ec:=Za cq
 have bc:=Za (ed.out.below br br.size)
 have bn:=Za (au.out.trans (br.mono au.out.size))
 have eb:=Za (cc.out.below bn.out bn.out.size)
 clear cq br
 go_wp2_with fail
 go_loopw [10,11,33] (fun b _ i wr=>∃(k:Nat),k≤ln∧i=.int .i64 k∧b=.bool (decide (wl.take k=l.take k))∧Below w7.heap.size w7 wr) (fun _ _ i _=>ln-(intOf i).toNat)
 case atStart=>exact⟨0,Zz _,rfl,rfl,Zd _ _⟩
 case round =>
  obtain⟨k,hk,rfl,rfl,aa⟩:=hrel
  by_cases hlt:k<ln
  · obtain⟨x,hx⟩:∃x,l[k]?=some x:=⟨_,Zc (by rw[ag.out];exact hlt)⟩
    obtain⟨y,hy⟩:∃y,wl[k]?=some y:=⟨_,Zc (by rw[aj.out];exact hlt)⟩
    obtain⟨ab,ao,rfl,er,dv⟩:=(eb.out.below aa aa.size) (by rw[Zf,ag.out];omega)
    obtain⟨bb,bo,rfl,ek,cu⟩:=(bc.out.below aa aa.size) (by rw[Zf,aj.out];omega)
    have hc:=dv k (by rw[Zf,ag.out];exact hlt)
    have hd:=cu k (by rw[Zf,aj.out];exact hlt)
    rw[Zl,hx,Zn]at hc
    rw[Zl,hy,Zn]at hd
    have dr:decide (wl.take (k+1)=l.take (k+1))=(decide (wl.take k=l.take k)&&(x == y)):=by
     rw[Zr,Zr,hx,hy,YK,Zx,Yb,Yb,Y8]
     constructor
     · intro h
       obtain⟨h1,h2⟩:=List.append_inj h (by rw[Zm,Zm,aj.out,ag.out])
       simp at h2
       exact⟨h1,h2.symm⟩
     · rintro⟨h1,rfl⟩
       rw[h1]
    have kI:(k:Int)<ln:=by omega
    have k0:(0:Int)≤k:=by omega
    have b6:=Za dr
    have bj:=Za aa
    obtain⟨bt,df⟩:∃b,decide (wl.take k=l.take k)=b:=⟨_,rfl⟩
    rw[df]at b6 ⊢
    clear hx hy dv cu dr aa df
    cases bt
    · go_upto_region 13 with (fail)
      go_quiet (fail)
      go_wp2_with fail
      exact⟨⟨k+1,by omega,by first|rfl|go_num,by rw[b6.out];rfl,below_drewN bj.out _⟩,by simp[intOf];omega⟩
    · go_upto_region 13 with (fail)
      go_quiet (fail)
      go_wp2_with fail
      exact⟨⟨k+1,by omega,by first|rfl|go_num,by rw[b6.out];simp,below_drewN bj.out _⟩,by simp[intOf];omega⟩
  · obtain rfl:ln=k:=by omega
    have kI:¬(ln:Int)<ln:=by omega
    rw[Zj (by rw[aj.out];exact Zb _),Zj (by rw[ag.out];exact Zb _)]
    obtain⟨sb,cp⟩:∃b,decide (wl=l)=b:=⟨_,rfl⟩
    rw[cp]at av ⊢
    obtain⟨w8,rfl⟩:∃w8:World,w8=wr:=⟨_,rfl⟩
    have HU:=Za (bn.out.trans (aa.mono bn.out.size))
    have bw:Hid (∀W,Below w8.heap.size w8 W→Below w5.heap.size w5 W):=Za fun W hW=>HU.out.trans (hW.mono HU.out.size)
    have aw:=Za (ec.out.below aa aa.size)
    have bf:=Za (bc.out.below aa aa.size)
    have dn:=Za (c8.out.below HU.out HU.out.size)
    have eg:=Za (cc.out.below HU.out HU.out.size)
    have b3:=Za av
    have cj:=Za bi
    have ct:=Za (Zd w8.heap.size w8)
    clear aa cp av bi
    go_wp2_with fail
    refine (b8.out A7 A6 c7 c6 wl w8 aj.out dp.out aw.out bf.out).mono ?_
    rintro e q1 ⟨rfl,hb⟩
    have ax:=Za (ct.out.trans (hb.mono ct.out.size))
    clear hb
    go_wp2_with fail
    refine (b8.out A5 Al c5 cl l q1 ag.out b4.out (dn.out.below ax.out ax.out.size) (eg.out.below ax.out ax.out.size)).mono ?_
    rintro e q2 ⟨rfl,hb⟩
    have bg:=Za (ax.out.trans (hb.mono ax.out.size))
    clear hb
    have b7:=a8.out A7 c7 wl q2 (bw.out _ bg.out) aj.out (aw.out.below bg.out bg.out.size)
    rw[cj.out]at b7
    go_wp2_with fail
    refine (b7).mono ?_
    rintro e q3 ⟨rfl,hb⟩
    have bh:=Za (bg.out.trans (hb.mono bg.out.size))
    clear b7
    clear hb
    have cf:=a8.out A5 c5 l q3 (bw.out _ bh.out) ag.out (dn.out.below bh.out bh.out.size)
    rw[b3.out]at cf
    go_wp2_with fail
    refine (cf).mono ?_
    rintro e q4 ⟨rfl,hb⟩
    have ba:=Za (bh.out.trans (hb.mono bh.out.size))
    clear cf
    clear hb
    go_wp2_with fail
    refine (dw.out A7 c7 wl q4 (bw.out _ ba.out) aj.out b2.out (aw.out.below ba.out ba.out.size)).mono ?_
    rintro e q5 ⟨A9,c9,rfl,dh,hb⟩
    have bk:=Za (ba.out.trans (hb.mono ba.out.size))
    have ea:=Za dh
    clear dh
    clear hb
    go_wp2_with fail
    refine (b8.out A9 A6 c9 c6 wl q5 aj.out dp.out ea.out (bf.out.below bk.out bk.out.size)).mono ?_
    rintro e q6 ⟨rfl,hb⟩
    have au:=Za (bk.out.trans (hb.mono bk.out.size))
    clear hb
    have dz:=Za (cw.out.trans ((bw.out _ au.out).mono cw.out.size))
    go_wp2_with fail
    go_ret
    exact⟨by first|rfl|simp,dz.out⟩
end Go.Proofs.YtbeakahjbkdeiaaGreatDoor
