/- The document's layer model: Check, by walking its text. -/
import Derived.Test.YtbeakahjbkdeiaaGreatDoorAl1
import Derived.Test.YtbeakahjbkdeiaaGreatDoorMdRef5
import Derived.Test.YtbeakahjbkdeiaaGreatDoorPgRaw
import Derived.Test.YtbeakahjbkdeiaaGreatDoorRwLines
import Derived.Test.YtbeakahjbkdeiaaGreatDoorFaCh
import Derived.BigQuiet
import Derived.Deep.QuietTactic
set_option linter.unusedVariables false
set_option linter.unusedSimpArgs false
namespace Go.Proofs.YtbeakahjbkdeiaaGreatDoor
open Go.RowKit
set_option linter.unusedSimpArgs false
set_option linter.unusedVariables false
theorem Md.own_lit (w:World) (e:TypeId) (u:Value):(w.alloc (.cells #[u] e)).ownsRow w.heap.size e 1 (.slice (some ⟨w.heap.size,0,none⟩) 1 1) 1 [u] :=
 ⟨rfl,.inr ⟨w.heap.size,1,#[u],rfl,Zb _,ZT w _,Zb _,by decide,rfl,rfl⟩⟩
theorem Md.bad_row {last:Int} {r:Rw.Row} (h:(!C.isC r.1||decide (r.1≤last)||decide (r.2.1<0)||decide (254<r.2.1)||decide (2<r.2.2.length))=true):Md.bad last r=1:=by
 unfold Md.bad
 rw[Zv h]
theorem Md.bad_hangul {last:Int} {r:Rw.Row} {x:Int} {j:Nat} (h:(!C.isC r.1||decide (r.1≤last)||decide (r.2.1<0)||decide (254<r.2.1)||decide (2<r.2.2.length))=false) (hx:(r.1::r.2.2)[j]?=some x) (hk:Hg.ofK x≠0):Md.bad last r=2:=by
 unfold Md.bad
 rw[Zs (by rw[h];decide),Zv]
 rw[Yv]
 exact⟨x,List.mem_of_getElem? hx,by simpa using hk⟩
theorem Md.bad_target {last:Int} {r:Rw.Row} {x:Int} {j:Nat} (h:(!C.isC r.1||decide (r.1≤last)||decide (r.2.1<0)||decide (254<r.2.1)||decide (2<r.2.2.length))=false) (h2:∀x∈r.1::r.2.2,Hg.ofK x=0) (hx:r.2.2[j]?=some x) (hk:C.isC x=false):Md.bad last r=3:=by
 unfold Md.bad
 rw[Zs (by rw[h];decide),Zs,Zv]
 · rw[Yv]
   exact⟨x,Zk hx,by rw[hk];rfl⟩
 · rw[Yv]
   rintro⟨y,hy,aa⟩
   rw[Zp]at aa
   exact aa (h2 y hy)
theorem Md.bad_none {last:Int} {r:Rw.Row} (h:(!C.isC r.1||decide (r.1≤last)||decide (r.2.1<0)||decide (254<r.2.1)||decide (2<r.2.2.length))=false) (h2:∀x∈r.1::r.2.2,Hg.ofK x=0) (h3:∀x∈r.2.2,C.isC x=true):Md.bad last r=0:=by
 unfold Md.bad
 rw[Zs (by rw[h];decide),Zs,Zs]
 · rw[Yv]
   rintro⟨y,hy,aa⟩
   rw[h3 y hy]at aa
   cases aa
 · rw[Yv]
   rintro⟨y,hy,aa⟩
   rw[Zp]at aa
   exact aa (h2 y hy)
theorem Md.ofK_nn (c:Int):0≤Hg.ofK c:=by
 unfold Hg.ofK
 repeat' split
 all_goals decide
theorem Md.all_succ {l:List Int} {P:Int→Prop} {k:Nat} {x:Int} (hx:l[k]?=some x) (h:∀y∈l.take k,P y) (hp:P x):∀y∈l.take (k+1),P y:=by
 rw[Zr,hx]
 intro y hy
 rcases List.mem_append.1 hy with hy|hy
 · exact h y hy
 · simp at hy
   subst hy
   exact hp
set_option maxRecDepth 100000 in
set_option maxHeartbeats 8000000 in
theorem Md.rcheck_any (v:Value) (T:List Rw.Row) (E:List Int) (w:World) (ef:T.length≤100000) (jf:E.length≤1000000) (hbd:Md.bd T) (eb:∀r∈T,r.2.2.length≤1000) (gf:∀r∈T,-9223372036854775808≤r.2.1∧r.2.1≤9223372036854775807) (h:Md.Doc w v T E) (cf:∀A n c x,v=.agg #[.slice A n c,x]→n≤c) :
 Calls Tryz.prog 160 #[v] w fun e w'=>e=.returned (.string (Md.note (Md.chk T (Md.xs E))))∧Below w.heap.size w w':=by
 obtain⟨i0,ig,ix,i7,ja⟩:=Yf infoInt
 have ia:=Za h
 obtain⟨A,c,XA,xc,rfl,h2,hX⟩:=id h
 have cf:=cf _ _ _ _ rfl
 obtain⟨xn,hxn⟩:∃k,E.length=k:=⟨_,rfl⟩
 obtain⟨n,hn⟩:∃k,T.length=k:=⟨_,rfl⟩
 obtain⟨res,ct⟩:∃k,Md.chk T (Md.xs E)=k:=⟨_,rfl⟩
 have dm:Hid (∀(d:Int) (W:World),Below w.heap.size w W → -2147483648≤d→d≤2147483647→Calls Tryz.prog 25 #[.agg #[.slice A n c,.slice XA xn xc],.int .i64 d] W (Md.RetFull (Md.full T d) W)):=Za fun d W hW a b=>by
  have:=Md.rfull_any _ T E d W ef (h.below hW) hbd eb a b
  rw[hn,hxn]at this
  exact this
 have b4:Hid (∀(d:Int) (W:World),Below w.heap.size w W → -2147483648≤d→d≤2147483647→Calls Tryz.prog 28 #[.agg #[.slice A n c,.slice XA xn xc],.int .i64 d] W fun e w'=>e=.returned (.bool (Md.prim T (Md.xs E) d))∧Below W.heap.size W w'):=Za fun d W hW a b=>by
  have:=Md.rprim_any _ T E d W ef jf (h.below hW) eb a b
  rw[hn,hxn]at this
  exact this
 rw[hn]at ef cf
 rw[hn,hxn,ct]
 obtain⟨wa,ea⟩:∃wa,w.alloc (.cells #[.slice A n c,.slice XA xn xc] 31)=wa:=⟨_,rfl⟩
 have e6:Below w.heap.size w wa:=by rw[←ea];exact (Zd _ _).alloc (Zb _) _
 have e5:Rw.At wa w.heap.size 31 [.slice A n c,.slice XA xn xc]:=by rw[←ea];exact Rw.At.new w 31 [.slice A n c,.slice XA xn xc]
 have h9:=Za ea
 have bn:=Za e6
 have jg:=Za e5
 have bt:=Za (h2.below e6)
 have HN:=Za hn
 have cp:=Za ct
 have dz:=Za hbd
 have ie:=Za eb
 have i6:=Za gf
 have z0:=e5.cell 0 rfl
 clear ea e6 e5 hn hxn ct hbd eb gf h h2 hX
 unfold Md.tv at *
 go_enter Tryz.func160,Tryz.ntmps160
 go_upto_region 1 with (fail)
 rw[h9.out]
 go_wp2_with fail
 go_loopw [3,21] (fun v3 i wr=>∃(k:Nat) (last:Int),k≤n∧i=.int .i64 k∧v3=.int .i64 last∧(-2147483648≤last∧last≤2147483647)∧Md.rowsBad (-1) T=Md.rowsBad last (T.drop k)∧Below wa.heap.size wa wr) (fun _ i _=>n-(intOf i).toNat)
 case atStart=>exact⟨0,-1,Zz _,rfl,rfl,by omega,rfl,Zd _ _⟩
 case round =>
  obtain⟨k,last,hk,rfl,rfl,gg,ar,bc⟩:=hrel
  have aa:=jg.out.below bc
  have z0:=aa.cell 0 rfl
  have z1:=aa.cell 1 rfl
  have fy:=Za ar
  have bs:=Za bc
  have ez:=Za aa
  clear ar aa
  by_cases hlt:k<n
  · obtain⟨r,hr⟩:∃r,T[k]?=some r:=⟨_,Zc (by rw[HN.out];exact hlt)⟩
    have aj:=Zk hr
    have ar:=dz.out r aj
    have ei:=i6.out r aj
    have jd:=ie.out r aj
    obtain⟨b,o,a,dl,hb,c0,c1,c2,cq⟩:=(bt.out.below bc).row hr
    obtain⟨ml,cj⟩:∃k,r.2.2.length=k:=⟨_,rfl⟩
    rw[cj]at c2 jd
    have bb:Below wr.heap.size wr (wr.alloc (.cells #[.int .i64 r.1,.int .i64 r.2.1,.slice a.1 ml a.2] 43)):=(Zd _ _).alloc (Zb _) _
    have af:=Rw.At.new wr 43 [.int .i64 r.1,.int .i64 r.2.1,.slice a.1 ml a.2]
    obtain⟨x0,x1,x2,_,_,_⟩:=af.three
    have h6:=Za (cq.below bb (Zb _))
    have bu:=Za (bc.trans (bb.mono bc.size))
    have hd:=Md.drop_cons hr
    have cn:=fy.out
    rw[hd,Md.rowsBad]at cn
    have dp:=Za cn
    have ho:=Za ar
    have bf:=Za cj
    have jc:(k:Int)<n:=by omega
    have iy:(0:Int)≤k:=by omega
    obtain⟨ih,im⟩:=ar.1
    have cx:∀j,Md.bad last r=j→j≠0→res=j:=by
     intro j hj h0
     rw[←cp.out]
     unfold Md.chk
     rw[dp.out,hj,Zs h0,Zv h0]
    have ay:=Za cx
    have cm:=Ch.ris_any r.1 (wr.alloc (.cells #[.int .i64 r.1,.int .i64 r.2.1,.slice a.1 ml a.2] 43))
    obtain⟨ic,fh⟩:∃b,C.isC r.1=b:=⟨_,rfl⟩
    rw[fh]at cm
    have cw:=Za fh
    subst dl
    clear hr aj ar cq bb af hd cn bc cj cx fh
    have di:∀(j:Nat) (W:World) (e:Ending) (w':World),res=j→e=.returned (.string (Md.note j))→Below wa.heap.size wa W→W=w'→e=.returned (.string (Md.note res))∧Below w.heap.size w w':=by
     rintro j W e w' rfl rfl hW rfl
     exact⟨rfl,bn.out.trans (hW.mono bn.out.size)⟩
    have ah:=Za di
    clear di
    cases ic
    · have ai:=ay.out 1 (Md.bad_row (by rw[cw.out,Bool.not_false,Xd,Xd,Xd,Xd])) (by decide)
      have ax:=Za ai
      clear ai
      go_wp2_with (first|(go_at_call 91;refine cm.mono ?_;rintro e w' ⟨rfl,rfl⟩)|fail)
      go_ret
      exact ah.out 1 _ _ _ ax.out rfl bu.out rfl
    · rcases hb2:decide (r.1≤last) with _|_
      · rcases hb3:decide (r.2.1<0) with _|_
        · rcases b7:decide (254<r.2.1) with _|_
          · rcases hb5:decide (2<(ml:Int)) with _|_
            · have h5:decide (2<r.2.2.length)=false:=by rw[bf.out];simp at hb5 ⊢;omega
              have gx:(!C.isC r.1||decide (r.1≤last)||decide (r.2.1<0)||decide (254<r.2.1)||decide (2<r.2.2.length))=false:=by rw[cw.out,hb2,hb3,b7,h5];rfl
              have fe:=Za gx
              clear gx h5
              obtain⟨wn,bo⟩:∃wn,(wr.alloc (.cells #[.int .i64 r.1,.int .i64 r.2.1,.slice a.1 ml a.2] 43)).alloc (.cells #[.int .i64 r.1] 3)=wn:=⟨_,rfl⟩
              have dr:wn.ownsRow (wr.heap.size+1) 3 1 (.slice (some ⟨wr.heap.size+1,0,none⟩) 1 1) 1 [.int .i64 r.1]:=by
               have:=Md.own_lit (wr.alloc (.cells #[.int .i64 r.1,.int .i64 r.2.1,.slice a.1 ml a.2] 43)) 3 (.int .i64 r.1)
               rw[ZD]at this
               rw[←bo];exact this
              have eg:Below (wr.heap.size+1) (wr.alloc (.cells #[.int .i64 r.1,.int .i64 r.2.1,.slice a.1 ml a.2] 43)) wn:=by rw[←bo];exact (Zd _ _).alloc (by simp) _
              have fm:=h6.out.belowN eg (ZW _) (Zb _)
              have af:Rw.At wn wr.heap.size 43 [.int .i64 r.1,.int .i64 r.2.1,.slice a.1 ml a.2]:=by rw[←bo];exact (Rw.At.new wr 43 [.int .i64 r.1,.int .i64 r.2.1,.slice a.1 ml a.2]).alloc _
              have ek:wr.heap.size+1≤wn.heap.size:=af.lt
              have fg:=Za dr
              have gb:=Za fm
              have ck:=Za af
              have eu:=Za bo
              have dy:=Za (bu.out.trans (eg.mono (Zh bs.out.size (ZW _))))
              have jb:Hid (∀u∈r.2.2.map (Value.int .i64),u.oneCell'=true):=Za (oneCells .i64 _)
              have ey:Hid ((r.2.2.map (Value.int .i64)).length=ml*1):=Za (by rw[Zf,bf.out,Y6])
              clear dr eg fm af bo
              go_wp2_with (first|(go_at_call 91;refine cm.mono ?_;rintro e w' ⟨rfl,rfl⟩)|(at_builtin;(rw[eu.out]);refine wpList_appendSl _ rfl _ _ _ rfl (wr.heap.size+1) 3 i0 _ 1 8 Tryz.underlying29 ig ix i7 ja rfl (by omega) _ 1 _ rfl fg.out _ a.1 ml a.2 (r.2.2.map (Value.int .i64)) rfl ey.out gb.out jb.out (by simp only[maxLen];omega) (by omega) ek ?_;intro v1 w4 bg b7 iz;obtain⟨A4,c4,rfl⟩:=own_form bg)|fail)
              have dw:=ck.out.below' b7 (ZR _)
              obtain⟨y0,y1,y2,_,_,_⟩:=dw.three
              have gz:=Za (Sl.of_own bg)
              have dn:=Za (dy.out.trans (b7.mono (Zh bs.out.size (ZW _))))
              have ib:=Za (gb.out.belowN b7 (ZW _) (Zb _))
              obtain⟨L,hL⟩:∃L,r.1::r.2.2=L:=⟨_,rfl⟩
              have HL:=Za hL
              have gw:[.int .i64 r.1]++r.2.2.map (Value.int .i64)=L.map (Value.int .i64):=by rw[←hL];rfl
              rw[gw]at gz
              have ft:Hid (L.length=1+ml):=Za (by rw[←hL,ZM,bf.out];omega)
              have h7:Hid (∀x∈L,-2147483648≤x∧x≤2147483647):=Za (by
               rw[←hL]
               intro x hx
               rcases List.mem_cons.1 hx with rfl|hx
               · exact ho.out.1
               · exact ho.out.2 x hx)
              clear dw bg b7 iz hL gw x0 x1 x2 c0 c1 c2 z0 z1
              go_loop [60] (fun i=>∃j:Nat,j≤1+ml∧i=.int .i64 j∧∀x∈L.take j,Hg.ofK x=0) (fun i=>1+ml-(intOf i).toNat)
              case atStart=>exact⟨0,Zz _,rfl,by simp⟩
              case round =>
               obtain⟨j,hj,rfl,bk⟩:=hrel
               have aw:=Za bk
               clear bk
               by_cases hlt2:j<1+ml
               · obtain⟨x,hx⟩:∃x,L[j]?=some x:=⟨_,Zc (by rw[ft.out];exact hlt2)⟩
                 obtain⟨g,go,rfl,hg,i1,_⟩:=gz.out.ints hx
                 have hxb:=h7.out x (Zk hx)
                 have hK:=Hg.kind_any x w4 hxb.1 hxb.2
                 have er:=Md.ofK_nn x
                 obtain⟨kx,cu⟩:∃q,Hg.ofK x=q:=⟨_,rfl⟩
                 rw[cu]at hK er
                 have ji:(j:Int)<((1+ml:Nat):Int):=by omega
                 have hj0:(0:Int)≤j:=by omega
                 have HX:=Za hx
                 have dx:=Za cu
                 have HK:=Za hK
                 clear hx hxb cu hK
                 rcases hd:decide (0<kx) with _|_
                 · have hz:kx=0:=by simp at hd;omega
                   have HZ:=Za hz
                   clear hz er
                   go_wp2_with (first|(go_at_call 133;refine HK.out.mono ?_;rintro e w' ⟨rfl,rfl⟩)|fail)
                   exact⟨⟨j+1,by omega,by go_num,Md.all_succ HX.out aw.out (by rw[dx.out,HZ.out])⟩,by simp[intOf];omega⟩
                 · have hz:kx≠0:=by simp at hd;omega
                   have ai:=ay.out 2 (Md.bad_hangul fe.out (by rw[HL.out];exact HX.out) (by rw[dx.out];exact hz)) (by decide)
                   have ax:=Za ai
                   clear hz er ai
                   go_wp2_with (first|(go_at_call 133;refine HK.out.mono ?_;rintro e w' ⟨rfl,rfl⟩)|fail)
                   go_ret
                   exact ah.out 2 _ _ _ ax.out rfl dn.out rfl
               · have b3:∀x∈r.1::r.2.2,Hg.ofK x=0:=by
                  rw[HL.out]
                  intro x hx
                  exact aw.out x (by rw[Zj (by rw[ft.out];omega)];exact hx)
                 have cc:=Za b3
                 have hge:¬(j:Int)<((1+ml:Nat):Int):=by omega
                 clear b3 aw hlt2
                 go_wp2_with fail
                 clear hge
                 go_loop [71] (fun i=>∃j:Nat,j≤ml∧i=.int .i64 j∧∀x∈r.2.2.take j,C.isC x=true) (fun i=>ml-(intOf i).toNat)
                 case atStart=>exact⟨0,Zz _,rfl,by simp⟩
                 case round =>
                  obtain⟨j,hj,rfl,bk⟩:=hrel
                  have aw:=Za bk
                  clear bk
                  by_cases hlt2:j<ml
                  · obtain⟨x,hx⟩:∃x,r.2.2[j]?=some x:=⟨_,Zc (by rw[bf.out];exact hlt2)⟩
                    obtain⟨g,go,fx,hg,i1,_⟩:=ib.out.ints hx
                    have hK:=Ch.ris_any x w4
                    obtain⟨kx,cu⟩:∃q,C.isC x=q:=⟨_,rfl⟩
                    rw[cu]at hK
                    have ji:(j:Int)<(ml:Int):=by omega
                    have hj0:(0:Int)≤j:=by omega
                    have HX:=Za hx
                    have dx:=Za cu
                    have HK:=Za hK
                    obtain⟨a1,a2⟩:=a
                    simp only at fx
                    subst fx
                    clear hx cu hK
                    cases kx
                    · have ai:=ay.out 3 (Md.bad_target fe.out cc.out HX.out dx.out) (by decide)
                      have ax:=Za ai
                      clear ai
                      go_wp2_with (first|(go_at_call 91;refine HK.out.mono ?_;rintro e w' ⟨rfl,rfl⟩)|fail)
                      go_ret
                      exact ah.out 3 _ _ _ ax.out rfl dn.out rfl
                    · go_wp2_with (first|(go_at_call 91;refine HK.out.mono ?_;rintro e w' ⟨rfl,rfl⟩)|fail)
                      exact⟨⟨j+1,by omega,by go_num,Md.all_succ HX.out aw.out dx.out⟩,by simp[intOf];omega⟩
                  · have gh:Md.bad last r=0:=Md.bad_none fe.out cc.out (fun x hx=>aw.out x (by rw[Zj (by rw[bf.out];omega)];exact hx))
                    have b2:Md.rowsBad (-1) T=Md.rowsBad r.1 (T.drop (k+1)):=by rw[dp.out,gh];rfl
                    have cz:=Za b2
                    have hge:¬(j:Int)<(ml:Int):=by omega
                    clear gh b2 hlt2 aw
                    go_wp2_with fail
                    exact⟨⟨k+1,r.1,by omega,by go_num,rfl,⟨ih,im⟩,cz.out,dn.out⟩,by simp[intOf];omega⟩
            · have h5:decide (2<r.2.2.length)=true:=by rw[bf.out];simp at hb5 ⊢;omega
              have ai:=ay.out 1 (Md.bad_row (by rw[cw.out,hb2,hb3,b7,h5];rfl)) (by decide)
              have ax:=Za ai
              clear ai h5
              go_wp2_with (first|(go_at_call 91;refine cm.mono ?_;rintro e w' ⟨rfl,rfl⟩)|fail)
              go_ret
              exact ah.out 1 _ _ _ ax.out rfl bu.out rfl
          · have ai:=ay.out 1 (Md.bad_row (by rw[cw.out,hb2,hb3,b7];simp)) (by decide)
            have ax:=Za ai
            clear ai
            go_wp2_with (first|(go_at_call 91;refine cm.mono ?_;rintro e w' ⟨rfl,rfl⟩)|fail)
            go_ret
            exact ah.out 1 _ _ _ ax.out rfl bu.out rfl
        · have ai:=ay.out 1 (Md.bad_row (by rw[cw.out,hb2,hb3];simp)) (by decide)
          have ax:=Za ai
          clear ai
          go_wp2_with (first|(go_at_call 91;refine cm.mono ?_;rintro e w' ⟨rfl,rfl⟩)|fail)
          go_ret
          exact ah.out 1 _ _ _ ax.out rfl bu.out rfl
      · have ai:=ay.out 1 (Md.bad_row (by rw[cw.out,hb2];simp)) (by decide)
        have ax:=Za ai
        clear ai
        go_wp2_with (first|(go_at_call 91;refine cm.mono ?_;rintro e w' ⟨rfl,rfl⟩)|fail)
        go_ret
        exact ah.out 1 _ _ _ ax.out rfl bu.out rfl
  · obtain rfl:n=k:=by omega
    have hz:Md.rowsBad (-1) T=0:=by
     rw[fy.out,Xo (by rw[HN.out];exact Zb _)]
     rfl
    obtain⟨b6,bx⟩:=Md.rowsBad_zero T (-1) hz
    have HZ:=Za hz
    have bz:=Za b6
    have cb:=Za bx
    have ah:Hid (∀(j:Nat) (W:World) (e:Ending) (w':World),res=j→e=.returned (.string (Md.note j))→Below wa.heap.size wa W→W=w'→e=.returned (.string (Md.note res))∧Below w.heap.size w w'):=Za (by
     rintro j W e w' rfl rfl hW rfl
     exact⟨rfl,bn.out.trans (hW.mono bn.out.size)⟩)
    obtain⟨wb,rfl⟩:∃wb:World,wb=wr:=⟨_,rfl⟩
    clear hz b6 bx hlt
    go_wp2_with fail
    go_loopw [83] (fun i wr=>∃k:Nat,k≤n∧i=.int .i64 k∧(∀r∈T.take k,(Md.full T r.1).isSome=true)∧Below wb.heap.size wb wr) (fun i _=>n-(intOf i).toNat)
    case atStart=>exact⟨0,Zz _,rfl,fun r hr=>by simp at hr,Zd _ _⟩
    case round =>
     obtain⟨k,hk,rfl,bj,ba⟩:=hrel
     have aa:=ez.out.below ba
     have y0:=aa.cell 0 rfl
     have y1:=aa.cell 1 rfl
     have cr:=Za bj
     have b5:=bs.out.trans (ba.mono bs.out.size)
     have a8:=Za b5
     have df:=Za aa
     have b9:=Za ba
     have iq:=aa.lt
     clear bj aa ba z0 z1
     by_cases hlt:k<n
     · obtain⟨r,hr⟩:∃r,T[k]?=some r:=⟨_,Zc (by rw[HN.out];exact hlt)⟩
       have aj:=Zk hr
       have ar:=dz.out r aj
       obtain⟨b,o,a,dl,hb,c0,c1,c2,cq⟩:=(bt.out.below b5).row hr
       have bb:Below wr.heap.size wr (wr.alloc (.cells #[.int .i64 r.1,.int .i64 r.2.1,.slice a.1 r.2.2.length a.2] 43)):=(Zd _ _).alloc (Zb _) _
       have eh:=a8.out.trans (bb.mono a8.out.size)
       have hE:=dm.out r.1 _ (bn.out.trans (eh.mono bn.out.size)) ar.1.1 ar.1.2
       have dt:=Za eh
       have dy:=Za (b9.out.trans (bb.mono b9.out.size))
       have af:=Rw.At.new wr 43 [.int .i64 r.1,.int .i64 r.2.1,.slice a.1 r.2.2.length a.2]
       obtain⟨x0,x1,x2,_,_,_⟩:=af.three
       have jc:(k:Int)<n:=by omega
       have iy:(0:Int)≤k:=by omega
       obtain⟨fo,ep⟩:∃fo,Md.full T r.1=fo:=⟨_,rfl⟩
       rw[ep]at hE
       have fp:=Za ep
       have HR:=Za hr
       have dv:=Za aj
       subst dl
       clear hr aj ar cq bb eh af ep
       go_wp2_with fail
       refine hE.mono ?_
       rintro e w2 ⟨A1,jt,rfl,_,hg⟩
       have dn:=Za (dy.out.trans (hg.mono dy.out.size))
       have ij:=Za (dt.out.trans (hg.mono dt.out.size))
       clear hg hE x0 x1 x2 y0 y1 c0 c1 c2
       rcases fo with _|fl
       · have fu:res=4:=by
          rw[←cp.out]
          unfold Md.chk
          have:Md.fullBad T=true:=by
           unfold Md.fullBad
           rw[Yv]
           exact⟨r,dv.out,by rw[fp.out];rfl⟩
          rw[Zs (by rw[HZ.out];simp),Zv this]
         have il:=Za fu
         clear fu
         go_wp2_with fail
         go_ret
         exact ah.out 4 _ _ _ il.out rfl ij.out rfl
       · have bj:∀r∈T.take (k+1),(Md.full T r.1).isSome=true:=by
          rw[Zr,HR.out]
          intro q hq
          rcases List.mem_append.1 hq with hq|hq
          · exact cr.out q hq
          · simp at hq
            subst hq
            rw[fp.out]
            rfl
         have dh:=Za bj
         clear bj
         go_wp2_with fail
         exact⟨⟨k+1,by omega,by go_num,dh.out,dn.out⟩,by simp[intOf];omega⟩
     · obtain rfl:n=k:=by omega
       have gv:Md.fullBad T=false:=by
        unfold Md.fullBad
        rw[List.any_eq_false]
        intro r hr
        have:=cr.out r (by rw[Zj (by rw[HN.out];exact Zb _)];exact hr)
        cases hf:Md.full T r.1 with
        | none=>rw[hf]at this;cases this
        | some l=>simp
       have fq:res=if Md.docTwice T (Md.xs E) [] T=true then 5 else 0:=by
        rw[←cp.out]
        unfold Md.chk
        rw[Zs (by rw[HZ.out];simp),Zs (by rw[gv];simp),←Md.twice_doc]
        rfl
       have fj:=Za fq
       obtain⟨wz,rfl⟩:∃wz:World,wz=wr:=⟨_,rfl⟩
       clear gv fq hlt cr
       go_wp2_with fail
       go_loopw [100] (fun i wr=>∃k:Nat,k≤n∧i=.int .i64 k∧Md.docTwice T (Md.xs E) [] T=Md.docTwice T (Md.xs E) (T.take k) (T.drop k)∧Below wz.heap.size wz wr) (fun i _=>n-(intOf i).toNat)
       case atStart=>exact⟨0,Zz _,rfl,rfl,Zd _ _⟩
       case round =>
        obtain⟨k,hk,rfl,bw,a6⟩:=hrel
        have aa:=df.out.below a6
        have y0:=aa.cell 0 rfl
        have y1:=aa.cell 1 rfl
        have gi:=Za bw
        have ao:=a8.out.trans (a6.mono a8.out.size)
        have b1:=Za a6
        have dk:=Za ao
        have je:=aa.lt
        have c6:=Za aa
        clear bw aa a6
        by_cases hlt:k<n
        · obtain⟨r,hr⟩:∃r,T[k]?=some r:=⟨_,Zc (by rw[HN.out];exact hlt)⟩
          have aj:=Zk hr
          have ar:=dz.out r aj
          obtain⟨b,o,a,dl,hb,c0,c1,c2,cq⟩:=(bt.out.below ao).row hr
          obtain⟨wn,bo⟩:∃wn,wr.alloc (.cells #[.int .i64 r.1,.int .i64 r.2.1,.slice a.1 r.2.2.length a.2] 43)=wn:=⟨_,rfl⟩
          have bb:Below wr.heap.size wr wn:=by rw[←bo];exact (Zd _ _).alloc (Zb _) _
          have af:Rw.At wn wr.heap.size 43 [.int .i64 r.1,.int .i64 r.2.1,.slice a.1 r.2.2.length a.2]:=by rw[←bo];exact Rw.At.new wr 43 [.int .i64 r.1,.int .i64 r.2.1,.slice a.1 r.2.2.length a.2]
          have iv:=af.lt
          have eu:=Za bo
          have bu:=Za bb
          have ck:=Za af
          have ak:=Za (ao.trans (bb.mono ao.size))
          have b8:=Za (c6.out.below bb)
          have e9:=Za (cq.below bb bb.size)
          have bw:=gi.out
          rw[Md.drop_cons hr,Md.docTwice]at bw
          have c8:=Za bw
          have gp:T.take (k+1)=T.take k++[r]:=by rw[Zr,hr];rfl
          have iu:=Za gp
          have ei:=Md.prim_row (X:=Md.xs E) cb.out aj (bz.out r aj).1
          have h4:Hid (∀W,Below wn.heap.size wn W→Calls Tryz.prog 28 #[.agg #[.slice A n c,.slice XA xn xc],.int .i64 r.1] W fun e w'=>e=.returned (.bool (Md.comp T (Md.xs E) r))∧Below W.heap.size W w'):=Za fun W hW=>by
           rw[←ei]
           exact b4.out r.1 W (bn.out.trans ((ak.out.trans (hW.mono ak.out.size)).mono bn.out.size)) ar.1.1 ar.1.2
          have x0:=af.cell 0 rfl
          have jh:=b8.out.cell 0 rfl
          have kI:(k:Int)<n:=by omega
          have k0:(0:Int)≤k:=by omega
          have kc:(k:Int)≤c:=by omega
          have ju:k≤c:=by omega
          subst dl
          clear hr aj ar cq bo bb af bw gp ei ao
          go_wp2_with fail
          go_upto_region 31 with (fail)
          rw[eu.out]
          go_wp2_with fail
          clear c0 c1 c2 x0 y0 y1 jh
          go_loopw [110] (fun i wq=>∃m:Nat,m≤k∧i=.int .i64 m∧Md.ahead T (Md.xs E) (T.take m) r=false∧Below wn.heap.size wn wq) (fun i _=>k-(intOf i).toNat)
          case atStart=>exact⟨0,Zz _,rfl,rfl,Zd _ _⟩
          case round =>
           obtain⟨m,hm,rfl,gm,ae⟩:=hrel
           have av:=b8.out.below ae
           have az:=ck.out.below' ae iv
           have bm:=e9.out.below ae ae.size
           have bh:=ak.out.trans (ae.mono ak.out.size)
           have gj:=Za gm
           have y0:=av.cell 0 rfl
           have gl:=av.lt
           have gy:=az.lt
           clear gm
           by_cases hlt2:m<k
           · obtain⟨q,hq⟩:∃q,T[m]?=some q:=⟨_,Zc (by rw[HN.out];omega)⟩
             have gq:(T.take k)[m]?=some q:=by rw[Ys,Zv hlt2];exact hq
             have br:=Zk hq
             have cv:=dz.out q br
             obtain⟨bq,oq,aq,fz,j1,c0,c1,c2,c7⟩:=(bt.out.below bh).row hq
             simp only[Zg,YE,YG]at fz
             obtain⟨rfl,rfl⟩:=fz
             obtain⟨wp,ec⟩:∃wp,wr.alloc (.cells #[.int .i64 q.1,.int .i64 q.2.1,.slice aq.1 q.2.2.length aq.2] 43)=wp:=⟨_,rfl⟩
             have cd:Below wr.heap.size wr wp:=by rw[←ec];exact (Zd _ _).alloc (Zb _) _
             have bi:Rw.At wp wr.heap.size 43 [.int .i64 q.1,.int .i64 q.2.1,.slice aq.1 q.2.2.length aq.2]:=by rw[←ec];exact Rw.At.new wr 43 [.int .i64 q.1,.int .i64 q.2.1,.slice aq.1 q.2.2.length aq.2]
             have ik:=Za ec
             have a7:=Za (ae.trans (cd.mono ae.size))
             have ap:=av.below cd
             have au:=az.below cd
             have ir:=Za (bm.below cd cd.size)
             have h8:=Za (c7.below cd cd.size)
             have gu:=Md.prim_row (X:=Md.xs E) cb.out br (bz.out q br).1
             have C1:=Za (Ext.call (w:=wp) fun W hW=>h4.out W (a7.out.trans (hW.mono a7.out.size)))
             have hl:∀W,Below wp.heap.size wp W→Calls Tryz.prog 28 #[.agg #[.slice (some ⟨b,o,none⟩) n c,.slice XA xn xc],.int .i64 q.1] W fun e w'=>e=.returned (.bool (Md.comp T (Md.xs E) q))∧Below W.heap.size W w':=fun W hW=>by
              rw[←gu]
              have h1:=a7.out.trans (hW.mono a7.out.size)
              exact b4.out q.1 W (bn.out.trans ((ak.out.trans (h1.mono ak.out.size)).mono bn.out.size)) cv.1.1 cv.1.2
             have C2:=Za (Ext.call (w:=wp) hl)
             have e0:=Ext.cells (ap.cell 0 rfl) ap.lt
             have e1:=Ext.cells (ap.cell 1 rfl) ap.lt
             have r0:=Ext.cells (au.cell 0 rfl) au.lt
             have r2:=Ext.cells (au.cell 2 rfl) au.lt
             have q0:=Ext.cells (bi.cell 0 rfl) bi.lt
             have q2:=Ext.cells (bi.cell 2 rfl) bi.lt
             have ch:(Md.comp T (Md.xs E) r&&(Md.comp T (Md.xs E) q&&decide (q.2.2=r.2.2)))=false→Md.ahead T (Md.xs E) (T.take (m+1)) r=false:=by
              intro h0
              have h1:=gj.out
              unfold Md.ahead at h1 ⊢
              rw[Zr,hq,List.any_append,h1,YO]
              simp only[Option.toList_some,List.any_cons,List.any_nil,Bool.or_false]
              exact h0
             have cg:(Md.comp T (Md.xs E) r&&(Md.comp T (Md.xs E) q&&decide (q.2.2=r.2.2)))=true→res=5:=by
              intro h0
              rw[fj.out,Zv]
              rw[c8.out]
              have:Md.ahead T (Md.xs E) (T.take k) r=true:=by
               unfold Md.ahead
               rw[Yv]
               exact⟨q,Zk gq,h0⟩
              rw[this,Xd]
             have ed:∀r:Rw.Row,Md.comp T (Md.xs E) r=true→∃x y,r.2.2=[x,y]:=by
              intro r hc
              unfold Md.comp at hc
              simp only[Zx,Zp]at hc
              have h2:=hc.2.1
              match hh:r.2.2,h2 with
              | [x,y],_=>exact⟨x,y,rfl⟩
             have dc:=Za (ed r)
             have cy:=Za (ed q)
             obtain⟨pr,ee⟩:∃p,Md.comp T (Md.xs E) r=p:=⟨_,rfl⟩
             obtain⟨pq,fc⟩:∃p,Md.comp T (Md.xs E) q=p:=⟨_,rfl⟩
             rw[ee,fc]at ch cg
             rw[ee]at C1 dc
             rw[fc]at C2 cy
             have bp:=Za ch
             have ej:=Za cg
             have mI:(m:Int)<k:=by omega
             have m0:(0:Int)≤m:=by omega
             clear hq gq br cv c7 ec cd bi av az bm ap au gu hl ch cg ed ee fc ae bh
             go_upto_region 34 with (fail)
             rw[ik.out]
             clear c0 c1 c2 y0
             cases pr
             · have ag:=Za (bp.out (XL _))
               refine wp_region_ext (by kernel_rfl) (by kernel_rfl) ?_
               repeat (go_big_quiet_step ((first|(go_at_call 28;first|with_reducible exact C1.out _|with_reducible exact C2.out _))))
               refine wpQuiet_nil ?_
               intro xw
               have bl:=Za (a7.out.trans (xw.below.mono a7.out.size))
               go_wp2_with fail
               exact⟨⟨m+1,by omega,by go_num,ag.out,bl.out⟩,by simp[intOf];omega⟩
             · cases pq
               · have ag:=Za (bp.out rfl)
                 refine wp_region_ext (by kernel_rfl) (by kernel_rfl) ?_
                 repeat (go_big_quiet_step ((first|(go_at_call 28;first|with_reducible exact C1.out _|with_reducible exact C2.out _))))
                 refine wpQuiet_nil ?_
                 intro xw
                 have bl:=Za (a7.out.trans (xw.below.mono a7.out.size))
                 go_wp2_with fail
                 exact⟨⟨m+1,by omega,by go_num,ag.out,bl.out⟩,by simp[intOf];omega⟩
               · obtain⟨x,y,aj⟩:=dc.out rfl
                 obtain⟨x',y',br⟩:=cy.out rfl
                 obtain⟨rl,e3⟩:∃k,r.2.2.length=k:=⟨_,rfl⟩
                 obtain⟨ql,e7⟩:∃k,q.2.2.length=k:=⟨_,rfl⟩
                 have en:rl=2:=by rw[←e3,aj];rfl
                 have du:ql=2:=by rw[←e7,br];rfl
                 rw[e3]at r2
                 rw[e7]at q2
                 have e2:=ir.out
                 have eo:=h8.out
                 rw[aj]at e2
                 rw[br]at eo
                 obtain⟨rb,ro,h3,ar,e4⟩:=e2 (by simp)
                 obtain⟨qb,qo,fw,cv,et⟩:=eo (by simp)
                 rw[h3]at r2
                 rw[fw]at q2
                 have j0:=Ext.cells (w:=wp) (b:=rb) (o:=ro) (v:=.int .i64 x) (by simpa using e4 0 (by simp)) ar
                 have jq:=Ext.cells (w:=wp) (b:=rb) (o:=ro+1) (v:=.int .i64 y) (by simpa using e4 1 (by simp)) ar
                 have jn:=Ext.cells (w:=wp) (b:=qb) (o:=qo) (v:=.int .i64 x') (by simpa using et 0 (by simp)) cv
                 have jl:=Ext.cells (w:=wp) (b:=qb) (o:=qo+1) (v:=.int .i64 y') (by simpa using et 1 (by simp)) cv
                 have jw:((ql:Int) == 2)=true:=by rw[du];rfl
                 have jm:0<rl:=by omega
                 have jy:(0:Int)<rl:=by omega
                 have js:1<rl:=by omega
                 have jo:(1:Int)<rl:=by omega
                 have jz:0<ql:=by omega
                 have jv:(0:Int)<ql:=by omega
                 have jx:1<ql:=by omega
                 have jr:(1:Int)<ql:=by omega
                 have e8:=Za br
                 have dv:=Za aj
                 clear e3 e7 en du e2 eo e4 et h3 fw aj br
                 rcases he1:(x' == x) with _|_
                 · have ag:=Za (bp.out (by rw[e8.out,dv.out];simp at he1 ⊢;intro e;exact absurd e he1))
                   refine wp_region_ext (by kernel_rfl) (by kernel_rfl) ?_
                   repeat (go_big_quiet_step ((first|(go_at_call 28;first|with_reducible exact C1.out _|with_reducible exact C2.out _))))
                   refine wpQuiet_nil ?_
                   intro xw
                   have bl:=Za (a7.out.trans (xw.below.mono a7.out.size))
                   go_wp2_with fail
                   exact⟨⟨m+1,by omega,by go_num,ag.out,bl.out⟩,by simp[intOf];omega⟩
                 · rcases he2:(y' == y) with _|_
                   · have ag:=Za (bp.out (by rw[e8.out,dv.out];simp at he2 ⊢;intro _ e;exact absurd e he2))
                     refine wp_region_ext (by kernel_rfl) (by kernel_rfl) ?_
                     repeat (go_big_quiet_step ((first|(go_at_call 28;first|with_reducible exact C1.out _|with_reducible exact C2.out _))))
                     refine wpQuiet_nil ?_
                     intro xw
                     have bl:=Za (a7.out.trans (xw.below.mono a7.out.size))
                     go_wp2_with fail
                     exact⟨⟨m+1,by omega,by go_num,ag.out,bl.out⟩,by simp[intOf];omega⟩
                   · have ax:=Za (ej.out (by rw[e8.out,dv.out];simp at he1 he2 ⊢;exact⟨he1,he2⟩))
                     refine wp_region_ext (by kernel_rfl) (by kernel_rfl) ?_
                     repeat (go_big_quiet_step ((first|(go_at_call 28;first|with_reducible exact C1.out _|with_reducible exact C2.out _))))
                     refine wpQuiet_nil ?_
                     intro xw
                     have bl:=Za (a7.out.trans (xw.below.mono a7.out.size))
                     go_wp2_with fail
                     go_ret
                     exact ah.out 5 _ _ _ ax.out rfl (ak.out.trans (bl.out.mono ak.out.size)) rfl
           · obtain rfl:k=m:=by omega
             have bw:Md.docTwice T (Md.xs E) [] T=Md.docTwice T (Md.xs E) (T.take (k+1)) (T.drop (k+1)):=by rw[c8.out,iu.out,gj.out,YO]
             have ew:=Za bw
             have bl:=Za (b1.out.trans ((bu.out.trans (ae.mono bu.out.size)).mono b1.out.size))
             clear bw ae bh av az bm y0
             go_wp2_with fail
             exact⟨⟨k+1,by omega,by go_num,ew.out,bl.out⟩,by simp[intOf];omega⟩
        · obtain rfl:n=k:=by omega
          have fk:res=0:=by
           rw[fj.out,gi.out,Xo (by rw[HN.out];exact Zb _)]
           rfl
          have iw:=Za fk
          clear fk hlt
          go_wp2_with fail
          go_ret
          exact ah.out 0 _ _ _ iw.out rfl dk.out rfl
end Go.Proofs.YtbeakahjbkdeiaaGreatDoor
