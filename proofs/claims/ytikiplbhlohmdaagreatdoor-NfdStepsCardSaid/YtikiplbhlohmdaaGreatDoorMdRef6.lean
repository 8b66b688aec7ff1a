/- The document's layer model: Check, by walking its text. -/
import Derived.Test.YtikiplbhlohmdaaGreatDoorMdRef5
set_option linter.unusedVariables false
set_option linter.unusedSimpArgs false
namespace Go.Proofs.YtikiplbhlohmdaaGreatDoor
open Go.RowKit
theorem Md.own_lit (w:World) (e:TypeId) (u:Value):(w.alloc (.cells #[u] e)).ownsRow w.heap.size e 1 (.slice (some ⟨w.heap.size,0,none⟩) 1 1) 1 [u] :=
 ⟨rfl,.inr ⟨w.heap.size,1,#[u],rfl,Zb _,ZP w _,Zb _,by decide,rfl,rfl⟩⟩
theorem Md.bad_row {last:Int} {r:Rw.Row} (h:(!C.isC r.1||decide (r.1≤last)||decide (r.2.1<0)||decide (254<r.2.1)||decide (2<r.2.2.length))=true):Md.bad last r=1:=by
 unfold Md.bad
 rw[Zp h]
theorem Md.bad_hangul {last:Int} {r:Rw.Row} {x:Int} {j:Nat} (h:(!C.isC r.1||decide (r.1≤last)||decide (r.2.1<0)||decide (254<r.2.1)||decide (2<r.2.2.length))=false) (hx:(r.1::r.2.2)[j]?=some x) (hk:Hg.ofK x≠0):Md.bad last r=2:=by
 unfold Md.bad
 rw[Zl (by rw[h];decide),Zp]
 rw[YB]
 exact⟨x,List.mem_of_getElem? hx,by simpa using hk⟩
theorem Md.bad_target {last:Int} {r:Rw.Row} {x:Int} {j:Nat} (h:(!C.isC r.1||decide (r.1≤last)||decide (r.2.1<0)||decide (254<r.2.1)||decide (2<r.2.2.length))=false) (h2:∀x∈r.1::r.2.2,Hg.ofK x=0) (hx:r.2.2[j]?=some x) (hk:C.isC x=false):Md.bad last r=3:=by
 unfold Md.bad
 rw[Zl (by rw[h];decide),Zl,Zp]
 · rw[YB]
   exact⟨x,Zk hx,by rw[hk];rfl⟩
 · rw[YB]
   rintro⟨y,hy,aa⟩
   rw[Zm]at aa
   exact aa (h2 y hy)
theorem Md.bad_none {last:Int} {r:Rw.Row} (h:(!C.isC r.1||decide (r.1≤last)||decide (r.2.1<0)||decide (254<r.2.1)||decide (2<r.2.2.length))=false) (h2:∀x∈r.1::r.2.2,Hg.ofK x=0) (h3:∀x∈r.2.2,C.isC x=true):Md.bad last r=0:=by
 unfold Md.bad
 rw[Zl (by rw[h];decide),Zl,Zl]
 · rw[YB]
   rintro⟨y,hy,aa⟩
   rw[h3 y hy]at aa
   cases aa
 · rw[YB]
   rintro⟨y,hy,aa⟩
   rw[Zm]at aa
   exact aa (h2 y hy)
theorem Md.ofK_nn (c:Int):0≤Hg.ofK c:=by
 unfold Hg.ofK
 repeat' split
 all_goals decide
theorem Md.all_succ {l:List Int} {P:Int→Prop} {k:Nat} {x:Int} (hx:l[k]?=some x) (h:∀y∈l.take k,P y) (hp:P x):∀y∈l.take (k+1),P y:=by
 rw[Zw,hx]
 intro y hy
 rcases List.mem_append.1 hy with hy|hy
 · exact h y hy
 · simp at hy
   subst hy
   exact hp
set_option maxRecDepth 100000 in
set_option maxHeartbeats 8000000 in
theorem Md.rcheck_any (v:Value) (T:List Rw.Row) (E:List Int) (w:World) (er:T.length≤100000) (je:E.length≤1000000) (hbd:Md.bd T) (dz:∀r∈T,r.2.2.length≤1000) (ft:∀r∈T,-9223372036854775808≤r.2.1∧r.2.1≤9223372036854775807) (h:Md.Doc w v T E) (cr:∀A n c x,v=.agg #[.slice A n c,x]→n≤c) :
 Calls Tryz.prog 77 #[v] w fun e w'=>e=.returned (.string (Md.note (Md.chk T (Md.xs E))))∧Below w.heap.size w w':=by
 obtain⟨i0,il,h7,iz,ih⟩:=Z7 infoInt
 have iv:=Za h
 obtain⟨A,c,XA,xc,rfl,h2,hX⟩:=id h
 have cr:=cr _ _ _ _ rfl
 obtain⟨xn,hxn⟩:∃k,E.length=k:=⟨_,rfl⟩
 obtain⟨n,hn⟩:∃k,T.length=k:=⟨_,rfl⟩
 obtain⟨res,cj⟩:∃k,Md.chk T (Md.xs E)=k:=⟨_,rfl⟩
 have dp:Hid (∀(d:Int) (W:World),Below w.heap.size w W → -2147483648≤d→d≤2147483647→Calls Tryz.prog 28 #[.agg #[.slice A n c,.slice XA xn xc],.int .i64 d] W (Md.RetFull (Md.full T d) W)):=Za fun d W hW a b=>by
  have:=Md.rfull_any _ T E d W er (h.below hW) hbd dz a b
  rw[hn,hxn]at this
  exact this
 have b6:Hid (∀(d:Int) (W:World),Below w.heap.size w W → -2147483648≤d→d≤2147483647→Calls Tryz.prog 104 #[.agg #[.slice A n c,.slice XA xn xc],.int .i64 d] W fun e w'=>e=.returned (.bool (Md.prim T (Md.xs E) d))∧Below W.heap.size W w'):=Za fun d W hW a b=>by
  have:=Md.rprim_any _ T E d W er je (h.below hW) dz a b
  rw[hn,hxn]at this
  exact this
 rw[hn]at er cr
 rw[hn,hxn,cj]
 obtain⟨wa,ec⟩:∃wa,w.alloc (.cells #[.slice A n c,.slice XA xn xc] 25)=wa:=⟨_,rfl⟩
 have ei:Below w.heap.size w wa:=by rw[←ec];exact (Zd _ _).alloc (Zb _) _
 have fh:Rw.At wa w.heap.size 25 [.slice A n c,.slice XA xn xc]:=by rw[←ec];exact Rw.At.new w 25 [.slice A n c,.slice XA xn xc]
 have jd:=Za ec
 have bn:=Za ei
 have ik:=Za fh
 have bp:=Za (h2.below ei)
 have HN:=Za hn
 have cu:=Za cj
 have eb:=Za hbd
 have i6:=Za dz
 have jb:=Za ft
 have z0:=fh.cell 0 rfl
 clear ec ei fh hn hxn cj hbd dz ft h h2 hX
 unfold Md.tv at *
 go_enter Tryz.func77,Tryz.ntmps77
 go_upto_region 1 with (fail)
 rw[jd.out]
 go_wp2_with fail
 go_loopw [3,21] (fun v3 i wr=>∃(k:Nat) (last:Int),k≤n∧i=.int .i64 k∧v3=.int .i64 last∧(-2147483648≤last∧last≤2147483647)∧Md.rowsBad (-1) T=Md.rowsBad last (T.drop k)∧Below wa.heap.size wa wr) (fun _ i _=>n-(intOf i).toNat)
 case atStart=>exact⟨0,-1,ZE _,rfl,rfl,by omega,rfl,Zd _ _⟩
 case round =>
  obtain⟨k,last,hk,rfl,rfl,hl,av,bc⟩:=hrel
  have aa:=ik.out.below bc
  have z0:=aa.cell 0 rfl
  have z1:=aa.cell 1 rfl
  have fy:=Za av
  have bs:=Za bc
  have ed:=Za aa
  clear av aa
  by_cases hlt:k<n
  · obtain⟨r,hr⟩:∃r,T[k]?=some r:=⟨_,Zc (by rw[HN.out];exact hlt)⟩
    have aj:=Zk hr
    have av:=eb.out r aj
    have et:=jb.out r aj
    have ij:=i6.out r aj
    obtain⟨b,o,a,dt,hb,c0,c1,c2,ct⟩:=(bp.out.below bc).row hr
    obtain⟨ml,cm⟩:∃k,r.2.2.length=k:=⟨_,rfl⟩
    rw[cm]at c2 ij
    have a8:Below wr.heap.size wr (wr.alloc (.cells #[.int .i64 r.1,.int .i64 r.2.1,.slice a.1 ml a.2] 61)):=(Zd _ _).alloc (Zb _) _
    have af:=Rw.At.new wr 61 [.int .i64 r.1,.int .i64 r.2.1,.slice a.1 ml a.2]
    obtain⟨x0,x1,x2,_,_,_⟩:=af.three
    have jh:=Za (ct.below a8 (Zb _))
    have bt:=Za (bc.trans (a8.mono bc.size))
    have hd:=Md.drop_cons hr
    have cq:=fy.out
    rw[hd,Md.rowsBad]at cq
    have cx:=Za cq
    have fp:=Za av
    have bf:=Za cm
    have iq:(k:Int)<n:=by omega
    have h9:(0:Int)≤k:=by omega
    obtain⟨ir,i1⟩:=av.1
    have dm:∀j,Md.bad last r=j→j≠0→res=j:=by
     intro j hj h0
     rw[←cu.out]
     unfold Md.chk
     rw[cx.out,hj,Zl h0,Zp h0]
    have ay:=Za dm
    have cn:=Ch.ris_any r.1 (wr.alloc (.cells #[.int .i64 r.1,.int .i64 r.2.1,.slice a.1 ml a.2] 61))
    obtain⟨ic,eg⟩:∃b,C.isC r.1=b:=⟨_,rfl⟩
    rw[eg]at cn
    have cv:=Za eg
    subst dt
    clear hr aj av ct a8 af hd cq bc cm dm eg
    have dn:∀(j:Nat) (W:World) (e:Ending) (w':World),res=j→e=.returned (.string (Md.note j))→Below wa.heap.size wa W→W=w'→e=.returned (.string (Md.note res))∧Below w.heap.size w w':=by
     rintro j W e w' rfl rfl hW rfl
     exact⟨rfl,bn.out.trans (hW.mono bn.out.size)⟩
    have ag:=Za dn
    clear dn
    cases ic
    · have ai:=ay.out 1 (Md.bad_row (by rw[cv.out,Bool.not_false,Xo,Xo,Xo,Xo])) (by decide)
      have aw:=Za ai
      clear ai
      go_wp2_with (first|(go_at_call 39;refine cn.mono ?_;rintro e w' ⟨rfl,rfl⟩)|fail)
      go_ret
      exact ag.out 1 _ _ _ aw.out rfl bt.out rfl
    · rcases hb2:decide (r.1≤last) with _|_
      · rcases hb3:decide (r.2.1<0) with _|_
        · rcases b8:decide (254<r.2.1) with _|_
          · rcases hb5:decide (2<(ml:Int)) with _|_
            · have h5:decide (2<r.2.2.length)=false:=by rw[bf.out];simp at hb5 ⊢;omega
              have gj:(!C.isC r.1||decide (r.1≤last)||decide (r.2.1<0)||decide (254<r.2.1)||decide (2<r.2.2.length))=false:=by rw[cv.out,hb2,hb3,b8,h5];rfl
              have ey:=Za gj
              clear gj h5
              obtain⟨wn,bo⟩:∃wn,(wr.alloc (.cells #[.int .i64 r.1,.int .i64 r.2.1,.slice a.1 ml a.2] 61)).alloc (.cells #[.int .i64 r.1] 3)=wn:=⟨_,rfl⟩
              have dc:wn.ownsRow (wr.heap.size+1) 3 1 (.slice (some ⟨wr.heap.size+1,0,none⟩) 1 1) 1 [.int .i64 r.1]:=by
               have:=Md.own_lit (wr.alloc (.cells #[.int .i64 r.1,.int .i64 r.2.1,.slice a.1 ml a.2] 61)) 3 (.int .i64 r.1)
               rw[ZH]at this
               rw[←bo];exact this
              have ez:Below (wr.heap.size+1) (wr.alloc (.cells #[.int .i64 r.1,.int .i64 r.2.1,.slice a.1 ml a.2] 61)) wn:=by rw[←bo];exact (Zd _ _).alloc (by simp) _
              have fz:=jh.out.belowN ez (ZZ _) (Zb _)
              have af:Rw.At wn wr.heap.size 61 [.int .i64 r.1,.int .i64 r.2.1,.slice a.1 ml a.2]:=by rw[←bo];exact (Rw.At.new wr 61 [.int .i64 r.1,.int .i64 r.2.1,.slice a.1 ml a.2]).alloc _
              have eh:wr.heap.size+1≤wn.heap.size:=af.lt
              have eu:=Za dc
              have gf:=Za fz
              have cf:=Za af
              have fc:=Za bo
              have ea:=Za (bt.out.trans (ez.mono (Zh bs.out.size (ZZ _))))
              have ig:Hid (∀u∈r.2.2.map (Value.int .i64),u.oneCell'=true):=Za (oneCells .i64 _)
              have fe:Hid ((r.2.2.map (Value.int .i64)).length=ml*1):=Za (by rw[Zg,bf.out,Xe])
              clear dc ez fz af bo
              go_wp2_with (first|(go_at_call 39;refine cn.mono ?_;rintro e w' ⟨rfl,rfl⟩)|(at_builtin;(rw[fc.out]);refine wpList_appendSl _ rfl _ _ _ rfl (wr.heap.size+1) 3 i0 _ 1 8 Tryz.underlying23 il h7 iz ih rfl (by omega) _ 1 _ rfl eu.out _ a.1 ml a.2 (r.2.2.map (Value.int .i64)) rfl fe.out gf.out ig.out (by simp only[maxLen];omega) (by omega) eh ?_;intro v1 w4 bi b8 iw;obtain⟨A4,c4,rfl⟩:=own_form bi)|fail)
              have di:=cf.out.below' b8 (ZS _)
              obtain⟨y0,y1,y2,_,_,_⟩:=di.three
              have ho:=Za (Sl.of_own bi)
              have dk:=Za (ea.out.trans (b8.mono (Zh bs.out.size (ZZ _))))
              have jf:=Za (gf.out.belowN b8 (ZZ _) (Zb _))
              obtain⟨L,hL⟩:∃L,r.1::r.2.2=L:=⟨_,rfl⟩
              have HL:=Za hL
              have gq:[.int .i64 r.1]++r.2.2.map (Value.int .i64)=L.map (Value.int .i64):=by rw[←hL];rfl
              rw[gq]at ho
              have gb:Hid (L.length=1+ml):=Za (by rw[←hL,ZI,bf.out];omega)
              have jg:Hid (∀x∈L,-2147483648≤x∧x≤2147483647):=Za (by
               rw[←hL]
               intro x hx
               rcases List.mem_cons.1 hx with rfl|hx
               · exact fp.out.1
               · exact fp.out.2 x hx)
              clear di bi b8 iw hL gq x0 x1 x2 c0 c1 c2 z0 z1
              go_loop [60] (fun i=>∃j:Nat,j≤1+ml∧i=.int .i64 j∧∀x∈L.take j,Hg.ofK x=0) (fun i=>1+ml-(intOf i).toNat)
              case atStart=>exact⟨0,ZE _,rfl,by simp⟩
              case round =>
               obtain⟨j,hj,rfl,bj⟩:=hrel
               have ax:=Za bj
               clear bj
               by_cases hlt2:j<1+ml
               · obtain⟨x,hx⟩:∃x,L[j]?=some x:=⟨_,Zc (by rw[gb.out];exact hlt2)⟩
                 obtain⟨g,go,rfl,hg,i7,_⟩:=ho.out.ints hx
                 have hxb:=jg.out x (Zk hx)
                 have hK:=Hg.kind_any x w4 hxb.1 hxb.2
                 have e2:=Md.ofK_nn x
                 obtain⟨kx,cg⟩:∃q,Hg.ofK x=q:=⟨_,rfl⟩
                 rw[cg]at hK e2
                 have ib:(j:Int)<((1+ml:Nat):Int):=by omega
                 have hj0:(0:Int)≤j:=by omega
                 have HX:=Za hx
                 have dl:=Za cg
                 have HK:=Za hK
                 clear hx hxb cg hK
                 rcases hd:decide (0<kx) with _|_
                 · have hz:kx=0:=by simp at hd;omega
                   have HZ:=Za hz
                   clear hz e2
                   go_wp2_with (first|(go_at_call 103;refine HK.out.mono ?_;rintro e w' ⟨rfl,rfl⟩)|fail)
                   exact⟨⟨j+1,by omega,by go_num,Md.all_succ HX.out ax.out (by rw[dl.out,HZ.out])⟩,by simp[intOf];omega⟩
                 · have hz:kx≠0:=by simp at hd;omega
                   have ai:=ay.out 2 (Md.bad_hangul ey.out (by rw[HL.out];exact HX.out) (by rw[dl.out];exact hz)) (by decide)
                   have aw:=Za ai
                   clear hz e2 ai
                   go_wp2_with (first|(go_at_call 103;refine HK.out.mono ?_;rintro e w' ⟨rfl,rfl⟩)|fail)
                   go_ret
                   exact ag.out 2 _ _ _ aw.out rfl dk.out rfl
               · have b9:∀x∈r.1::r.2.2,Hg.ofK x=0:=by
                  rw[HL.out]
                  intro x hx
                  exact ax.out x (by rw[Zj (by rw[gb.out];omega)];exact hx)
                 have bz:=Za b9
                 have hge:¬(j:Int)<((1+ml:Nat):Int):=by omega
                 clear b9 ax hlt2
                 go_wp2_with fail
                 clear hge
                 go_loop [71] (fun i=>∃j:Nat,j≤ml∧i=.int .i64 j∧∀x∈r.2.2.take j,C.isC x=true) (fun i=>ml-(intOf i).toNat)
                 case atStart=>exact⟨0,ZE _,rfl,by simp⟩
                 case round =>
                  obtain⟨j,hj,rfl,bj⟩:=hrel
                  have ax:=Za bj
                  clear bj
                  by_cases hlt2:j<ml
                  · obtain⟨x,hx⟩:∃x,r.2.2[j]?=some x:=⟨_,Zc (by rw[bf.out];exact hlt2)⟩
                    obtain⟨g,go,fu,hg,i7,_⟩:=jf.out.ints hx
                    have hK:=Ch.ris_any x w4
                    obtain⟨kx,cg⟩:∃q,C.isC x=q:=⟨_,rfl⟩
                    rw[cg]at hK
                    have ib:(j:Int)<(ml:Int):=by omega
                    have hj0:(0:Int)≤j:=by omega
                    have HX:=Za hx
                    have dl:=Za cg
                    have HK:=Za hK
                    obtain⟨a1,a2⟩:=a
                    simp only at fu
                    subst fu
                    clear hx cg hK
                    cases kx
                    · have ai:=ay.out 3 (Md.bad_target ey.out bz.out HX.out dl.out) (by decide)
                      have aw:=Za ai
                      clear ai
                      go_wp2_with (first|(go_at_call 39;refine HK.out.mono ?_;rintro e w' ⟨rfl,rfl⟩)|fail)
                      go_ret
                      exact ag.out 3 _ _ _ aw.out rfl dk.out rfl
                    · go_wp2_with (first|(go_at_call 39;refine HK.out.mono ?_;rintro e w' ⟨rfl,rfl⟩)|fail)
                      exact⟨⟨j+1,by omega,by go_num,Md.all_succ HX.out ax.out dl.out⟩,by simp[intOf];omega⟩
                  · have gv:Md.bad last r=0:=Md.bad_none ey.out bz.out (fun x hx=>ax.out x (by rw[Zj (by rw[bf.out];omega)];exact hx))
                    have b4:Md.rowsBad (-1) T=Md.rowsBad r.1 (T.drop (k+1)):=by rw[cx.out,gv];rfl
                    have c7:=Za b4
                    have hge:¬(j:Int)<(ml:Int):=by omega
                    clear gv b4 hlt2 ax
                    go_wp2_with fail
                    exact⟨⟨k+1,r.1,by omega,by go_num,rfl,⟨ir,i1⟩,c7.out,dk.out⟩,by simp[intOf];omega⟩
            · have h5:decide (2<r.2.2.length)=true:=by rw[bf.out];simp at hb5 ⊢;omega
              have ai:=ay.out 1 (Md.bad_row (by rw[cv.out,hb2,hb3,b8,h5];rfl)) (by decide)
              have aw:=Za ai
              clear ai h5
              go_wp2_with (first|(go_at_call 39;refine cn.mono ?_;rintro e w' ⟨rfl,rfl⟩)|fail)
              go_ret
              exact ag.out 1 _ _ _ aw.out rfl bt.out rfl
          · have ai:=ay.out 1 (Md.bad_row (by rw[cv.out,hb2,hb3,b8];simp)) (by decide)
            have aw:=Za ai
            clear ai
            go_wp2_with (first|(go_at_call 39;refine cn.mono ?_;rintro e w' ⟨rfl,rfl⟩)|fail)
            go_ret
            exact ag.out 1 _ _ _ aw.out rfl bt.out rfl
        · have ai:=ay.out 1 (Md.bad_row (by rw[cv.out,hb2,hb3];simp)) (by decide)
          have aw:=Za ai
          clear ai
          go_wp2_with (first|(go_at_call 39;refine cn.mono ?_;rintro e w' ⟨rfl,rfl⟩)|fail)
          go_ret
          exact ag.out 1 _ _ _ aw.out rfl bt.out rfl
      · have ai:=ay.out 1 (Md.bad_row (by rw[cv.out,hb2];simp)) (by decide)
        have aw:=Za ai
        clear ai
        go_wp2_with (first|(go_at_call 39;refine cn.mono ?_;rintro e w' ⟨rfl,rfl⟩)|fail)
        go_ret
        exact ag.out 1 _ _ _ aw.out rfl bt.out rfl
  · obtain rfl:n=k:=by omega
    have hz:Md.rowsBad (-1) T=0:=by
     rw[fy.out,Xz (by rw[HN.out];exact Zb _)]
     rfl
    obtain⟨b7,cb⟩:=Md.rowsBad_zero T (-1) hz
    have HZ:=Za hz
    have cd:=Za b7
    have b2:=Za cb
    have ag:Hid (∀(j:Nat) (W:World) (e:Ending) (w':World),res=j→e=.returned (.string (Md.note j))→Below wa.heap.size wa W→W=w'→e=.returned (.string (Md.note res))∧Below w.heap.size w w'):=Za (by
     rintro j W e w' rfl rfl hW rfl
     exact⟨rfl,bn.out.trans (hW.mono bn.out.size)⟩)
    obtain⟨wb,rfl⟩:∃wb:World,wb=wr:=⟨_,rfl⟩
    clear hz b7 cb hlt
    go_wp2_with fail
    go_loopw [83] (fun i wr=>∃k:Nat,k≤n∧i=.int .i64 k∧(∀r∈T.take k,(Md.full T r.1).isSome=true)∧Below wb.heap.size wb wr) (fun i _=>n-(intOf i).toNat)
    case atStart=>exact⟨0,ZE _,rfl,fun r hr=>by simp at hr,Zd _ _⟩
    case round =>
     obtain⟨k,hk,rfl,bg,ba⟩:=hrel
     have aa:=ed.out.below ba
     have y0:=aa.cell 0 rfl
     have y1:=aa.cell 1 rfl
     have cp:=Za bg
     have b5:=bs.out.trans (ba.mono bs.out.size)
     have a6:=Za b5
     have dr:=Za aa
     have bx:=Za ba
     have im:=aa.lt
     clear bg aa ba z0 z1
     by_cases hlt:k<n
     · obtain⟨r,hr⟩:∃r,T[k]?=some r:=⟨_,Zc (by rw[HN.out];exact hlt)⟩
       have aj:=Zk hr
       have av:=eb.out r aj
       obtain⟨b,o,a,dt,hb,c0,c1,c2,ct⟩:=(bp.out.below b5).row hr
       have a8:Below wr.heap.size wr (wr.alloc (.cells #[.int .i64 r.1,.int .i64 r.2.1,.slice a.1 r.2.2.length a.2] 61)):=(Zd _ _).alloc (Zb _) _
       have ep:=a6.out.trans (a8.mono a6.out.size)
       have hE:=dp.out r.1 _ (bn.out.trans (ep.mono bn.out.size)) av.1.1 av.1.2
       have c8:=Za ep
       have ea:=Za (bx.out.trans (a8.mono bx.out.size))
       have af:=Rw.At.new wr 61 [.int .i64 r.1,.int .i64 r.2.1,.slice a.1 r.2.2.length a.2]
       obtain⟨x0,x1,x2,_,_,_⟩:=af.three
       have iq:(k:Int)<n:=by omega
       have h9:(0:Int)≤k:=by omega
       obtain⟨fo,ej⟩:∃fo,Md.full T r.1=fo:=⟨_,rfl⟩
       rw[ej]at hE
       have h3:=Za ej
       have HR:=Za hr
       have du:=Za aj
       subst dt
       clear hr aj av ct a8 ep af ej
       go_wp2_with fail
       refine hE.mono ?_
       rintro e w2 ⟨A1,j0,rfl,_,hg⟩
       have dk:=Za (ea.out.trans (hg.mono ea.out.size))
       have ja:=Za (c8.out.trans (hg.mono c8.out.size))
       clear hg hE x0 x1 x2 y0 y1 c0 c1 c2
       rcases fo with _|fl
       · have fq:res=4:=by
          rw[←cu.out]
          unfold Md.chk
          have:Md.fullBad T=true:=by
           unfold Md.fullBad
           rw[YB]
           exact⟨r,du.out,by rw[h3.out];rfl⟩
          rw[Zl (by rw[HZ.out];simp),Zp this]
         have ji:=Za fq
         clear fq
         go_wp2_with fail
         go_ret
         exact ag.out 4 _ _ _ ji.out rfl ja.out rfl
       · have bg:∀r∈T.take (k+1),(Md.full T r.1).isSome=true:=by
          rw[Zw,HR.out]
          intro q hq
          rcases List.mem_append.1 hq with hq|hq
          · exact cp.out q hq
          · simp at hq
            subst hq
            rw[h3.out]
            rfl
         have c6:=Za bg
         clear bg
         go_wp2_with fail
         exact⟨⟨k+1,by omega,by go_num,c6.out,dk.out⟩,by simp[intOf];omega⟩
     · obtain rfl:n=k:=by omega
       have gu:Md.fullBad T=false:=by
        unfold Md.fullBad
        rw[List.any_eq_false]
        intro r hr
        have:=cp.out r (by rw[Zj (by rw[HN.out];exact Zb _)];exact hr)
        cases hf:Md.full T r.1 with
        | none=>rw[hf]at this;cases this
        | some l=>simp
       have fj:res=if Md.docTwice T (Md.xs E) [] T=true then 5 else 0:=by
        rw[←cu.out]
        unfold Md.chk
        rw[Zl (by rw[HZ.out];simp),Zl (by rw[gu];simp),←Md.twice_doc]
        rfl
       have gh:=Za fj
       obtain⟨wz,rfl⟩:∃wz:World,wz=wr:=⟨_,rfl⟩
       clear gu fj hlt cp
       go_wp2_with fail
       go_loopw [100] (fun i wr=>∃k:Nat,k≤n∧i=.int .i64 k∧Md.docTwice T (Md.xs E) [] T=Md.docTwice T (Md.xs E) (T.take k) (T.drop k)∧Below wz.heap.size wz wr) (fun i _=>n-(intOf i).toNat)
       case atStart=>exact⟨0,ZE _,rfl,rfl,Zd _ _⟩
       case round =>
        obtain⟨k,hk,rfl,bu,bb⟩:=hrel
        have aa:=dr.out.below bb
        have y0:=aa.cell 0 rfl
        have y1:=aa.cell 1 rfl
        have fm:=Za bu
        have ar:=a6.out.trans (bb.mono a6.out.size)
        have b1:=Za bb
        have dx:=Za ar
        have ix:=aa.lt
        have dw:=Za aa
        clear bu aa bb
        by_cases hlt:k<n
        · obtain⟨r,hr⟩:∃r,T[k]?=some r:=⟨_,Zc (by rw[HN.out];exact hlt)⟩
          have aj:=Zk hr
          have av:=eb.out r aj
          obtain⟨b,o,a,dt,hb,c0,c1,c2,ct⟩:=(bp.out.below ar).row hr
          obtain⟨wn,bo⟩:∃wn,wr.alloc (.cells #[.int .i64 r.1,.int .i64 r.2.1,.slice a.1 r.2.2.length a.2] 61)=wn:=⟨_,rfl⟩
          have a8:Below wr.heap.size wr wn:=by rw[←bo];exact (Zd _ _).alloc (Zb _) _
          have af:Rw.At wn wr.heap.size 61 [.int .i64 r.1,.int .i64 r.2.1,.slice a.1 r.2.2.length a.2]:=by rw[←bo];exact Rw.At.new wr 61 [.int .i64 r.1,.int .i64 r.2.1,.slice a.1 r.2.2.length a.2]
          have iy:=af.lt
          have fc:=Za bo
          have bt:=Za a8
          have cf:=Za af
          have ap:=Za (ar.trans (a8.mono ar.size))
          have b3:=Za (dw.out.below a8)
          have eo:=Za (ct.below a8 a8.size)
          have bu:=fm.out
          rw[Md.drop_cons hr,Md.docTwice]at bu
          have dh:=Za bu
          have gp:T.take (k+1)=T.take k++[r]:=by rw[Zw,hr];rfl
          have ie:=Za gp
          have et:=Md.prim_row (X:=Md.xs E) b2.out aj (cd.out r aj).1
          have h4:Hid (∀W,Below wn.heap.size wn W→Calls Tryz.prog 104 #[.agg #[.slice A n c,.slice XA xn xc],.int .i64 r.1] W fun e w'=>e=.returned (.bool (Md.comp T (Md.xs E) r))∧Below W.heap.size W w'):=Za fun W hW=>by
           rw[←et]
           exact b6.out r.1 W (bn.out.trans ((ap.out.trans (hW.mono ap.out.size)).mono bn.out.size)) av.1.1 av.1.2
          have x0:=af.cell 0 rfl
          have ia:=b3.out.cell 0 rfl
          have kI:(k:Int)<n:=by omega
          have k0:(0:Int)≤k:=by omega
          have kc:(k:Int)≤c:=by omega
          have jn:k≤c:=by omega
          subst dt
          clear hr aj av ct bo a8 af bu gp et ar
          go_wp2_with fail
          go_upto_region 31 with (fail)
          rw[fc.out]
          go_wp2_with fail
          clear c0 c1 c2 x0 y0 y1 ia
          go_loopw [110] (fun i wq=>∃m:Nat,m≤k∧i=.int .i64 m∧Md.ahead T (Md.xs E) (T.take m) r=false∧Below wn.heap.size wn wq) (fun i _=>k-(intOf i).toNat)
          case atStart=>exact⟨0,ZE _,rfl,rfl,Zd _ _⟩
          case round =>
           obtain⟨m,hm,rfl,gx,ae⟩:=hrel
           have ao:=b3.out.below ae
           have a7:=cf.out.below' ae iy
           have bk:=eo.out.below ae ae.size
           have bh:=ap.out.trans (ae.mono ap.out.size)
           have gz:=Za gx
           have y0:=ao.cell 0 rfl
           have gw:=ao.lt
           have gi:=a7.lt
           clear gx
           by_cases hlt2:m<k
           · obtain⟨q,hq⟩:∃q,T[m]?=some q:=⟨_,Zc (by rw[HN.out];omega)⟩
             have fw:(T.take k)[m]?=some q:=by rw[YG,Zp hlt2];exact hq
             have br:=Zk hq
             have cw:=eb.out q br
             obtain⟨bq,oq,aq,fk,jm,c0,c1,c2,df⟩:=(bp.out.below bh).row hq
             simp only[Zi,YO,YH]at fk
             obtain⟨rfl,rfl⟩:=fk
             obtain⟨wp,dy⟩:∃wp,wr.alloc (.cells #[.int .i64 q.1,.int .i64 q.2.1,.slice aq.1 q.2.2.length aq.2] 61)=wp:=⟨_,rfl⟩
             have cc:Below wr.heap.size wr wp:=by rw[←dy];exact (Zd _ _).alloc (Zb _) _
             have bm:Rw.At wp wr.heap.size 61 [.int .i64 q.1,.int .i64 q.2.1,.slice aq.1 q.2.2.length aq.2]:=by rw[←dy];exact Rw.At.new wr 61 [.int .i64 q.1,.int .i64 q.2.1,.slice aq.1 q.2.2.length aq.2]
             have h8:=Za dy
             have az:=Za (ae.trans (cc.mono ae.size))
             have au:=ao.below cc
             have ak:=a7.below cc
             have jc:=Za (bk.below cc cc.size)
             have h6:=Za (df.below cc cc.size)
             have fx:=Md.prim_row (X:=Md.xs E) b2.out br (cd.out q br).1
             have C1:=Za (Ext.call (w:=wp) fun W hW=>h4.out W (az.out.trans (hW.mono az.out.size)))
             have gg:∀W,Below wp.heap.size wp W→Calls Tryz.prog 104 #[.agg #[.slice (some ⟨b,o,none⟩) n c,.slice XA xn xc],.int .i64 q.1] W fun e w'=>e=.returned (.bool (Md.comp T (Md.xs E) q))∧Below W.heap.size W w':=fun W hW=>by
              rw[←fx]
              have h1:=az.out.trans (hW.mono az.out.size)
              exact b6.out q.1 W (bn.out.trans ((ap.out.trans (h1.mono ap.out.size)).mono bn.out.size)) cw.1.1 cw.1.2
             have C2:=Za (Ext.call (w:=wp) gg)
             have e0:=Ext.cells (au.cell 0 rfl) au.lt
             have e1:=Ext.cells (au.cell 1 rfl) au.lt
             have r0:=Ext.cells (ak.cell 0 rfl) ak.lt
             have r2:=Ext.cells (ak.cell 2 rfl) ak.lt
             have q0:=Ext.cells (bm.cell 0 rfl) bm.lt
             have q2:=Ext.cells (bm.cell 2 rfl) bm.lt
             have ch:(Md.comp T (Md.xs E) r&&(Md.comp T (Md.xs E) q&&decide (q.2.2=r.2.2)))=false→Md.ahead T (Md.xs E) (T.take (m+1)) r=false:=by
              intro h0
              have h1:=gz.out
              unfold Md.ahead at h1 ⊢
              rw[Zw,hq,List.any_append,h1,YV]
              simp only[Option.toList_some,List.any_cons,List.any_nil,Bool.or_false]
              exact h0
             have ck:(Md.comp T (Md.xs E) r&&(Md.comp T (Md.xs E) q&&decide (q.2.2=r.2.2)))=true→res=5:=by
              intro h0
              rw[gh.out,Zp]
              rw[dh.out]
              have:Md.ahead T (Md.xs E) (T.take k) r=true:=by
               unfold Md.ahead
               rw[YB]
               exact⟨q,Zk fw,h0⟩
              rw[this,Xo]
             have ee:∀r:Rw.Row,Md.comp T (Md.xs E) r=true→∃x y,r.2.2=[x,y]:=by
              intro r hc
              unfold Md.comp at hc
              simp only[ZB,Zm]at hc
              have h2:=hc.2.1
              match hh:r.2.2,h2 with
              | [x,y],_=>exact⟨x,y,rfl⟩
             have cy:=Za (ee r)
             have cz:=Za (ee q)
             obtain⟨pr,e4⟩:∃p,Md.comp T (Md.xs E) r=p:=⟨_,rfl⟩
             obtain⟨pq,ew⟩:∃p,Md.comp T (Md.xs E) q=p:=⟨_,rfl⟩
             rw[e4,ew]at ch ck
             rw[e4]at C1 cy
             rw[ew]at C2 cz
             have bw:=Za ch
             have en:=Za ck
             have mI:(m:Int)<k:=by omega
             have m0:(0:Int)≤m:=by omega
             clear hq fw br cw df dy cc bm ao a7 bk au ak fx gg ch ck ee e4 ew ae bh
             go_upto_region 34 with (fail)
             rw[h8.out]
             clear c0 c1 c2 y0
             cases pr
             · have ah:=Za (bw.out (Xh _))
               refine wp_region_ext (by kernel_rfl) (by kernel_rfl) ?_
               repeat (go_big_quiet_step ((first|(go_at_call 104;first|with_reducible exact C1.out _|with_reducible exact C2.out _))))
               refine wpQuiet_nil ?_
               intro xw
               have bl:=Za (az.out.trans (xw.below.mono az.out.size))
               go_wp2_with fail
               exact⟨⟨m+1,by omega,by go_num,ah.out,bl.out⟩,by simp[intOf];omega⟩
             · cases pq
               · have ah:=Za (bw.out rfl)
                 refine wp_region_ext (by kernel_rfl) (by kernel_rfl) ?_
                 repeat (go_big_quiet_step ((first|(go_at_call 104;first|with_reducible exact C1.out _|with_reducible exact C2.out _))))
                 refine wpQuiet_nil ?_
                 intro xw
                 have bl:=Za (az.out.trans (xw.below.mono az.out.size))
                 go_wp2_with fail
                 exact⟨⟨m+1,by omega,by go_num,ah.out,bl.out⟩,by simp[intOf];omega⟩
               · obtain⟨x,y,aj⟩:=cy.out rfl
                 obtain⟨x',y',br⟩:=cz.out rfl
                 obtain⟨rl,e3⟩:∃k,r.2.2.length=k:=⟨_,rfl⟩
                 obtain⟨ql,ek⟩:∃k,q.2.2.length=k:=⟨_,rfl⟩
                 have e5:rl=2:=by rw[←e3,aj];rfl
                 have dv:ql=2:=by rw[←ek,br];rfl
                 rw[e3]at r2
                 rw[ek]at q2
                 have ef:=jc.out
                 have e6:=h6.out
                 rw[aj]at ef
                 rw[br]at e6
                 obtain⟨rb,ro,gl,av,e9⟩:=ef (by simp)
                 obtain⟨qb,qo,gy,cw,e7⟩:=e6 (by simp)
                 rw[gl]at r2
                 rw[gy]at q2
                 have js:=Ext.cells (w:=wp) (b:=rb) (o:=ro) (v:=.int .i64 x) (by simpa using e9 0 (by simp)) av
                 have jo:=Ext.cells (w:=wp) (b:=rb) (o:=ro+1) (v:=.int .i64 y) (by simpa using e9 1 (by simp)) av
                 have jv:=Ext.cells (w:=wp) (b:=qb) (o:=qo) (v:=.int .i64 x') (by simpa using e7 0 (by simp)) cw
                 have jl:=Ext.cells (w:=wp) (b:=qb) (o:=qo+1) (v:=.int .i64 y') (by simpa using e7 1 (by simp)) cw
                 have jz:((ql:Int) == 2)=true:=by rw[dv];rfl
                 have jq:0<rl:=by omega
                 have jr:(0:Int)<rl:=by omega
                 have jt:1<rl:=by omega
                 have ju:(1:Int)<rl:=by omega
                 have jw:0<ql:=by omega
                 have jy:(0:Int)<ql:=by omega
                 have j1:1<ql:=by omega
                 have jx:(1:Int)<ql:=by omega
                 have fg:=Za br
                 have du:=Za aj
                 clear e3 ek e5 dv ef e6 e9 e7 gl gy aj br
                 rcases he1:(x' == x) with _|_
                 · have ah:=Za (bw.out (by rw[fg.out,du.out];simp at he1 ⊢;intro e;exact absurd e he1))
                   refine wp_region_ext (by kernel_rfl) (by kernel_rfl) ?_
                   repeat (go_big_quiet_step ((first|(go_at_call 104;first|with_reducible exact C1.out _|with_reducible exact C2.out _))))
                   refine wpQuiet_nil ?_
                   intro xw
                   have bl:=Za (az.out.trans (xw.below.mono az.out.size))
                   go_wp2_with fail
                   exact⟨⟨m+1,by omega,by go_num,ah.out,bl.out⟩,by simp[intOf];omega⟩
                 · rcases he2:(y' == y) with _|_
                   · have ah:=Za (bw.out (by rw[fg.out,du.out];simp at he2 ⊢;intro _ e;exact absurd e he2))
                     refine wp_region_ext (by kernel_rfl) (by kernel_rfl) ?_
                     repeat (go_big_quiet_step ((first|(go_at_call 104;first|with_reducible exact C1.out _|with_reducible exact C2.out _))))
                     refine wpQuiet_nil ?_
                     intro xw
                     have bl:=Za (az.out.trans (xw.below.mono az.out.size))
                     go_wp2_with fail
                     exact⟨⟨m+1,by omega,by go_num,ah.out,bl.out⟩,by simp[intOf];omega⟩
                   · have aw:=Za (en.out (by rw[fg.out,du.out];simp at he1 he2 ⊢;exact⟨he1,he2⟩))
                     refine wp_region_ext (by kernel_rfl) (by kernel_rfl) ?_
                     repeat (go_big_quiet_step ((first|(go_at_call 104;first|with_reducible exact C1.out _|with_reducible exact C2.out _))))
                     refine wpQuiet_nil ?_
                     intro xw
                     have bl:=Za (az.out.trans (xw.below.mono az.out.size))
                     go_wp2_with fail
                     go_ret
                     exact ag.out 5 _ _ _ aw.out rfl (ap.out.trans (bl.out.mono ap.out.size)) rfl
           · obtain rfl:k=m:=by omega
             have bu:Md.docTwice T (Md.xs E) [] T=Md.docTwice T (Md.xs E) (T.take (k+1)) (T.drop (k+1)):=by rw[dh.out,ie.out,gz.out,YV]
             have e8:=Za bu
             have bl:=Za (b1.out.trans ((bt.out.trans (ae.mono bt.out.size)).mono b1.out.size))
             clear bu ae bh ao a7 bk y0
             go_wp2_with fail
             exact⟨⟨k+1,by omega,by go_num,e8.out,bl.out⟩,by simp[intOf];omega⟩
        · obtain rfl:n=k:=by omega
          have gm:res=0:=by
           rw[gh.out,fm.out,Xz (by rw[HN.out];exact Zb _)]
           rfl
          have iu:=Za gm
          clear gm hlt
          go_wp2_with fail
          go_ret
          exact ag.out 0 _ _ _ iu.out rfl dx.out rfl
end Go.Proofs.YtikiplbhlohmdaaGreatDoor
