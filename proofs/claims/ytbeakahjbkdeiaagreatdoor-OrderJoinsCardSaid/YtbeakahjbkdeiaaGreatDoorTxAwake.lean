/- slices.SortStableFunc at rune, by walking the library's text. -/
import Derived.Test.YtbeakahjbkdeiaaGreatDoorAl1
import Derived.Test.YtbeakahjbkdeiaaGreatDoorSsMain
import Derived.Test.YtbeakahjbkdeiaaGreatDoorOrPlain
import Derived.Test.YtbeakahjbkdeiaaGreatDoorSoWalkA
import Derived.Test.YtbeakahjbkdeiaaGreatDoorMap
import Derived.Test.YtbeakahjbkdeiaaGreatDoorSsIns
set_option linter.unusedVariables false
set_option linter.unusedSimpArgs false
namespace Go.Proofs.YtbeakahjbkdeiaaGreatDoor
open Go.RowKit
set_option linter.unusedSimpArgs false
set_option linter.unusedVariables false
def Ss.RetSort (k:Int→Int) (sz g:Nat) (P L Q:List Int) (w:World) (e:Ending) (w':World):Prop:=e=.returned (.tuple #[])∧(∃C,Ss.so k C∧Ss.eqv k L C∧Ss.At w' g sz (P++(C++Q)))∧w.grownBy w' (some g)
set_option maxRecDepth 100000 in
set_option maxHeartbeats 8000000 in
theorem Ss.stable_any (bp:FuncId) (cd:Option Addr) (k:Int→Int) (cf:∀(args:Array Value) (w:World),(callFunc bp args).run Tryz.prog w=.ok (.enter bp args) w) (bw:∀N,Ss.SymOk bp cd k N)
 (sz g o n cap:Nat) (P L Q:List Int) (w:World) (hC:Ss.Cmp bp cd k g w) (hZ:Ss.At w g sz (P++(L++Q))) (hP:P.length=o) (hL:L.length=n) (hn:n≤500000) :
 Calls Tryz.prog 128 #[.slice (some ⟨g,o,none⟩) n cap,.int .i64 n,.func (.func bp) #[] #[.pointer cd]] w (Ss.RetSort k sz g P L Q w):=by
 have HC:=Za hC
 have HZ:=Za hZ
 have HP:=Za hP
 have HL:=Za hL
 have cc:=Za (fun a b P B Q W hC h1 h2 h3 h4=>Ss.insertion_any bp cd k cf sz g o n cap a b P B Q W hC h1 h2 h3 h4 (Zh hn (by decide)))
 have cj:=Za (fun a m b P A B Q W hC h1 h2 h3 h4 h5 h6 h7 h8 h9=>bw b sz g o n cap a m b P A B Q W hC h1 h2 h3 h4 h5 h6 h7 (Zh hn (by decide)) (Nat.le_add_left b a) h8 h9)
 clear cf bw hC hZ hP hL
 go_enter Tryz.func128,Tryz.ntmps128
 go_wp2_with fail
 go_loopw [7,8] (fun va vb wr=>∃(t a b:Nat) (L1:List Int),a=20*t∧b=a+20∧a≤n∧va=.int .i64 a∧vb=.int .i64 b∧L1.length=20*t∧Ss.chk k 20 L1∧Ss.eqv k (L.take (20*t)) L1∧Ss.At wr g sz (P++(L1++(L.drop (20*t)++Q)))∧w.grownBy wr (some g)) (fun va _ _=>n+1-(intOf va).toNat)
 case atStart=>exact⟨0,0,20,[],rfl,rfl,by omega,rfl,rfl,rfl,Ss.chk_nil k 20,Ss.eqv.refl _ _,by simpa using HZ.out,Ss.grown_refl _ _⟩
 case round =>
  obtain⟨t,a,b,L1,bg,bj,ht,rfl,rfl,ap,a1,bk,aw,ax⟩:=hrel
  have br:=Za a1
  have bb:=Za bk
  have bh:=Za ap
  have bn:=Za ax
  have ar:=Za bg
  have aq:=Za bj
  by_cases hlt:b≤n
  · have bi:((L.drop (20*t)).take 20).length=20:=by rw[Zm,ZL,HL.out];omega
    have bf:L.drop (20*t)=(L.drop (20*t)).take 20++L.drop (20*t+20):=by rw[←XN,ZH]
    have ag:L.take (20*t+20)=L.take (20*t)++(L.drop (20*t)).take 20:=List.take_add ..
    obtain⟨B,a6⟩:∃B,(L.drop (20*t)).take 20=B:=⟨_,rfl⟩
    rw[a6]at bi bf ag
    have aa:Ss.At wr g sz ((P++L1)++(B++(L.drop (20*t+20)++Q))):=by rw[bf]at aw;simpa using aw
    have hI:=Za (cc.out a b (P++L1) B _ wr (HC.out.grown ax) aa (by rw[Zi,HP.out,ap];omega) (by omega) hlt)
    have c1:(b:Int)≤n:=by omega
    have bq:=Za bi
    have b2:=Za ag
    clear aw aa bf ag a6 bi a1 bk ap ax bg bj
    go_wp2_with fail
    refine hI.out.mono ?_
    rintro e w1 ⟨rfl,⟨B',hs,he,ae⟩,ak⟩
    have h1:=Ss.chk_snoc (k:=t) (l:=L1) (c:=B') (by rw[bh.out];omega) br.out hs (by rw[he.length,bq.out];exact Zb _)
    have h2:=bb.out.app he
    rw[←b2.out]at h2
    have H1:=Za h1
    have H2:=Za h2
    have H3:Hid ((L1++B').length=20*(t+1)):=Za (by rw[Zi,bh.out,he.length,bq.out];omega)
    have H4:Hid (Ss.At w1 g sz (P++((L1++B')++(L.drop (20*(t+1))++Q)))):=Lib.hid (by rw[show 20*(t+1)=20*t+20 by omega];simpa using ae)
    have H5:=Za (Rw.grown_trans bn.out ak)
    clear h1 h2 hs he ae ak hI
    go_wp2_with fail
    refine⟨⟨t+1,b,b+20,L1++B',by have:=ar.out;have:=aq.out;omega,rfl,hlt,rfl,Z5 (Value.int .i64) (by omega),H3.out,H1.out,by rw[show 20*(t+1)=20*t+20 by omega];exact H2.out,H4.out,H5.out⟩,by have:=aq.out;simp[intOf];omega⟩
  · have bi:(L.drop (20*t)).length=n-20*t:=by rw[ZL,HL.out]
    have aa:Ss.At wr g sz ((P++L1)++(L.drop (20*t)++Q)):=by simpa using aw
    have hI:=Za (cc.out a n (P++L1) (L.drop (20*t)) Q wr (HC.out.grown ax) aa (by rw[Zi,HP.out,ap];omega) (by rw[bi];omega) (Zb _))
    have c1:¬(b:Int)≤n:=by omega
    have bq:=Za bi
    clear aw aa bi a1 bk ap ax bg bj
    go_wp2_with fail
    refine hI.out.mono ?_
    rintro e w1 ⟨rfl,⟨B',hs,he,ae⟩,ak⟩
    have h1:=Ss.chk_snoc (k:=t) (l:=L1) (c:=B') (by rw[bh.out];omega) br.out hs (by rw[he.length,bq.out];have:=ar.out;have:=aq.out;omega)
    have h2:=bb.out.app he
    rw[ZH]at h2
    have h3:(L1++B').length=n:=by rw[Zi,bh.out,he.length,bq.out];have:=ar.out;omega
    have h4:Ss.At w1 g sz (P++((L1++B')++Q)):=by simpa using ae
    have H5:=Za (Rw.grown_trans bn.out ak)
    obtain⟨M0,cb⟩:∃M,L1++B'=M:=⟨_,rfl⟩
    rw[cb]at h1 h2 h3 h4
    have H1:=Za h1
    have H2:=Za h2
    have H3:=Za h3
    have H4:=Za h4
    clear h1 h2 h3 h4 cb hs he ae ak hI bn bh bb br bq c1 hlt ht ar aq
    go_wp2_with fail
    go_loopw [6,7,8,9] (fun vs _ _ _ wr=>∃(bs:Nat) (L1:List Int),20≤bs∧bs≤1000000∧vs=.int .i64 bs∧L1.length=n∧Ss.chk k bs L1∧Ss.eqv k L L1∧Ss.At wr g sz (P++(L1++Q))∧w.grownBy wr (some g)) (fun vs _ _ _ _=>n+1-(intOf vs).toNat)
    case atStart=>exact⟨20,M0,Zb _,by decide,rfl,H3.out,H1.out,H2.out,H4.out,H5.out⟩
    case round =>
     obtain⟨bs,L1,cp,cn,rfl,ap,a1,bk,aw,ax⟩:=hrel
     have br:=Za a1
     have bb:=Za bk
     have bh:=Za ap
     have bn:=Za ax
     have ch:=Za aw
     by_cases hlt:bs<n
     · have sI:(bs:Int)<n:=by omega
       clear a1 bk ap aw ax
       go_wp2_with fail
       obtain⟨wl,rfl⟩:∃wl:World,wl=wr:=⟨_,rfl⟩
       go_loopw [7,8] (fun va vb wq=>∃(t a e:Nat) (L2:List Int),t*(2*bs)=a∧e=a+2*bs∧a≤n∧va=.int .i64 a∧vb=.int .i64 e∧L2.length=a∧Ss.chk k (2*bs) L2∧Ss.eqv k (L1.take a) L2∧Ss.At wq g sz (P++(L2++(L1.drop a++Q)))∧w.grownBy wq (some g)) (fun va _ _=>n+1-(intOf va).toNat)
       case atStart=>exact⟨0,0,2*bs,[],Nat.zero_mul _,by omega,by omega,rfl,congrArg (Value.int .i64) (by omega),rfl,Ss.chk_nil _ _,by simpa using Ss.eqv.refl _ _,by simpa using ch.out,bn.out⟩
       case round =>
        obtain⟨t,a,e0,L2,ha,b7,ht,rfl,rfl,bm,au,az,aa,af⟩:=hrel
        have a8:=Za b7
        have bz:t*2*bs=a:=by rw[Nat.mul_assoc];exact ha
        have b6:(t*2+1)*bs=a+bs:=by rw[Nat.add_one_mul,bz]
        have b8:(t+1)*(2*bs)=a+2*bs:=by rw[Nat.add_one_mul,ha]
        have ao:=br.out (t*2)
        have av:=br.out (t*2+1)
        rw[bz]at ao
        rw[b6]at av
        have ba:=Za au
        have bl:=Za az
        have bo:=Za bm
        have bc:=Za af
        have cm:=Za b8
        have HA:=Za ha
        have aj:=bh.out
        by_cases hbn:e0≤n
        · have ay:L1.drop a=(L1.drop a).take bs++L1.drop (a+bs):=by rw[←XN,ZH]
          have bf:L1.drop (a+bs)=(L1.drop (a+bs)).take bs++L1.drop (a+2*bs):=by rw[show a+2*bs=a+bs+bs by omega,←XN (i:=bs) (j:=a+bs),ZH]
          have a7:((L1.drop a).take bs).length=bs:=by rw[Zm,ZL];omega
          have ah:((L1.drop (a+bs)).take bs).length=bs:=by rw[Zm,ZL];omega
          have ag:L1.take (a+2*bs)=L1.take a++((L1.drop a).take bs++(L1.drop (a+bs)).take bs):=by
           rw[show a+2*bs=a+bs+bs by omega,List.take_add,List.take_add,ZN]
          obtain⟨A,b3⟩:∃A,(L1.drop a).take bs=A:=⟨_,rfl⟩
          obtain⟨B,a6⟩:∃B,(L1.drop (a+bs)).take bs=B:=⟨_,rfl⟩
          rw[b3]at ay a7 ag ao
          rw[a6]at bf ah ag av
          have ai:Ss.At wr g sz ((P++L2)++(A++(B++(L1.drop (a+2*bs)++Q)))):=by rw[ay,bf]at aa;simpa using aa
          have hS:=Za (cj.out a (a+bs) e0 (P++L2) A B _ wr (HC.out.grown af) ai (by rw[Zi,HP.out,bm]) (by omega) (by omega) (by omega) (by omega) hbn ao av)
          have c1:(e0:Int)≤n:=by omega
          have b2:=Za ag
          have bt:=Za a7
          have b1:=Za ah
          clear aa ai ay bf ag b3 a6 a7 ah au az bm af ao av ha bz b6 b8 aj b7
          go_wp2_with fail
          rw[show (a:Int)+bs=((a+bs:Nat):Int) from by omega]
          refine hS.out.mono ?_
          rintro e w2 ⟨rfl,⟨D,hs,he,ae⟩,ak⟩
          have h1:=Ss.chk_snoc (k:=t) (l:=L2) (c:=D) (by rw[bo.out,HA.out]) ba.out hs (by rw[he.length,Zi,bt.out,b1.out];have:=a8.out;omega)
          have h2:=bl.out.app he
          rw[←b2.out]at h2
          have bu:=Za h1
          have b5:=Za h2
          have b4:Hid ((L2++D).length=a+2*bs):=Za (by rw[Zi,bo.out,he.length,Zi,bt.out,b1.out];omega)
          have bx:Hid (Ss.At w2 g sz (P++((L2++D)++(L1.drop (a+2*bs)++Q)))):=Lib.hid (by simpa using ae)
          have b9:=Za (Rw.grown_trans bc.out ak)
          clear h1 h2 hs he ae ak hS
          go_wp2_with fail
          exact⟨⟨t+1,e0,e0+2*bs,L2++D,cm.out.trans a8.out.symm,rfl,hbn,rfl,Z5 (Value.int .i64) (by omega),b4.out.trans a8.out.symm,bu.out,by rw[a8.out];exact b5.out,by rw[a8.out];exact bx.out,b9.out⟩,by have:=a8.out;simp[intOf];omega⟩
        · have c1:¬(e0:Int)≤n:=by omega
          by_cases hmn:a+bs<n
          · have ay:L1.drop a=(L1.drop a).take bs++L1.drop (a+bs):=by rw[←XN,ZH]
            have a7:((L1.drop a).take bs).length=bs:=by rw[Zm,ZL];omega
            have ah:(L1.drop (a+bs)).length=n-(a+bs):=by rw[ZL];omega
            have ag:L1=L1.take a++((L1.drop a).take bs++L1.drop (a+bs)):=by rw[←ay,ZH]
            rw[Zj (by rw[ah];omega)]at av
            obtain⟨A,b3⟩:∃A,(L1.drop a).take bs=A:=⟨_,rfl⟩
            obtain⟨B,a6⟩:∃B,L1.drop (a+bs)=B:=⟨_,rfl⟩
            rw[b3]at ay a7 ag ao
            rw[a6]at ay ah ag av
            have ai:Ss.At wr g sz ((P++L2)++(A++(B++Q))):=by rw[ay]at aa;simpa using aa
            have hS:=Za (cj.out a (a+bs) n (P++L2) A B Q wr (HC.out.grown af) ai (by rw[Zi,HP.out,bm]) (by omega) (by omega) (by omega) hmn (Zb _) ao av)
            have c4:(a:Int)+bs<n:=by omega
            have b2:=Za ag
            have bt:=Za a7
            have b1:=Za ah
            clear aa ai ay ag b3 a6 a7 ah au az bm af ao av ha bz b6 b8 aj b7
            go_wp2_with fail
            rw[show (a:Int)+bs=((a+bs:Nat):Int) from by omega]
            refine hS.out.mono ?_
            rintro e w2 ⟨rfl,⟨D,hs,he,ae⟩,ak⟩
            have h1:=Ss.chk_snoc (k:=t) (l:=L2) (c:=D) (by rw[bo.out,HA.out]) ba.out hs (by rw[he.length,Zi,bt.out,b1.out];have:=a8.out;omega)
            have h2:=bl.out.app he
            rw[←b2.out]at h2
            have bu:=Za h1
            have b5:=Za (bb.out.trans h2)
            have b4:Hid ((L2++D).length=n):=Za (by rw[Zi,bo.out,he.length,Zi,bt.out,b1.out];omega)
            have bx:Hid (Ss.At w2 g sz (P++((L2++D)++Q))):=Lib.hid (by simpa using ae)
            have b9:=Za (Rw.grown_trans bc.out ak)
            clear h1 h2 hs he ae ak hS
            go_wp2_with fail
            exact⟨⟨2*bs,L2++D,by omega,by omega,Z5 (Value.int .i64) (by omega),b4.out,bu.out,b5.out,bx.out,b9.out⟩,by simp[intOf];omega⟩
          · have ah:(L1.drop a).length=n-a:=by rw[ZL];omega
            rw[Zj (by rw[ah];omega)]at ao
            have h1:=Ss.chk_snoc (k:=t) (l:=L2) (c:=L1.drop a) (by rw[bo.out,HA.out]) ba.out ao (by rw[ah];omega)
            have h2:=bl.out.app (Ss.eqv.refl k (L1.drop a))
            rw[ZH]at h2
            have bu:=Za h1
            have b5:=Za (bb.out.trans h2)
            have b4:Hid ((L2++L1.drop a).length=n):=Za (by rw[Zi,bo.out,ah];omega)
            have bx:Hid (Ss.At wr g sz (P++((L2++L1.drop a)++Q))):=Lib.hid (by simpa using aa)
            have c4:¬(a:Int)+bs<n:=by omega
            clear h1 h2 aa ah au az bm af ao av ha bz b6 b8 aj b7
            go_wp2_with fail
            exact⟨⟨2*bs,L2++L1.drop a,by omega,by omega,Z5 (Value.int .i64) (by omega),b4.out,bu.out,b5.out,bx.out,bc.out⟩,by simp[intOf];omega⟩
     · have sI:¬(bs:Int)<n:=by omega
       have cg:=Ss.chk_all a1 (by rw[ap];omega)
       have ck:=Za cg
       clear a1 bk ap aw ax cg
       go_wp2_with fail
       go_end0
       exact⟨rfl,⟨L1,ck.out,bb.out,ch.out⟩,bn.out⟩
section
set_option maxRecDepth 100000
theorem Or.nan_any (x:Int) (w:World):Calls Tryz.prog 127 #[.int .i64 x] w fun e w'=>e=.returned (.bool false)∧w=w':=by
 go_enter Tryz.func127,Tryz.ntmps127
 go_wp2
 go_ret
 exact⟨by simp,rfl⟩
theorem Or.cmpInt_any (a b:Int) (w:World):Calls Tryz.prog 86 #[.int .i64 a,.int .i64 b] w fun e w'=>e=.returned (.int .i64 (Ss.cmp a b))∧w=w':=by
 go_enter Tryz.func86,Tryz.ntmps86
 go_wp2_with fail
 refine (Or.nan_any _ _).mono ?_
 rintro e w1 ⟨rfl,rfl⟩
 go_wp2_with fail
 refine (Or.nan_any _ _).mono ?_
 rintro e w1 ⟨rfl,rfl⟩
 by_cases h1:a<b
 · have hc:Hid (Ss.cmp a b = -1):=Za (Zv h1)
   go_wp2_with fail
   go_ret
   exact⟨by rw[hc.out];rfl,rfl⟩
 · by_cases h2:b<a
   · have hc:Hid (Ss.cmp a b=1):=Lib.hid (by unfold Ss.cmp;rw[if_neg h1,if_pos h2])
     have h3:a > b:=h2
     go_wp2_with fail
     go_ret
     exact⟨by rw[hc.out];rfl,rfl⟩
   · have hc:Hid (Ss.cmp a b=0):=Lib.hid (by unfold Ss.cmp;rw[if_neg h1,if_neg h2])
     have h3:¬a > b:=h2
     go_wp2_with fail
     go_ret
     exact⟨by rw[hc.out];rfl,rfl⟩
theorem Or.class_cmp (v:Value) (T:List Rw.Row) (S:List Int) (db:Nat) (x y:Int) (w:World) (ok:Ud.Ok T S) (h:Ud.Is w v T S) (hd:w.cell? ⟨db,0,none⟩=some v) (aa:db<w.heap.size) :
 Calls Tryz.prog 85 #[.int .i32 x,.int .i32 y,.pointer (some ⟨db,0,none⟩)] w fun e w'=>e=.returned (.int .i64 (Ss.cmp (Md.cls T x) (Md.cls T y)))∧Below w.heap.size w w':=by
 have C1:=Za (Ext.call (w:=w) fun W hW=>Ud.class_any v T S x W ok (h.below hW))
 have C2:=Za (Ext.call (w:=w) fun W hW=>Ud.class_any v T S y W ok (h.below hW))
 have C3:=Za (Ext.same (w:=w) fun W hW=>Or.cmpInt_any (Md.cls T x) (Md.cls T y) W)
 have x1:=Ext.cells hd aa
 clear h ok
 go_enter Tryz.func85,Tryz.ntmps85
 go_wp2_with fail
 refine wp_region_ext (by kernel_rfl) (by kernel_rfl) ?_
 repeat (go_big_quiet_step ((first|(go_at_call 26;first|with_reducible exact C1.out _|with_reducible exact C2.out _)|(go_at_call 86;with_reducible exact C3.out _))))
 refine wpQuiet_nil ?_
 intro xw
 have HB:=Za xw.below
 go_wp2_with fail
 go_ret
 exact⟨rfl,HB.out⟩
end
theorem Or.enters (args:Array Value) (w:World):(callFunc 85 args).run Tryz.prog w=.ok (.enter 85 args) w:=C.enter' Tryz.func85 (by kernel_rfl) (by kernel_rfl) args w
set_option maxRecDepth 100000 in
theorem Or.sort_any (aa:FuncId) (cd:Option Addr) (k:Int→Int) (af:∀(args:Array Value) (w:World),(callFunc aa args).run Tryz.prog w=.ok (.enter aa args) w) (ae:∀N,Ss.SymOk aa cd k N)
 (sz g o n cap:Nat) (P L Q:List Int) (w:World) (hC:Ss.Cmp aa cd k g w) (hZ:Ss.At w g sz (P++(L++Q))) (hP:P.length=o) (hL:L.length=n) (hn:n≤500000) :
 Calls Tryz.prog 87 #[.slice (some ⟨g,o,none⟩) n cap,.func (.func aa) #[] #[.pointer cd]] w (Ss.RetSort k sz g P L Q w):=by
 have hS:=Ss.stable_any aa cd k af ae sz g o n cap P L Q w hC hZ hP hL hn
 clear hC hZ hP hL ae af hn
 go_enter Tryz.func87,Tryz.ntmps87
 go_wp2_with fail
 refine hS.mono ?_
 rintro e w1 ⟨rfl,h1,h2⟩
 have H1:=Za h1
 have H2:=Za h2
 clear h1 h2 hS
 go_wp2_with fail
 go_end0
 exact⟨rfl,H1.out,H2.out⟩
theorem Ss.At.of_own {w:World} {base g n cap:Nat} {l:List Int} (hl:l.length=n) (h:w.ownsRow base 21 1 (.slice (some ⟨g,0,none⟩) n cap) n (l.map (Value.int .i32))):Ss.At w g cap l∧base≤g∧n≤cap∧cap≤maxLen:=by
 rcases h.2 with ⟨hv,_⟩|⟨g',ae,aa,hv,hg,hb,h1,h2,h3,h4⟩
 · cases hv
 · simp only[ZV,Zg,YE,YG,XP]at hv
   obtain⟨rfl,rfl⟩:=hv
   refine⟨⟨aa.toList.drop n,?_,?_⟩,hg,h1,h2⟩
   · have e:aa.toList.length=aa.size:=XG
     rw[ZL,e,h3,hl]
     omega
   · unfold Rw.At
     rw[Y6]at h4
     rw[←h4,ZH]
     simpa using hb
theorem Ss.At.own {w:World} {base g n cap:Nat} {Z:List Int} (h:Ss.At w g cap Z) (hl:Z.length=n) (hb:base≤g) (hc:n≤cap) (hm:cap≤maxLen):w.ownsRow base 21 1 (.slice (some ⟨g,0,none⟩) n cap) n (Z.map (Value.int .i32)):=by
 obtain⟨R,hs,ha⟩:=h
 refine⟨by rw[Zf,hl,Y6],.inr ⟨g,cap,_,rfl,hb,ha,hc,hm,?_,?_⟩⟩
 · simp
   omega
 · rw[Y6]
   simp[hl]
set_option maxRecDepth 100000 in
set_option maxHeartbeats 8000000 in
theorem Or.of_any (v:Value) (T:List Rw.Row) (S:List Int) (A:Option Addr) (n c:Nat) (l:List Int) (w:World) (ok:Ud.Ok T S) (h:Ud.Is w v T S) (hl:l.length=n) (hn:n≤100000) (hA:Sl w w.heap.size A (l.map (Value.int .i32))) (ba:∀bx cd k N,(∀(args:Array Value) (w:World),(callFunc bx args).run Tryz.prog w=.ok (.enter bx args) w)→Ss.SymOk bx cd k N) :
 Calls Tryz.prog 33 #[v,.slice A n c] w (Md.RetOwn (Or.of (Md.cls T) l) w):=by
 have bb:Below w.heap.size w (w.alloc (.cells #[v] 23)):=(Zd _ _).alloc (Zb _) _
 obtain⟨wa,bi⟩:∃wa,w.alloc (.cells #[v] 23)=wa:=⟨_,rfl⟩
 have b8:Rw.At wa w.heap.size 23 [v]:=by rw[←bi];exact Rw.At.new w 23 [v]
 rw[bi]at bb
 have bl:=R.clone_any A n c w.heap.size l wa hl (Zh hn (by decide)) bb.size (hA.below bb (Zb _))
 obtain⟨pv,cw,_⟩:=h.form
 have cq:=Za bi
 have bu:=Za bb
 have ch:=Za b8
 have cg:=Za h
 have cf:=Za ok
 have HL:=Za hl
 have c7:=Za ba
 obtain⟨f,hf⟩:∃f,Md.cls T=f:=⟨_,rfl⟩
 rw[hf]
 have HF:=Za hf
 subst cw
 clear bi bb b8 h ok hl ba hA hf
 go_enter Tryz.func33,Tryz.ntmps33
 go_upto_region 1 with (fail)
 rw[cq.out]
 go_wp2_with fail
 refine bl.mono ?_
 rintro e w1 ⟨A1,c1,rfl,ai,bg⟩
 have bk:=Za (bu.out.trans (bg.mono bu.out.size))
 have br:=Za (ch.out.below bg)
 rcases ai.2 with ⟨hv,h0⟩|⟨g,cap,dc,hv,hg,cx,k1,k2,k3,k4⟩
 · simp only[ZV]at hv
   obtain⟨rfl,rfl,rfl⟩:=hv
   have cn:l=[]:=ZI HL.out
   subst cn
   clear ai bg bl
   go_wp2_with fail
   go_loopw [7,8] (fun vi _ wr=>vi=.int .i64 0∧wr=w1) (fun _ _ _=>0)
   case atStart=>exact⟨rfl,rfl⟩
   case round =>
    obtain⟨rfl,rfl⟩:=hrel
    go_wp2_with fail
    go_ret
    exact⟨none,0,rfl,ZG _ _ _ _,bk.out⟩
 · simp only[ZV]at hv
   obtain⟨rfl,_,bp⟩:=hv
   replace bp:=bp.symm
   subst bp
   obtain⟨b5,b9,ct,c6⟩:=Ss.At.of_own HL.out ai
   have cr:w.heap.size+1≤g:=Zh (show w.heap.size+1≤wa.heap.size from ch.out.lt) hg
   have b4:∀W,w1.grownBy W (some g)→Below w.heap.size w W:=fun W hW=>bk.out.grown hW bk.out.size (by intro k hk;simp only[Zg]at hk;omega)
   have ah:∀W,w1.grownBy W (some g)→W.cell? ⟨w.heap.size,0,none⟩=some (.pointer (some ⟨pv,0,none⟩))∧w.heap.size<W.heap.size:=fun W hW=>by
    have:=br.out.grown hW (by simp only[XQ,Zg];omega)
    exact⟨this.cell 0 rfl,this.lt⟩
   have aq:Ss.Cmp 85 (some ⟨w.heap.size,0,none⟩) f g w1:=fun W hW x y=>by
    have:=Or.class_cmp _ T S w.heap.size x y W cf.out (cg.out.below (b4 W hW)) (ah W hW).1 (ah W hW).2
    rw[HF.out]at this
    exact this
   have bc:=fun (o n1 bt:Nat) (P1 L1 Q1:List Int) (W:World) (hW:w1.grownBy W (some g))=>Or.sort_any 85 (some ⟨w.heap.size,0,none⟩) f Or.enters (fun N=>c7.out _ _ _ N Or.enters) cap g o n1 bt P1 L1 Q1 W (aq.grown hW)
   have au:=Za bc
   have cj:=Za b4
   have bo:=Za ah
   have cu:=Za aq
   have bs:=Za b5
   have b3:Hid (w.heap.size≤g∧n≤cap∧cap≤maxLen):=Za ⟨Zh (by have:=bu.out.size;exact this) b9,ct,c6⟩
   clear ai bg bl cx k3 k4 k1 k2 b4 ah aq b5 b9 cr hg bc
   go_wp2_with fail
   go_loopw [7,8] (fun vi _ wr=>∃(j:Nat) (Z:List Int),vi=.int .i64 j∧Z.length=n∧j≤n+1∧((j≤n∧∃q,Or.Pre f (l.take j) q∧Z=q++l.drop j)∨(n<j∧Or.R f l Z))∧Ss.At wr g cap Z∧w1.grownBy wr (some g)) (fun vi _ _=>n+1-(intOf vi).toNat)
   case atStart=>exact⟨0,l,rfl,HL.out,by omega,.inl ⟨by omega,[],by simpa using Or.Pre.nil,by simp⟩,bs.out,Ss.grown_refl _ _⟩
   case round =>
    obtain⟨j,Z,rfl,bz,hj,ao,ae,bh⟩:=hrel
    by_cases hlt:j<n
    · rcases ao with ⟨_,q,af,rfl⟩|⟨cp,_⟩
      · have cb:q.length=j:=by rw[af.length,Zm,HL.out];omega
        have aw:=Za cb
        have bf:=Za af
        have bq:=Za ae
        have cm:=Za bh
        have jI:(j:Int)<n:=by omega
        clear cb af ae bh bz
        go_wp2_with fail
        obtain⟨wo,rfl⟩:∃wo:World,wo=wr:=⟨_,rfl⟩
        go_loopw [8] (fun vi wq=>∃i:Nat,j≤i∧i≤n∧vi=.int .i64 i∧(∀x∈(l.drop j).take (i-j),0<f x)∧Ss.At wq g cap (q++l.drop j)∧w1.grownBy wq (some g)) (fun vi _=>n-(intOf vi).toNat)
        case atStart=>exact⟨j,Zb _,by omega,rfl,by simp,bq.out,cm.out⟩
        case round =>
         obtain⟨i,ck,c8,rfl,hpos,aa,ax⟩:=hrel
         have ay:=Za hpos
         have bn:=Za ax
         have ar:=Za aa
         obtain⟨b1,b2⟩:=bo.out wr ax
         have xb:=Ext.cells b1 b2
         have gl:=aa.lt
         by_cases hie:i<n
         · obtain⟨y,hy⟩:∃y,l[i]?=some y:=⟨_,Zc (by rw[HL.out];exact hie)⟩
           have b6:(q++l.drop j)[i]?=some y:=by
            rw[ZF (by rw[aw.out];exact ck),aw.out,Xm,show j+(i-j)=i by omega]
            exact hy
           have cy:=aa.cell b6
           have xy:=Ext.cells cy gl
           have CC:=Za (Ext.call (w:=wr) fun W hW=>by
            have:=Ud.class_any _ T S y W cf.out (cg.out.below (cj.out W (Rw.grown_trans ax (Ss.grown_below hW))))
            rw[HF.out]at this
            exact this)
           have iI:(i:Int)<n:=by omega
           have i0:(0:Int)≤i:=by omega
           have b7:(l.drop j).take (i+1-j)=(l.drop j).take (i-j)++[y]:=by
            rw[show i+1-j=i-j+1 by omega,Zr,Xm,show j+(i-j)=i by omega,hy]
            rfl
           have cc:=Za b7
           have HY:=Za hy
           obtain⟨u,hu⟩:∃u,f y=u:=⟨_,rfl⟩
           rw[hu]at CC
           have HU:=Za hu
           clear hpos ax aa hy b6 b7 hu
           by_cases hup:0<u
           · have bm:u > 0:=hup
             go_wp2_with fail
             refine wp_region_ext (by kernel_rfl) (by kernel_rfl) ?_
             repeat (go_big_quiet_step ((go_at_call 26;with_reducible exact CC.out _)))
             refine wpQuiet_nil ?_
             intro xw
             have H1:=Za (ar.out.below xw.below)
             have H2:=Za (Rw.grown_trans bn.out (Ss.grown_below xw.below))
             clear xb xy b1 cy
             go_wp2_with fail
             refine⟨⟨i+1,by omega,by omega,by go_num,?_,H1.out,H2.out⟩,by simp[intOf];omega⟩
             rw[cc.out]
             intro x hx
             rcases List.mem_append.1 hx with hx|hx
             · exact ay.out x hx
             · rw[Zy]at hx
               rw[hx,HU.out]
               exact hup
           · have bm:¬u > 0:=hup
             go_wp2_with fail
             refine wp_region_ext (by kernel_rfl) (by kernel_rfl) ?_
             repeat (go_big_quiet_step ((go_at_call 26;with_reducible exact CC.out _)))
             refine wpQuiet_nil ?_
             intro xw
             have hdr:l.drop j=(l.drop j).take (i-j)++y::l.drop (i+1):=by
              obtain⟨u1,u2⟩:=List.getElem?_eq_some_iff.1 HY.out
              have h1:l.drop i=y::l.drop (i+1):=by rw[ZS u1,u2]
              rw[←h1]
              have h2:=(ZH (i-j) (l.drop j)).symm
              rw[XN,show j+(i-j)=i by omega]at h2
              exact h2
             have hlen:((l.drop j).take (i-j)).length=i-j:=by rw[Zm,ZL,HL.out];omega
             have az:l.take (i+1)=l.take j++((l.drop j).take (i-j)++[y]):=by
              have h:=cc.out
              rw[←h,←List.take_add,show j+(i+1-j)=i+1 by omega]
             have h1:=ar.out.below xw.below
             rw[hdr]at h1
             have h2:=Rw.grown_trans bn.out (Ss.grown_below xw.below)
             have hS:=Za (au.out j (i-j) (cap-j) q ((l.drop j).take (i-j)) (y::l.drop (i+1)) xw.val h2 h1 aw.out hlen (by omega))
             have H2:=Za h2
             have bj:=Za az
             have ap:=Za hlen
             clear xb xy b1 cy hdr hlen az h1 h2
             go_wp2_with fail
             refine hS.out.mono ?_
             rintro e w2 ⟨rfl,⟨C,sC,eC,ag⟩,a1⟩
             have a6:Ss.At w2 g cap ((q++(C++[y]))++l.drop (i+1)):=by simpa using ag
             have av:Or.Pre f (l.take (i+1)) (q++(C++[y])):=by
              rw[bj.out]
              exact Or.Pre.snoc bf.out ay.out sC eC (by rw[HU.out];omega)
             have a7:((q++(C++[y]))++l.drop (i+1)).length=n:=by
              have h1:=eC.length
              rw[ap.out]at h1
              have h2:=aw.out
              have h3:=HL.out
              simp
              omega
             have N1:=Za a6
             have N2:=Za av
             have N3:=Za a7
             have N4:=Za (Rw.grown_trans H2.out a1)
             clear a6 av a7 sC eC ag a1 hS
             go_wp2_with fail
             exact⟨⟨i+1,(q++(C++[y]))++l.drop (i+1),by first|rfl|go_num,N3.out,by omega,.inl ⟨by omega,_,N2.out,rfl⟩,N1.out,N4.out⟩,by simp[intOf];omega⟩
         · obtain rfl:i=n:=by omega
           have iI:¬(i:Int)<i:=by omega
           have aj:(l.drop j).take (i-j)=l.drop j:=Zj (by rw[ZL,HL.out];exact Zb _)
           rw[aj]at hpos
           have a8:=Za hpos
           have hlen:(l.drop j).length=i-j:=by rw[ZL,HL.out]
           have hS:=Lib.hid (au.out j (i-j) (cap-j) q (l.drop j) [] wr ax (by simpa using aa) aw.out hlen (by omega))
           have ap:=Za hlen
           clear xb b1 aj hpos hlen aa ax hS
           go_wp2_with fail
           refine wp_region_ext (by kernel_rfl) (by kernel_rfl) ?_
           repeat (go_big_quiet_step (fail))
           refine wpQuiet_nil ?_
           intro xw
           have h1:=ar.out.below xw.below
           have h2:=Rw.grown_trans bn.out (Ss.grown_below xw.below)
           have hS:=Lib.hid (au.out j (i-j) (cap-j) q (l.drop j) [] xw.val h2 (by simpa using h1) aw.out ap.out (by omega))
           have H2:=Za h2
           clear h1 h2
           go_wp2_with fail
           refine hS.out.mono ?_
           rintro e w2 ⟨rfl,⟨C,sC,eC,ag⟩,a1⟩
           have a6:Ss.At w2 g cap (q++C):=by simpa using ag
           have av:Or.R f l (q++C):=by
            have h:=bf.out.app (Or.R.run a8.out sC eC)
            rw[ZH]at h
            exact h
           have a7:(q++C).length=i:=av.length.trans HL.out
           have N1:=Za a6
           have N2:=Za av
           have N3:=Za a7
           have N4:=Za (Rw.grown_trans H2.out a1)
           clear a6 av a7 sC eC ag a1 hS
           go_wp2_with fail
           exact⟨⟨i+1,q++C,by first|rfl|go_num,N3.out,by omega,.inr ⟨by omega,N2.out⟩,N1.out,N4.out⟩,by simp[intOf];omega⟩
      · omega
    · have jI:¬(j:Int)<n:=by omega
      have hR:Or.R f l Z:=by
       rcases ao with ⟨cp,q,af,rfl⟩|⟨_,h⟩
       · obtain rfl:j=n:=by omega
         rw[Yo (by rw[HL.out];exact Zb _)]
         have h:=af.app (Or.R.run (f:=f) (a:=[]) (b:=[]) (fun x hx=>by simp at hx) (Ss.so_nil f) (Ss.eqv.refl _ _))
         rw[Yk,Zj (by rw[HL.out];exact Zb _)]at h
         exact h
       · exact h
      have hZ:Z=Or.of f l:=(Or.R.unique (Or.of_R f l) hR)
      have bw:(Or.of f l).length=n:=by rw[←hZ];exact bz
      rw[hZ]at ae
      have ak:=ae.own (n:=n) (base:=w.heap.size) bw b3.out.1 b3.out.2.1 b3.out.2.2
      have HO:=Za ak
      have cv:=Za (cj.out wr bh)
      have cz:=Za bw
      clear hR hZ ae ak bh bw bz
      go_wp2_with fail
      go_ret
      unfold Md.RetOwn
      rw[cz.out]
      exact⟨_,_,rfl,HO.out,cv.out⟩
theorem Tx.sym (aa:FuncId) (cd:Option Addr) (k:Int→Int) (N:Nat) (h:∀(args:Array Value) (w:World),(callFunc aa args).run Tryz.prog w=.ok (.enter aa args) w):Ss.SymOk aa cd k N:=Ss.sym_all aa cd k h N
theorem Or.ofD_any (v:Value) (T:List Rw.Row) (S:List Int) (A:Option Addr) (n c:Nat) (l:List Int) (w:World) (ok:Ud.Ok T S) (h:Ud.Is w v T S) (hl:l.length=n) (hn:n≤100000) (hA:Sl w w.heap.size A (l.map (Value.int .i32))) :
 Calls Tryz.prog 33 #[v,.slice A n c] w (Md.RetOwn (Or.of (Md.cls T) l) w):=Or.of_any v T S A n c l w ok h hl hn hA Tx.sym
theorem Tx.lit16:Or.of (Md.cls Xt.T) [97,769,803]=[97,803,769]:=by decide +kernel
theorem Tx.lit16in:Or.inB (Md.cls Xt.T) 0 [97,803,769]=true:=by decide +kernel
set_option maxRecDepth 100000 in
set_option maxHeartbeats 2000000 in
theorem Tx.awake16 (w:World) (hL:Rw.Laid w):Calls Tryz.prog 29 #[] w fun e w'=>e=.returned (.bool true)∧Below w.heap.size w w':=by
 have hD:=Xt.data_any w hL
 have ap:Hid (∀p W A,Ud.Is W p Xt.T Xt.S→Sl W W.heap.size A (([97,769,803]:List Int).map (Value.int .i32))→Calls Tryz.prog 33 #[p,.slice A 3 3] W (Md.RetOwn [97,803,769] W)):=Za fun p W A h hA=>by
  have:=Or.ofD_any p Xt.T Xt.S A 3 3 [97,769,803] W Xt.ok h rfl (by decide) hA
  rw[Tx.lit16]at this
  exact this
 have ao:Hid (∀p W A c,Ud.Is W p Xt.T Xt.S→Sl W W.heap.size A (([97,803,769]:List Int).map (Value.int .i32))→Calls Tryz.prog 35 #[p,.slice A 3 c] W fun e w'=>e=.returned (.bool true)∧Below W.heap.size W w'):=Za fun p W A c h hA=>by
  have:=Or.in_any p Xt.T Xt.S A 3 c [97,803,769] W Xt.ok h rfl (by decide) hA
  rw[Tx.lit16in]at this
  exact this
 obtain⟨T,hT⟩:∃T,Xt.T=T:=⟨_,rfl⟩
 obtain⟨S,hS⟩:∃S,Xt.S=S:=⟨_,rfl⟩
 rw[hT,hS]at hD ap ao
 clear hT hS hL
 go_enter Tryz.func29,Tryz.ntmps29
 go_wp2_with fail
 refine hD.mono ?_
 rintro e w1 ⟨p,rfl,ae,ag⟩
 obtain⟨b,rfl,ba⟩:=ae.form
 have bb:=Za ae
 have a7:=Za ag
 obtain⟨w2,ah⟩:∃w2,w1.alloc (.cells #[.int .i32 97,.int .i32 769,.int .i32 803] 21)=w2:=⟨_,rfl⟩
 have af:Below w1.heap.size w1 w2:=by rw[←ah];exact (Zd _ _).alloc (Zb _) _
 have au:Sl w2 w2.heap.size (some ⟨w1.heap.size,0,none⟩) (([97,769,803]:List Int).map (Value.int .i32)):=Sl.lit rfl 21 (0,0) (by rw[←ah];exact ZT w1 _)
 have ar:=ap.out _ w2 _ (ae.below af) au
 have a1:=Za ah
 have aq:=Za (ag.trans (af.mono ag.size))
 have ai:=Za (ae.below af)
 clear ae ag ah af au hD ap
 go_wp2_with (go_at_call 33;rw[a1.out];refine ar.mono ?_)
 rintro e w3 ⟨A,c,rfl,aa,aj⟩
 obtain⟨g,o,rfl,a8,ak⟩:=(Sl.of_own aa) (by simp)
 have az:=ak 1 (by simp)
 have a6:=ak 2 (by simp)
 simp only[Z0,Y3,YB,YM]at az a6
 have aw:=ao.out _ w3 _ c (ai.out.below aj) (Sl.of_own aa)
 have av:=Za (aq.out.trans (aj.mono aq.out.size))
 simp only[ZM,Z9]
 clear aa ak aj ar ao
 go_wp2_with (go_at_call 35;refine aw.mono ?_;rintro e w4 ⟨rfl,ay⟩)
 have ax:=av.out.trans (ay.mono av.out.size)
 go_ret
 exact⟨rfl,ax⟩
end Go.Proofs.YtbeakahjbkdeiaaGreatDoor
