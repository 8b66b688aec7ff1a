/- slices.SortStableFunc at rune, by walking the library's text. -/
import Derived.Test.YtikiplbhlohmdaaGreatDoorSsMain
set_option linter.unusedVariables false
set_option linter.unusedSimpArgs false
namespace Go.Proofs.YtikiplbhlohmdaaGreatDoor
open Go.RowKit
def Ss.RetSort (k:Int→Int) (sz g:Nat) (P L Q:List Int) (w:World) (e:Ending) (w':World):Prop:=e=.returned (.tuple #[])∧(∃C,Ss.so k C∧Ss.eqv k L C∧Ss.At w' g sz (P++(C++Q)))∧w.grownBy w' (some g)
set_option maxRecDepth 100000 in
set_option maxHeartbeats 8000000 in
theorem Ss.stable_any (bm:FuncId) (cd:Option Addr) (k:Int→Int) (cj:∀(args:Array Value) (w:World),(callFunc bm args).run Tryz.prog w=.ok (.enter bm args) w) (b2:∀N,Ss.SymOk bm cd k N)
 (sz g o n cap:Nat) (P L Q:List Int) (w:World) (hC:Ss.Cmp bm cd k g w) (hZ:Ss.At w g sz (P++(L++Q))) (hP:P.length=o) (hL:L.length=n) (hn:n≤500000) :
 Calls Tryz.prog 102 #[.slice (some ⟨g,o,none⟩) n cap,.int .i64 n,.func (.func bm) #[] #[.pointer cd]] w (Ss.RetSort k sz g P L Q w):=by
 have HC:=Za hC
 have HZ:=Za hZ
 have HP:=Za hP
 have HL:=Za hL
 have cb:=Za (fun a b P B Q W hC h1 h2 h3 h4=>Ss.insertion_any bm cd k cj sz g o n cap a b P B Q W hC h1 h2 h3 h4 (Zh hn (by decide)))
 have cc:=Za (fun a m b P A B Q W hC h1 h2 h3 h4 h5 h6 h7 h8 h9=>b2 b sz g o n cap a m b P A B Q W hC h1 h2 h3 h4 h5 h6 h7 (Zh hn (by decide)) (Nat.le_add_left b a) h8 h9)
 clear cj b2 hC hZ hP hL
 go_enter Tryz.func102,Tryz.ntmps102
 go_wp2_with fail
 go_loopw [7,8] (fun va vb wr=>∃(t a b:Nat) (L1:List Int),a=20*t∧b=a+20∧a≤n∧va=.int .i64 a∧vb=.int .i64 b∧L1.length=20*t∧Ss.chk k 20 L1∧Ss.eqv k (L.take (20*t)) L1∧Ss.At wr g sz (P++(L1++(L.drop (20*t)++Q)))∧w.grownBy wr (some g)) (fun va _ _=>n+1-(intOf va).toNat)
 case atStart=>exact⟨0,0,20,[],rfl,rfl,by omega,rfl,rfl,rfl,Ss.chk_nil k 20,Ss.eqv.refl _ _,by simpa using HZ.out,Ss.grown_refl _ _⟩
 case round =>
  obtain⟨t,a,b,L1,bc,bf,ht,rfl,rfl,ap,a1,bh,az,aw⟩:=hrel
  have bo:=Za a1
  have bl:=Za bh
  have ba:=Za ap
  have bn:=Za aw
  have au:=Za bc
  have aq:=Za bf
  by_cases hlt:b≤n
  · have a7:((L.drop (20*t)).take 20).length=20:=by rw[Zq,ZK,HL.out];omega
    have bk:L.drop (20*t)=(L.drop (20*t)).take 20++L.drop (20*t+20):=by rw[←XX,ZG]
    have ah:L.take (20*t+20)=L.take (20*t)++(L.drop (20*t)).take 20:=List.take_add ..
    obtain⟨B,a6⟩:∃B,(L.drop (20*t)).take 20=B:=⟨_,rfl⟩
    rw[a6]at a7 bk ah
    have aa:Ss.At wr g sz ((P++L1)++(B++(L.drop (20*t+20)++Q))):=by rw[bk]at az;simpa using az
    have hI:=Za (cb.out a b (P++L1) B _ wr (HC.out.grown aw) aa (by rw[Ze,HP.out,ap];omega) (by omega) hlt)
    have c1:(b:Int)≤n:=by omega
    have br:=Za a7
    have bz:=Za ah
    clear az aa bk ah a6 a7 a1 bh ap aw bc bf
    go_wp2_with fail
    refine hI.out.mono ?_
    rintro e w1 ⟨rfl,⟨B',hs,he,ae⟩,aj⟩
    have h1:=Ss.chk_snoc (k:=t) (l:=L1) (c:=B') (by rw[ba.out];omega) bo.out hs (by rw[he.length,br.out];exact Zb _)
    have h2:=bl.out.app he
    rw[←bz.out]at h2
    have H1:=Za h1
    have H2:=Za h2
    have H3:Hid ((L1++B').length=20*(t+1)):=Za (by rw[Ze,ba.out,he.length,br.out];omega)
    have H4:Hid (Ss.At w1 g sz (P++((L1++B')++(L.drop (20*(t+1))++Q)))):=Lib.hid (by rw[show 20*(t+1)=20*t+20 by omega];simpa using ae)
    have H5:=Za (Rw.grown_trans bn.out aj)
    clear h1 h2 hs he ae aj hI
    go_wp2_with fail
    refine⟨⟨t+1,b,b+20,L1++B',by have:=au.out;have:=aq.out;omega,rfl,hlt,rfl,Z4 (Value.int .i64) (by omega),H3.out,H1.out,by rw[show 20*(t+1)=20*t+20 by omega];exact H2.out,H4.out,H5.out⟩,by have:=aq.out;simp[intOf];omega⟩
  · have a7:(L.drop (20*t)).length=n-20*t:=by rw[ZK,HL.out]
    have aa:Ss.At wr g sz ((P++L1)++(L.drop (20*t)++Q)):=by simpa using az
    have hI:=Za (cb.out a n (P++L1) (L.drop (20*t)) Q wr (HC.out.grown aw) aa (by rw[Ze,HP.out,ap];omega) (by rw[a7];omega) (Zb _))
    have c1:¬(b:Int)≤n:=by omega
    have br:=Za a7
    clear az aa a7 a1 bh ap aw bc bf
    go_wp2_with fail
    refine hI.out.mono ?_
    rintro e w1 ⟨rfl,⟨B',hs,he,ae⟩,aj⟩
    have h1:=Ss.chk_snoc (k:=t) (l:=L1) (c:=B') (by rw[ba.out];omega) bo.out hs (by rw[he.length,br.out];have:=au.out;have:=aq.out;omega)
    have h2:=bl.out.app he
    rw[ZG]at h2
    have h3:(L1++B').length=n:=by rw[Ze,ba.out,he.length,br.out];have:=au.out;omega
    have h4:Ss.At w1 g sz (P++((L1++B')++Q)):=by simpa using ae
    have H5:=Za (Rw.grown_trans bn.out aj)
    obtain⟨M0,cf⟩:∃M,L1++B'=M:=⟨_,rfl⟩
    rw[cf]at h1 h2 h3 h4
    have H1:=Za h1
    have H2:=Za h2
    have H3:=Za h3
    have H4:=Za h4
    clear h1 h2 h3 h4 cf hs he ae aj hI bn ba bl bo br c1 hlt ht au aq
    go_wp2_with fail
    go_loopw [6,7,8,9] (fun vs _ _ _ wr=>∃(bs:Nat) (L1:List Int),20≤bs∧bs≤1000000∧vs=.int .i64 bs∧L1.length=n∧Ss.chk k bs L1∧Ss.eqv k L L1∧Ss.At wr g sz (P++(L1++Q))∧w.grownBy wr (some g)) (fun vs _ _ _ _=>n+1-(intOf vs).toNat)
    case atStart=>exact⟨20,M0,Zb _,by decide,rfl,H3.out,H1.out,H2.out,H4.out,H5.out⟩
    case round =>
     obtain⟨bs,L1,cp,cn,rfl,ap,a1,bh,az,aw⟩:=hrel
     have bo:=Za a1
     have bl:=Za bh
     have ba:=Za ap
     have bn:=Za aw
     have cg:=Za az
     by_cases hlt:bs<n
     · have sI:(bs:Int)<n:=by omega
       clear a1 bh ap az aw
       go_wp2_with fail
       obtain⟨wl,rfl⟩:∃wl:World,wl=wr:=⟨_,rfl⟩
       go_loopw [7,8] (fun va vb wq=>∃(t a e:Nat) (L2:List Int),t*(2*bs)=a∧e=a+2*bs∧a≤n∧va=.int .i64 a∧vb=.int .i64 e∧L2.length=a∧Ss.chk k (2*bs) L2∧Ss.eqv k (L1.take a) L2∧Ss.At wq g sz (P++(L2++(L1.drop a++Q)))∧w.grownBy wq (some g)) (fun va _ _=>n+1-(intOf va).toNat)
       case atStart=>exact⟨0,0,2*bs,[],Nat.zero_mul _,by omega,by omega,rfl,congrArg (Value.int .i64) (by omega),rfl,Ss.chk_nil _ _,by simpa using Ss.eqv.refl _ _,by simpa using cg.out,bn.out⟩
       case round =>
        obtain⟨t,a,e0,L2,ha,b7,ht,rfl,rfl,bp,ar,ax,aa,ag⟩:=hrel
        have bg:=Za b7
        have b4:t*2*bs=a:=by rw[Nat.mul_assoc];exact ha
        have b6:(t*2+1)*bs=a+bs:=by rw[Nat.add_one_mul,b4]
        have b8:(t+1)*(2*bs)=a+2*bs:=by rw[Nat.add_one_mul,ha]
        have ao:=bo.out (t*2)
        have av:=bo.out (t*2+1)
        rw[b4]at ao
        rw[b6]at av
        have a8:=Za ar
        have bj:=Za ax
        have bq:=Za bp
        have bi:=Za ag
        have cm:=Za b8
        have HA:=Za ha
        have ak:=ba.out
        by_cases hbn:e0≤n
        · have ay:L1.drop a=(L1.drop a).take bs++L1.drop (a+bs):=by rw[←XX,ZG]
          have bk:L1.drop (a+bs)=(L1.drop (a+bs)).take bs++L1.drop (a+2*bs):=by rw[show a+2*bs=a+bs+bs by omega,←XX (i:=bs) (j:=a+bs),ZG]
          have bb:((L1.drop a).take bs).length=bs:=by rw[Zq,ZK];omega
          have af:((L1.drop (a+bs)).take bs).length=bs:=by rw[Zq,ZK];omega
          have ah:L1.take (a+2*bs)=L1.take a++((L1.drop a).take bs++(L1.drop (a+bs)).take bs):=by
           rw[show a+2*bs=a+bs+bs by omega,List.take_add,List.take_add,Zz]
          obtain⟨A,b5⟩:∃A,(L1.drop a).take bs=A:=⟨_,rfl⟩
          obtain⟨B,a6⟩:∃B,(L1.drop (a+bs)).take bs=B:=⟨_,rfl⟩
          rw[b5]at ay bb ah ao
          rw[a6]at bk af ah av
          have ai:Ss.At wr g sz ((P++L2)++(A++(B++(L1.drop (a+2*bs)++Q)))):=by rw[ay,bk]at aa;simpa using aa
          have hS:=Za (cc.out a (a+bs) e0 (P++L2) A B _ wr (HC.out.grown ag) ai (by rw[Ze,HP.out,bp]) (by omega) (by omega) (by omega) (by omega) hbn ao av)
          have c1:(e0:Int)≤n:=by omega
          have bz:=Za ah
          have bw:=Za bb
          have b1:=Za af
          clear aa ai ay bk ah b5 a6 bb af ar ax bp ag ao av ha b4 b6 b8 ak b7
          go_wp2_with fail
          rw[show (a:Int)+bs=((a+bs:Nat):Int) from by omega]
          refine hS.out.mono ?_
          rintro e w2 ⟨rfl,⟨D,hs,he,ae⟩,aj⟩
          have h1:=Ss.chk_snoc (k:=t) (l:=L2) (c:=D) (by rw[bq.out,HA.out]) a8.out hs (by rw[he.length,Ze,bw.out,b1.out];have:=bg.out;omega)
          have h2:=bj.out.app he
          rw[←bz.out]at h2
          have bu:=Za h1
          have bt:=Za h2
          have bx:Hid ((L2++D).length=a+2*bs):=Za (by rw[Ze,bq.out,he.length,Ze,bw.out,b1.out];omega)
          have b3:Hid (Ss.At w2 g sz (P++((L2++D)++(L1.drop (a+2*bs)++Q)))):=Lib.hid (by simpa using ae)
          have b9:=Za (Rw.grown_trans bi.out aj)
          clear h1 h2 hs he ae aj hS
          go_wp2_with fail
          exact⟨⟨t+1,e0,e0+2*bs,L2++D,cm.out.trans bg.out.symm,rfl,hbn,rfl,Z4 (Value.int .i64) (by omega),bx.out.trans bg.out.symm,bu.out,by rw[bg.out];exact bt.out,by rw[bg.out];exact b3.out,b9.out⟩,by have:=bg.out;simp[intOf];omega⟩
        · have c1:¬(e0:Int)≤n:=by omega
          by_cases hmn:a+bs<n
          · have ay:L1.drop a=(L1.drop a).take bs++L1.drop (a+bs):=by rw[←XX,ZG]
            have bb:((L1.drop a).take bs).length=bs:=by rw[Zq,ZK];omega
            have af:(L1.drop (a+bs)).length=n-(a+bs):=by rw[ZK];omega
            have ah:L1=L1.take a++((L1.drop a).take bs++L1.drop (a+bs)):=by rw[←ay,ZG]
            rw[Zj (by rw[af];omega)]at av
            obtain⟨A,b5⟩:∃A,(L1.drop a).take bs=A:=⟨_,rfl⟩
            obtain⟨B,a6⟩:∃B,L1.drop (a+bs)=B:=⟨_,rfl⟩
            rw[b5]at ay bb ah ao
            rw[a6]at ay af ah av
            have ai:Ss.At wr g sz ((P++L2)++(A++(B++Q))):=by rw[ay]at aa;simpa using aa
            have hS:=Za (cc.out a (a+bs) n (P++L2) A B Q wr (HC.out.grown ag) ai (by rw[Ze,HP.out,bp]) (by omega) (by omega) (by omega) hmn (Zb _) ao av)
            have c4:(a:Int)+bs<n:=by omega
            have bz:=Za ah
            have bw:=Za bb
            have b1:=Za af
            clear aa ai ay ah b5 a6 bb af ar ax bp ag ao av ha b4 b6 b8 ak b7
            go_wp2_with fail
            rw[show (a:Int)+bs=((a+bs:Nat):Int) from by omega]
            refine hS.out.mono ?_
            rintro e w2 ⟨rfl,⟨D,hs,he,ae⟩,aj⟩
            have h1:=Ss.chk_snoc (k:=t) (l:=L2) (c:=D) (by rw[bq.out,HA.out]) a8.out hs (by rw[he.length,Ze,bw.out,b1.out];have:=bg.out;omega)
            have h2:=bj.out.app he
            rw[←bz.out]at h2
            have bu:=Za h1
            have bt:=Za (bl.out.trans h2)
            have bx:Hid ((L2++D).length=n):=Za (by rw[Ze,bq.out,he.length,Ze,bw.out,b1.out];omega)
            have b3:Hid (Ss.At w2 g sz (P++((L2++D)++Q))):=Lib.hid (by simpa using ae)
            have b9:=Za (Rw.grown_trans bi.out aj)
            clear h1 h2 hs he ae aj hS
            go_wp2_with fail
            exact⟨⟨2*bs,L2++D,by omega,by omega,Z4 (Value.int .i64) (by omega),bx.out,bu.out,bt.out,b3.out,b9.out⟩,by simp[intOf];omega⟩
          · have af:(L1.drop a).length=n-a:=by rw[ZK];omega
            rw[Zj (by rw[af];omega)]at ao
            have h1:=Ss.chk_snoc (k:=t) (l:=L2) (c:=L1.drop a) (by rw[bq.out,HA.out]) a8.out ao (by rw[af];omega)
            have h2:=bj.out.app (Ss.eqv.refl k (L1.drop a))
            rw[ZG]at h2
            have bu:=Za h1
            have bt:=Za (bl.out.trans h2)
            have bx:Hid ((L2++L1.drop a).length=n):=Za (by rw[Ze,bq.out,af];omega)
            have b3:Hid (Ss.At wr g sz (P++((L2++L1.drop a)++Q))):=Lib.hid (by simpa using aa)
            have c4:¬(a:Int)+bs<n:=by omega
            clear h1 h2 aa af ar ax bp ag ao av ha b4 b6 b8 ak b7
            go_wp2_with fail
            exact⟨⟨2*bs,L2++L1.drop a,by omega,by omega,Z4 (Value.int .i64) (by omega),bx.out,bu.out,bt.out,b3.out,bi.out⟩,by simp[intOf];omega⟩
     · have sI:¬(bs:Int)<n:=by omega
       have ch:=Ss.chk_all a1 (by rw[ap];omega)
       have ck:=Za ch
       clear a1 bh ap az aw ch
       go_wp2_with fail
       go_end0
       exact⟨rfl,⟨L1,ck.out,bl.out,cg.out⟩,bn.out⟩
set_option maxHeartbeats 400000 in
theorem Hg.in_any (c a n:Int) (w:World) (h1:0≤a) (h2:0≤n) (h3:a+n≤100000) :
 Calls Tryz.prog 75 #[.int .i32 c,.int .i32 a,.int .i32 n] w fun e w'=>e=.returned (.bool (decide (a≤c∧c<a+n)))∧w=w':=by
 go_enter Tryz.func75,Tryz.ntmps75
 go_wp2
 all_goals
  go_ret
  exact⟨ret_bool (by simp;try omega),rfl⟩
def Hg.ofK (c:Int):Int :=
 if 4352≤c∧c<4371 then 1 else if 4449≤c∧c<4470 then 2 else if 4520≤c∧c<4547 then 3
 else if ¬(44032≤c∧c<55204) then 0 else if (c-44032)%28=0 then 4 else 5
set_option maxHeartbeats 400000 in
theorem Hg.of_any (c:Int) (w:World) (h1 : -2147483648≤c) (h2:c≤2147483647) :
 Calls Tryz.prog 45 #[.int .i32 c] w fun e w'=>e=.returned (.int .i64 (Hg.ofK c))∧w=w':=by
 go_enter Tryz.func45,Tryz.ntmps45
 go_wp2
 all_goals
  go_ret
  refine⟨ret_int ?_,rfl⟩
  try simp only[YP,Xq,Xm,Bool.not_eq_false',Zm,ZY]at *
  unfold Hg.ofK
  grind
def Hg.pairK (c:Int):Int × Int × Bool :=
 if Hg.ofK c=4 then (4352+(c-44032)/588,4449+(c-44032)%588/28,true)
 else if Hg.ofK c=5 then (c-(c-44032)%28,4519+(c-44032)%28,true)
 else (0,0,false)
theorem Hg.ofK_syl (c:Int) (h:Hg.ofK c=4∨Hg.ofK c=5):44032≤c∧c<55204:=by
 unfold Hg.ofK at h
 grind
set_option maxHeartbeats 400000 in
theorem Hg.pair_any (c:Int) (w:World) (h1 : -2147483648≤c) (h2:c≤2147483647) :
 Calls Tryz.prog 70 #[.int .i32 c] w fun e w'=>e=.returned (.tuple #[.int .i32 (Hg.pairK c).1,.int .i32 (Hg.pairK c).2.1,.bool (Hg.pairK c).2.2])∧w=w':=by
 by_cases h4:Hg.ofK c=4
 · have hs:=Hg.ofK_syl c (.inl h4)
   obtain⟨af,ae⟩:=hs
   have hb:=beq_iff_eq.2 h4
   have H4:=Za h4
   clear h4
   go_enter Tryz.func70,Tryz.ntmps70
   go_wp2_with (go_at_call 45;refine (Hg.of_any _ _ h1 h2).mono ?_;rintro e w' ⟨rfl,rfl⟩)
   go_ret3
   refine⟨ret_tuple3 ?_,rfl⟩
   unfold Hg.pairK
   rw[Zp H4.out]
 · by_cases h5:Hg.ofK c=5
   · have hs:=Hg.ofK_syl c (.inr h5)
     obtain⟨af,ae⟩:=hs
     have hb:(Hg.ofK c == 4)=false:=by rw[h5];rfl
     have aa:=beq_iff_eq.2 h5
     have H5:=Za h5
     have H4:=Za h4
     clear h4 h5
     go_enter Tryz.func70,Tryz.ntmps70
     go_wp2_with (go_at_call 45;refine (Hg.of_any _ _ h1 h2).mono ?_;rintro e w' ⟨rfl,rfl⟩)
     go_ret3
     refine⟨ret_tuple3 ?_,rfl⟩
     unfold Hg.pairK
     rw[Zl H4.out,Zp H5.out]
   · have hb:(Hg.ofK c == 4)=false:=beq_eq_false_iff_ne.2 h4
     have aa:(Hg.ofK c == 5)=false:=beq_eq_false_iff_ne.2 h5
     have H5:=Za h5
     have H4:=Za h4
     clear h4 h5
     go_enter Tryz.func70,Tryz.ntmps70
     go_wp2_with (go_at_call 45;refine (Hg.of_any _ _ h1 h2).mono ?_;rintro e w' ⟨rfl,rfl⟩)
     go_ret3
     refine⟨ret_tuple3 ?_,rfl⟩
     unfold Hg.pairK
     rw[Zl H4.out,Zl H5.out]
def Hg.splitK (c:Int):List Int :=
 if Hg.ofK c=4 then [4352+(c-44032)/588,4449+(c-44032)%588/28]
 else if Hg.ofK c=5 then [4352+(c-44032)/588,4449+(c-44032)%588/28,4519+(c-44032)%28]
 else []
theorem Hg.ofK_four (c:Int) (h1:44032≤c) (h2:c<55204) (h:(c-44032)%28=0):Hg.ofK c=4:=by
 unfold Hg.ofK
 grind
theorem Hg.pairK_four (c:Int) (h:Hg.ofK c=4):Hg.pairK c=(4352+(c-44032)/588,4449+(c-44032)%588/28,true):=by
 unfold Hg.pairK;rw[if_pos h]
theorem Hg.pairK_five (c:Int) (h:Hg.ofK c=5):Hg.pairK c=(c-(c-44032)%28,4519+(c-44032)%28,true):=by
 unfold Hg.pairK;rw[if_neg (by rw[h];decide),if_pos h]
theorem Hg.pairK_none (c:Int) (h4:¬Hg.ofK c=4) (h5:¬Hg.ofK c=5):Hg.pairK c=(0,0,false):=by
 unfold Hg.pairK;rw[if_neg h4,if_neg h5]
theorem Hg.lead_none (c:Int) (h1:44032≤c) (h2:c<55204):Hg.pairK (4352+(c-44032)/588)=(0,0,false):=by
 have a:4352≤4352+(c-44032)/588∧4352+(c-44032)/588<4371:=by omega
 refine Hg.pairK_none _ ?_ ?_ <;> unfold Hg.ofK <;> rw[if_pos a] <;> decide
theorem Hg.two_of (c:Int) (h1:44032≤c) (h2:c<55204):Hg.pairK (c-(c-44032)%28)=(4352+(c-44032)/588,4449+(c-44032)%588/28,true):=by
 rw[Hg.pairK_four _ (Hg.ofK_four _ (by omega) (by omega) (by omega))]
 refine Prod.ext ?_ (Prod.ext ?_ rfl) <;> simp only[] <;> omega
section
set_option maxHeartbeats 400000
theorem Hg.split_any (c:Int) (w:World) (h1 : -2147483648≤c) (h2:c≤2147483647) :
 Calls Tryz.prog 40 #[.int .i32 c] w (RetInts .i32 (Hg.splitK c) w):=by
 by_cases h4:Hg.ofK c=4
 · have hs:=Hg.ofK_syl c (.inl h4)
   obtain⟨ae,aa⟩:=hs
   have hp:=Hg.pairK_four c h4
   have hq:=Hg.lead_none c ae aa
   have H4:=Za h4
   clear h4
   go_enter Tryz.func40,Tryz.ntmps40
   go_wp2_with (fail)
   refine (Hg.pair_any _ _ h1 h2).mono ?_
   rintro e w' ⟨rfl,rfl⟩
   rw[hp]
   clear hp
   go_wp2_with (fail)
   refine (Hg.pair_any _ _ (by omega) (by omega)).mono ?_
   rintro e w' ⟨rfl,rfl⟩
   rw[hq]
   clear hq
   go_wp2
   go_ret
   unfold Hg.splitK
   rw[Zp H4.out]
   exact⟨_,_,rfl,Sl.lit rfl _ _ (ZP _ _),(Zd _ _).alloc (Zb _) _⟩
 · by_cases h5:Hg.ofK c=5
   · have hs:=Hg.ofK_syl c (.inr h5)
     obtain⟨ae,aa⟩:=hs
     have hp:=Hg.pairK_five c h5
     have hq:=Hg.two_of c ae aa
     have H5:=Za h5
     have H4:=Za h4
     clear h4 h5
     go_enter Tryz.func40,Tryz.ntmps40
     go_wp2_with (fail)
     refine (Hg.pair_any _ _ h1 h2).mono ?_
     rintro e w' ⟨rfl,rfl⟩
     rw[hp]
     clear hp
     go_wp2_with (fail)
     refine (Hg.pair_any _ _ (by omega) (by omega)).mono ?_
     rintro e w' ⟨rfl,rfl⟩
     rw[hq]
     clear hq
     go_wp2
     go_ret
     unfold Hg.splitK
     rw[Zl H4.out,Zp H5.out]
     exact⟨_,_,rfl,Sl.lit rfl _ _ (ZP _ _),(Zd _ _).alloc (Zb _) _⟩
   · have hp:=Hg.pairK_none c h4 h5
     have H5:=Za h5
     have H4:=Za h4
     clear h4 h5
     go_enter Tryz.func40,Tryz.ntmps40
     go_wp2_with (fail)
     refine (Hg.pair_any _ _ h1 h2).mono ?_
     rintro e w' ⟨rfl,rfl⟩
     rw[hp]
     clear hp
     go_wp2
     go_ret
     unfold Hg.splitK
     rw[Zl H4.out,Zl H5.out]
     exact⟨_,_,rfl,fun h=>absurd h (by simp),Zd _ _⟩
theorem Hg.kind_any (c:Int) (w:World) (h1 : -2147483648≤c) (h2:c≤2147483647) :
 Calls Tryz.prog 103 #[.int .i64 c] w fun e w'=>e=.returned (.int .i64 (Hg.ofK c))∧w=w':=by
 go_enter Tryz.func103,Tryz.ntmps103
 go_wp2
 all_goals
  go_ret
  refine⟨ret_int ?_,rfl⟩
  try simp only[YP,Xq,Xm,Bool.not_eq_false',Zm,ZY]at *
  unfold Hg.ofK
  grind
end
set_option maxHeartbeats 1000000 in
theorem Hg.parts_any (
 c:Int) (w:World) (h1 : -2147483648≤c) (h2:c≤2147483647) :
 Calls Tryz.prog 30 #[.int .i64 c] w (RetInts .i64 (Hg.splitK c) w):=by
 go_enter Tryz.func30,Tryz.ntmps30
 go_wp2
 go_loop [3,4] (fun n l=>∃k:Int,0≤k∧k≤19∧n=.int .i64 (44032+588*k)∧l=.int .i64 (4352+k)∧(k=0∨44032+588*k≤c)) (fun _ l=>(5000-intOf l).toNat)
 case atStart=>exact⟨0,by omega,by omega,rfl,rfl,.inl rfl⟩
 case round =>
  obtain⟨k,ae,af,rfl,rfl,hk⟩:=hrel
  by_cases hl:4352+k≤4370
  · by_cases hc:44032+588*k+588≤c
    · go_wp2
      exact⟨⟨k+1,by omega,by omega,by go_num,by go_num,.inr (by omega)⟩,by simp[intOf];omega⟩
    · go_wp2
      go_loop [3,5] (fun n v=>∃j:Int,0≤j∧j≤21∧n=.int .i64 (44032+588*k+28*j)∧v=.int .i64 (4449+j)∧(j=0∨44032+588*k+28*j≤c)) (fun _ v=>(5000-intOf v).toNat)
      case atStart=>exact⟨0,by omega,by omega,by go_num,rfl,.inl rfl⟩
      case round =>
       obtain⟨j,hj0,aa,rfl,rfl,hj⟩:=hrel
       by_cases hv:4449+j≤4469
       · by_cases hd:44032+588*k+28*j+28≤c
         · go_wp2
           exact⟨⟨j+1,by omega,by omega,by go_num,by go_num,.inr (by omega)⟩,by simp[intOf];omega⟩
         · by_cases he:c=44032+588*k+28*j
           · have hb:(c == 44032+588*k+28*j)=true:=beq_iff_eq.2 he
             have H4:=Hg.ofK_four c (by omega) (by omega) (by omega)
             have HS:Hid (Hg.splitK c=[4352+k,4449+j]):=by
              show Hg.splitK c=[4352+k,4449+j]
              unfold Hg.splitK
              rw[Zp H4,show (c-44032)/588=k from by omega,show (c-44032)%588/28=j from by omega]
             clear H4
             have HE:=Za he
             clear he
             go_wp2
             go_ret
             rw[HS.out]
             exact⟨_,_,rfl,Sl.lit rfl _ _ (ZP _ _),(Zd _ _).alloc (Zb _) _⟩
           · have hb:(c == 44032+588*k+28*j)=false:=beq_eq_false_iff_ne.2 he
             by_cases hg:44032+588*k+28*j<c
             · have H5:Hg.ofK c=5:=by unfold Hg.ofK;grind
               have HS:Hid (Hg.splitK c=[4352+k,4449+j,4519+c-(44032+588*k+28*j)]):=by
                show Hg.splitK c=[4352+k,4449+j,4519+c-(44032+588*k+28*j)]
                unfold Hg.splitK
                rw[Zl (by rw[H5];decide),Zp H5,show (c-44032)/588=k from by omega,show (c-44032)%588/28=j from by omega,
                 show 4519+(c-44032)%28=4519+c-(44032+588*k+28*j) from by omega]
               clear H5
               go_wp2
               go_ret
               rw[HS.out]
               exact⟨_,_,rfl,Sl.lit rfl _ _ (ZP _ _),(Zd _ _).alloc (Zb _) _⟩
             · have HS:Hid (Hg.splitK c=[]):=by
                show Hg.splitK c=[]
                have:¬(44032≤c∧c<55204):=by omega
                unfold Hg.splitK
                rw[Zl (fun h=>this (Hg.ofK_syl c (.inl h))),Zl (fun h=>this (Hg.ofK_syl c (.inr h)))]
               go_wp2
               go_ret
               rw[HS.out]
               exact⟨_,_,rfl,fun h=>absurd h (by simp),Zd _ _⟩
       · omega
  · have HS:Hid (Hg.splitK c=[]):=by
     show Hg.splitK c=[]
     have:¬(44032≤c∧c<55204):=by omega
     unfold Hg.splitK
     rw[Zl (fun h=>this (Hg.ofK_syl c (.inl h))),Zl (fun h=>this (Hg.ofK_syl c (.inr h)))]
    go_wp2
    go_ret
    rw[HS.out]
    exact⟨_,_,rfl,fun h=>absurd h (by simp),Zd _ _⟩
end Go.Proofs.YtikiplbhlohmdaaGreatDoor
namespace Go.Proofs.YtikiplbhlohmdaaGreatDoor
def Md.one (mp:Int→List Int) (c:Int):List Int:=if mp c=[] then [c] else mp c
def Md.step (mp:Int→List Int) (L:List Int):List Int:=L.flatMap (Md.one mp)
def Md.plain (mp:Int→List Int) (L:List Int):Bool:=L.all fun c=>(mp c).isEmpty
def Md.docF (mp:Int→List Int):Nat→List Int→Option (List Int)
 | 0,_=>none
 | k+1,L=>if Md.plain mp L=true then some L else if (Md.step mp L).length > 32 then none else Md.docF mp k (Md.step mp L)
def Md.leaf (out:List Int) (c:Int):Option (List Int):=if out.length<32 then some (out++[c]) else none
def Md.expL (f:List Int→Int→Option (List Int)):List Int→List Int→Option (List Int)
 | out,[]=>some out
 | out,d::r=>(f out d).bind fun o=>Md.expL f o r
def Md.exp (mp:Int→List Int):Nat→List Int→Int→Option (List Int)
 | 0,out,c=>if mp c=[] then Md.leaf out c else none
 | k+1,out,c=>if mp c=[] then Md.leaf out c else Md.expL (Md.exp mp k) out (mp c)
def Md.lvL (f:Int→Option (List Int)):List Int→Option (List Int)
 | []=>some []
 | d::r=>(f d).bind fun a=>(Md.lvL f r).map (a ++ ·)
def Md.lv (mp:Int→List Int):Nat→Int→Option (List Int)
 | 0,c=>if mp c=[] then some [c] else none
 | k+1,c=>if mp c=[] then some [c] else Md.lvL (Md.lv mp k) (mp c)
def Md.fit (out:List Int) (l:List Int):Option (List Int):=if out.length+l.length≤32 then some (out++l) else none
theorem Md.lvL_len {f:Int→Option (List Int)} (hf:∀c l,f c=some l→1≤l.length):∀(L l:List Int),Md.lvL f L=some l→L.length≤l.length
 | [],l,_=>ZE _
 | d::r,l,h=>by
   unfold Md.lvL at h
   cases hd:f d with
   | none=>rw[hd]at h;cases h
   | some a =>
     rw[hd,Zr]at h
     cases hr:Md.lvL f r with
     | none=>rw[hr]at h;cases h
     | some b =>
       rw[hr,Zt]at h
       cases h
       have h1:=hf d a hd
       have h2:=Md.lvL_len hf r b hr
       simp
       omega
theorem Md.lv_len (mp:Int→List Int):∀(k:Nat) (c:Int) (l:List Int),Md.lv mp k c=some l→1≤l.length
 | 0,c,l,h=>by
   unfold Md.lv at h
   split at h
   · cases h;simp
   · cases h
 | k+1,c,l,h=>by
   unfold Md.lv at h
   split at h
   · cases h;simp
   · rename_i hne
     have:=Md.lvL_len (Md.lv_len mp k) _ _ h
     have h2:1≤(mp c).length:=by
      cases hm:mp c with
      | nil=>exact absurd hm hne
      | cons a b=>simp
     omega
theorem Md.lv_more (mp:Int→List Int) {c:Int} (k:Nat) {l:List Int} (h:Md.lv mp k c=some l) (hc:mp c≠[]):(mp c).length≤l.length:=by
 cases k with
 | zero=>unfold Md.lv at h;rw[if_neg hc]at h;cases h
 | succ k=>unfold Md.lv at h;rw[if_neg hc]at h;exact Md.lvL_len (Md.lv_len mp k) _ _ h
theorem Md.expL_lv {f:List Int→Int→Option (List Int)} {g:Int→Option (List Int)} (hf:∀out c,out.length≤32→f out c=(g c).bind (Md.fit out)) :
 ∀(L out:List Int),out.length≤32→Md.expL f out L=(Md.lvL g L).bind (Md.fit out)
 | [],out,ho=>by
   unfold Md.expL Md.lvL Md.fit
   simp[ho]
 | d::r,out,ho=>by
   unfold Md.expL Md.lvL
   rw[hf out d ho]
   cases hd:g d with
   | none=>rfl
   | some a =>
     rw[Zr,Zr]
     by_cases h1:out.length+a.length≤32
     · rw[show Md.fit out a=some (out++a) by unfold Md.fit;rw[if_pos h1],Option.bind_some,Md.expL_lv hf r (out++a) (by simpa using h1)]
       cases hr:Md.lvL g r with
       | none=>rfl
       | some b =>
         rw[Zr,Zt,Zr]
         unfold Md.fit
         simp[Yi]
     · rw[show Md.fit out a=none by unfold Md.fit;rw[if_neg h1],Option.bind_none]
       cases hr:Md.lvL g r with
       | none=>rfl
       | some b =>
         rw[Zt,Zr]
         unfold Md.fit
         rw[Zl (by simp;omega)]
theorem Md.leaf_fit (out:List Int) (c:Int):Md.leaf out c=Md.fit out [c]:=by
 unfold Md.leaf Md.fit
 by_cases h:out.length<32
 · rw[Zp h,Zp (by simp;omega)]
 · rw[Zl h,Zl (by simp;omega)]
theorem Md.exp_lv (mp:Int→List Int):∀(k:Nat) (out:List Int) (c:Int),out.length≤32→Md.exp mp k out c=(Md.lv mp k c).bind (Md.fit out)
 | 0,out,c,ho=>by
   unfold Md.exp Md.lv
   by_cases h:mp c=[]
   · rw[Zp h,Zp h,Md.leaf_fit];rfl
   · rw[Zl h,Zl h];rfl
 | k+1,out,c,ho=>by
   unfold Md.exp Md.lv
   by_cases h:mp c=[]
   · rw[Zp h,Zp h,Md.leaf_fit];rfl
   · rw[Zl h,Zl h]
     exact Md.expL_lv (fun o d hd=>Md.exp_lv mp k o d hd) _ _ ho
theorem Md.lvL_app (f:Int→Option (List Int)):∀(a b:List Int),Md.lvL f (a++b)=(Md.lvL f a).bind fun x=>(Md.lvL f b).map (x ++ ·)
 | [],b=>by simp[Md.lvL]
 | d::r,b=>by
   rw[ZQ,Md.lvL,Md.lvL,Md.lvL_app f r b]
   cases f d with
   | none=>rfl
   | some x =>
     cases Md.lvL f r with
     | none=>rfl
     | some y =>
       cases Md.lvL f b with
       | none=>rfl
       | some z=>simp
theorem Md.lv_plain (mp:Int→List Int) (k:Nat) {c:Int} (h:mp c=[]):Md.lv mp k c=some [c]:=by
 cases k with
 | zero=>unfold Md.lv;rw[if_pos h]
 | succ k=>unfold Md.lv;rw[if_pos h]
theorem Md.lv_one (mp:Int→List Int) (k:Nat) (c:Int):Md.lv mp (k+1) c=Md.lvL (Md.lv mp k) (Md.one mp c):=by
 unfold Md.one
 by_cases h:mp c=[]
 · rw[Zp h,Md.lv_plain mp _ h,Md.lvL,Md.lv_plain mp _ h];rfl
 · rw[Zl h,Md.lv,Zl h]
theorem Md.lvL_step (mp:Int→List Int) (k:Nat):∀(L:List Int),Md.lvL (Md.lv mp (k+1)) L=Md.lvL (Md.lv mp k) (Md.step mp L)
 | []=>rfl
 | d::r=>by
   have e:Md.step mp (d::r)=Md.one mp d++Md.step mp r:=by simp[Md.step]
   rw[e,Md.lvL_app,Md.lvL,Md.lvL_step mp k r,Md.lv_one]
theorem Md.lvL_plain (mp:Int→List Int) (k:Nat):∀(L:List Int),Md.plain mp L=true→Md.lvL (Md.lv mp k) L=some L
 | [],_=>rfl
 | d::r,h=>by
   unfold Md.plain at h
   rw[List.all_cons,ZB,List.isEmpty_iff]at h
   rw[Md.lvL,Md.lv_plain mp k h.1,Md.lvL_plain mp k r (by unfold Md.plain;exact h.2)]
   rfl
theorem Md.lvL_zero (mp:Int→List Int):∀(L:List Int),Md.plain mp L≠true→Md.lvL (Md.lv mp 0) L=none
 | [],h=>absurd rfl h
 | d::r,h=>by
   rw[Md.lvL]
   by_cases hd:mp d=[]
   · have:Md.plain mp r≠true:=fun hr=>h (by unfold Md.plain at hr ⊢;rw[List.all_cons,hr,hd];rfl)
     rw[Md.lvL_zero mp r this]
     cases Md.lv mp 0 d <;> rfl
   · rw[Md.lv,Zl hd];rfl
theorem Md.doc_lv (mp:Int→List Int):∀(k:Nat) (L:List Int),L.length≤32→Md.docF mp (k+1) L=(Md.lvL (Md.lv mp k) L).bind (Md.fit [])
 | 0,L,hL=>by
   rw[Md.docF]
   by_cases h:Md.plain mp L=true
   · rw[Zp h,Md.lvL_plain mp 0 L h,Zr]
     unfold Md.fit
     simp[hL]
   · rw[Zl h,Md.lvL_zero mp L h]
     split <;> rfl
 | k+1,L,hL=>by
   rw[Md.docF]
   by_cases h:Md.plain mp L=true
   · rw[Zp h,Md.lvL_plain mp _ L h,Zr]
     unfold Md.fit
     simp[hL]
   · rw[Zl h,Md.lvL_step]
     by_cases h2:(Md.step mp L).length > 32
     · rw[Zp h2]
       cases hl:Md.lvL (Md.lv mp k) (Md.step mp L) with
       | none=>rfl
       | some l =>
         have:=Md.lvL_len (Md.lv_len mp k) _ _ hl
         rw[Zr]
         unfold Md.fit
         rw[Zl (by simp;omega)]
     · rw[Zl h2,Md.doc_lv mp k _ (by omega)]
theorem Md.full_eq (mp:Int→List Int) (k:Nat) (c:Int):Md.docF mp (k+1) [c]=Md.exp mp k [] c:=by
 rw[Md.doc_lv mp k [c] (by simp),Md.exp_lv mp k [] c (by simp),Md.lvL]
 cases Md.lv mp k c with
 | none=>rfl
 | some a=>simp[Md.lvL]
theorem Md.lvL_none {mp:Int→List Int} {f:Int→Option (List Int)} (hf:∀c l,f c=some l→∀d∈l,mp d=[]):∀(L l:List Int),Md.lvL f L=some l→∀d∈l,mp d=[]
 | [],l,h,d,hd=>by cases h;cases hd
 | e::r,l,h,d,hd=>by
   unfold Md.lvL at h
   cases he:f e with
   | none=>rw[he]at h;cases h
   | some a =>
     rw[he,Zr]at h
     cases hr:Md.lvL f r with
     | none=>rw[hr]at h;cases h
     | some b =>
       rw[hr,Zt]at h
       cases h
       rcases List.mem_append.1 hd with h1|h1
       · exact hf e a he d h1
       · exact Md.lvL_none hf r b hr d h1
theorem Md.lv_none (mp:Int→List Int):∀(k:Nat) (c:Int) (l:List Int),Md.lv mp k c=some l→∀d∈l,mp d=[]
 | 0,c,l,h,d,hd=>by
   unfold Md.lv at h
   split at h
   · rename_i hc
     cases h
     rw[ZA]at hd
     rw[hd];exact hc
   · cases h
 | k+1,c,l,h,d,hd=>by
   unfold Md.lv at h
   split at h
   · rename_i hc
     cases h
     rw[ZA]at hd
     rw[hd];exact hc
   · exact Md.lvL_none (Md.lv_none mp k) _ _ h d hd
theorem Md.exp_none {mp:Int→List Int} {k:Nat} {c:Int} {l:List Int} (h:Md.exp mp k [] c=some l):(∀d∈l,mp d=[])∧1≤l.length∧(mp c).length≤l.length∧l.length≤32:=by
 rw[Md.exp_lv mp k [] c (by simp)]at h
 cases hl:Md.lv mp k c with
 | none=>rw[hl]at h;cases h
 | some a =>
   rw[hl,Zr]at h
   unfold Md.fit at h
   split at h
   · rename_i hle
     cases h
     rw[Z2]
     refine⟨Md.lv_none mp k c a hl,Md.lv_len mp k c a hl,?_,by simpa using hle⟩
     by_cases hc:mp c=[]
     · rw[hc];exact ZE _
     · exact Md.lv_more mp k hl hc
   · cases h
theorem Md.exp_plain {mp:Int→List Int} (k:Nat) {c:Int} (h:mp c=[]):Md.exp mp k [] c=some [c]:=by
 rw[Md.exp_lv mp k [] c (by simp),Md.lv_plain mp k h];rfl
end Go.Proofs.YtikiplbhlohmdaaGreatDoor
