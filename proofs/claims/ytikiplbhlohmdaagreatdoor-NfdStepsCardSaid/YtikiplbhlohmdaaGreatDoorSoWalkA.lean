/- The sort at rune, walked (a text of the kit at int, turned): Walk13. -/
import Derived.Sort.Walk13a
import Derived.Sort.LotD4
import Derived.Sort.LotB
import Derived.Test.YtikiplbhlohmdaaGreatDoorSoWalkB3
import Derived.Sort.LotA
set_option linter.unusedVariables false
set_option linter.unusedSimpArgs false
namespace Go.Proofs.YtikiplbhlohmdaaGreatDoor
open Go.Sort Go.RowKit
structure Callees13:Prop where
 ins:∀(blk off cap a b:Nat) (d:Array Int) (w:World),Holds encI w blk off d→a≤b→b≤d.size→d.size<4611686018427387904 →
  Calls Tryz.prog 165 #[.slice (some ⟨blk,off,none⟩) d.size cap,.int .i64 a,.int .i64 b] w fun e w'=>e=.returned (.tuple #[])∧∃n,w'=putRow encI (Sort.ahead w n) blk off (insertionSort ltInt d a b)
 brk:∀(blk off cap a b:Nat) (d:Array Int) (w:World),Holds encI w blk off d→blk<w.heap.size→a≤b→b≤d.size→d.size<4611686018427387904 →
  Calls Tryz.prog 167 #[.slice (some ⟨blk,off,none⟩) d.size cap,.int .i64 a,.int .i64 b] w fun e w'=>e=.returned (.tuple #[])∧∃n os,w'=grow (putRow encI (Sort.ahead w n) blk off (breakPatterns d a b)) os
 piv:∀(blk off cap a b:Nat) (d:Array Int) (w:World),Holds encI w blk off d→blk<w.heap.size→a<b→b≤d.size→d.size<4611686018427387904 →
  Calls Tryz.prog 168 #[.slice (some ⟨blk,off,none⟩) d.size cap,.int .i64 a,.int .i64 b] w fun e w'=>e=.returned (.tuple #[.int .i64 (choosePivot ltInt d a b).1,.int .i64 (hintCode (choosePivot ltInt d a b).2)])∧∃n os,w'=grow (Sort.ahead w n) os
 par:∀(blk off cap a b:Nat) (d:Array Int) (w:World),Holds encI w blk off d→a<b→b≤d.size→d.size<4611686018427387904 →
  Calls Tryz.prog 170 #[.slice (some ⟨blk,off,none⟩) d.size cap,.int .i64 a,.int .i64 b] w fun e w'=>e=.returned (.bool (partialInsertionSort ltInt d a b).2)∧∃n,w'=putRow encI (Sort.ahead w n) blk off (partialInsertionSort ltInt d a b).1
 peq:∀(blk off cap a b pivot:Nat) (d:Array Int) (w:World),Holds encI w blk off d→a≤pivot→pivot<b→b≤d.size→d.size<4611686018427387904 →
  Calls Tryz.prog 172 #[.slice (some ⟨blk,off,none⟩) d.size cap,.int .i64 a,.int .i64 b,.int .i64 pivot] w fun e w'=>e=.returned (.int .i64 (partitionEqual ltInt d a b pivot).1)∧∃n,w'=putRow encI (Sort.ahead w n) blk off (partitionEqual ltInt d a b pivot).2
 prt:∀(blk off cap a b pivot:Nat) (d:Array Int) (w:World),Holds encI w blk off d→a≤pivot→pivot<b→b≤d.size→d.size<4611686018427387904 →
  Calls Tryz.prog 173 #[.slice (some ⟨blk,off,none⟩) d.size cap,.int .i64 a,.int .i64 b,.int .i64 pivot] w fun e w'=>e=.returned (.tuple #[.int .i64 (partition ltInt d a b pivot).1,.bool (partition ltInt d a b pivot).2.1])∧∃n,w'=putRow encI (Sort.ahead w n) blk off (partition ltInt d a b pivot).2.2
structure Plain13:Prop where
 swo:SWO ltInt
 ins:insertionSort_stmt ltInt
 par:partialInsertionSort_stmt ltInt
 prt:partition_stmt ltInt
 peq:partitionEqual_stmt ltInt
 pdq:pdq_stmt ltInt
theorem hintCode_two {h:Hint} (e:hintCode h=2):h=.decreasing:=by cases h <;> simp[hintCode]at e ⊢
theorem eighth {x y p q:Nat} (h1:q≤p) (h2:y≤x):decide (((x:Int)-(y:Int))/8≤(p:Int)-(q:Int))=decide (p-q≥(x-y)/8) :=
 decide_eq_decide.2 ⟨fun h=>by omega,fun h=>by omega⟩
set_option maxHeartbeats 6400000 in
set_option maxRecDepth 1000000 in
theorem So.pdqsort_int (C:Callees13) (S:Plain13):∀(N blk off cap a b limit:Nat) (d:Array Int) (w:World),b-a<N→Holds encI w blk off d→blk<w.heap.size→a≤b→b≤d.size→d.size<4611686018427387904→limit<4611686018427387904→Below ltInt a b d →
 Calls Tryz.prog 130 #[.slice (some ⟨blk,off,none⟩) d.size cap,.int .i64 a,.int .i64 b,.int .i64 limit] w fun e w'=>e=.returned (.tuple #[])∧At encI w blk off (pdq ltInt d a b limit true true) w':=by
 intro N
 induction N with
 | zero=>intro _ _ _ _ _ _ _ _ h;exact absurd h (Nat.not_lt_zero _)
 | succ N ih =>
   intro blk off cap a b limit d w hN hH aa b7 hb cq ah ba
   go_enter Tryz.func130,Tryz.ntmps130
   go_wp2
   go_loopg [1,2,3,8,9] (b-a) (fun k s1 s2 s3 s8 s9 wr=>∃(a' b' lim:Nat) (wb wp:Bool) (dk:Array Int),s1=.int .i64 a'∧s2=.int .i64 b'∧s3=.int .i64 lim∧s8=.bool wb∧s9=.bool wp ∧
    a'≤b'∧b'≤d.size∧b'-a'≤k∧k≤b-a∧lim≤limit∧dk.size=d.size∧Below ltInt a' b' dk∧At encI w blk off dk wr∧pdq ltInt dk a' b' lim wb wp=pdq ltInt d a b limit true true)
   case atStart=>exact⟨a,b,limit,true,true,d,rfl,rfl,rfl,rfl,rfl,b7,hb,Zb _,Zb _,Zb _,rfl,ba,At.refl hH,rfl⟩
   case round =>
    obtain⟨a',b',lim,wb,wp,dk,rfl,rfl,rfl,rfl,rfl,af,cd,hk,cp,ag,ae,bs,a7,b3⟩:=hrel
    obtain⟨bm,bb⟩:=a7.holds hH ae aa
    have A:Aside (pdq ltInt dk a' b' lim wb wp=pdq ltInt d a b limit true true):=b3
    clear b3
    by_cases h12:b'-a'≤12
    ·
     have br:(b':Int)-(a':Int)≤12:=by omega
     have hc:=C.ins blk off cap a' b' dk wr bm af (by omega) (by omega)
     rw[ae]at hc
     go_wp2_with (go_at_call 165;refine hc.mono ?_;rintro e w1 ⟨rfl,bg⟩)
     (try simp only[Exit.inBlock,Exit.then]);refine Yl (XM rfl _ _ _) rfl ?_
     refine⟨rfl,?_⟩
     rw[←A.out,pdq_small h12]
     exact a7.step aa (S.ins S.swo dk a' b' af (by omega)).1.1 bg
    · have br:¬((b':Int)-(a':Int)≤12):=by omega
      by_cases hl0:lim=0
      ·
       subst hl0
       have hc:=So.heapSort_int blk off d.size cap dk ae a' b' wr bm af (by omega) (by omega)
       go_wp2_with (go_at_call 166;refine hc.mono ?_;rintro e w1 ⟨rfl,bg⟩)
       (try simp only[Exit.inBlock,Exit.then]);refine Yl (XM rfl _ _ _) rfl ?_
       refine⟨rfl,?_⟩
       rw[←A.out,pdq_heap h12 rfl]
       exact a7.step aa (heapSort_holds S.swo dk a' b' af (by omega)).1.1 bg
      · have b6:¬((lim:Int)=0):=by omega
        obtain⟨s1,B1,cn,s2,B2,aj,s3,B3⟩:=rd_facts (limit:=lim) (wb:=wb) (wp:=wp) S.swo S.par reverseRange_holds (show a'<b' by omega) (show b'≤dk.size by omega) bs
        go_upto_if 35 with fail
        go_cut [3] from 19 (fun s3 wc=>s3=.int .i64 (rd ltInt dk a' b' lim wb wp).lim∧At encI w blk off (rd ltInt dk a' b' lim wb wp).d1 wc)
        case first =>
         cases wb
         · have hc:=C.brk blk off cap a' b' dk wr bm bb af (by omega) (by omega)
           rw[ae]at hc
           go_wp2_with (go_at_call 167;refine hc.mono ?_;rintro e w1 ⟨rfl,bg⟩)
           go_meet
           case rel =>
            refine⟨?_,a7.stepG aa s1 bg⟩
            show Value.int .i64 ((lim:Int)-1)=Value.int .i64 ((lim-1:Nat):Int)
            congr 1
            omega
         · go_wp2_with fail
           go_meet
           case rel=>exact⟨rfl,a7⟩
        case rest =>
         obtain⟨rfl,a6⟩:=hcut
         obtain⟨cf,a1⟩:=a6.holds hH (s1.trans ae) aa
         have bk:Calls Tryz.prog 168 #[.slice (some ⟨blk,off,none⟩) d.size cap,.int .i64 a',.int .i64 b'] wc fun e w'=>e=.returned (.tuple #[.int .i64 (rd ltInt dk a' b' lim wb wp).c.1,.int .i64 (hintCode (rd ltInt dk a' b' lim wb wp).c.2)])∧∃n os,w'=grow (Sort.ahead wc n) os:=by
          have:=C.piv blk off cap a' b' (rd ltInt dk a' b' lim wb wp).d1 wc cf a1 (by omega) (by omega) (by omega)
          rw[s1,ae]at this
          exact this
         go_upto_if 50 with (go_at_call 168;refine bk.mono ?_;rintro e w2 ⟨rfl,cj⟩)
         have ao:At encI w blk off (rd ltInt dk a' b' lim wb wp).d1 w2:=a6.same hH (s1.trans ae) aa cj
         obtain⟨ck,b1⟩:=ao.holds hH (s1.trans ae) aa
         go_cut [11,12] from 19 (fun cg bp wc=>cg=.int .i64 (rd ltInt dk a' b' lim wb wp).pivot∧bp=.int .i64 (hintCode (rd ltInt dk a' b' lim wb wp).hint)∧At encI w blk off (rd ltInt dk a' b' lim wb wp).d2 wc)
         case first =>
          by_cases hh:(rd ltInt dk a' b' lim wb wp).c.2=.decreasing
          · have bf:hintCode (rd ltInt dk a' b' lim wb wp).c.2=2:=by rw[hh];rfl
            obtain⟨e2,bo,bn⟩:=rd_dec hh
            have bc:=So.reverseRange_int blk off cap (rd ltInt dk a' b' lim wb wp).d1 a' b' w2 ck af (by omega) (by omega)
            rw[s1,ae]at bc
            go_wp2_with (go_at_call 169;refine bc.mono ?_;rintro e w3 ⟨rfl,b5⟩)
            go_meet
            case rel =>
             refine⟨?_,by rw[bn];rfl,by rw[e2];exact ao.step aa (by rw[←e2,s2,s1]) b5⟩
             rw[bo]
             congr 1
             omega
          · have bf:¬(hintCode (rd ltInt dk a' b' lim wb wp).c.2=2):=fun h=>hh (hintCode_two h)
            obtain⟨e2,bo,bn⟩:=rd_not hh
            go_wp2_with fail
            go_meet
            case rel=>exact⟨by rw[bo],by rw[bn],by rw[e2];exact ao⟩
         case rest =>
          obtain⟨rfl,rfl,ai⟩:=hcut
          obtain⟨cb,bt⟩:=ai.holds hH (s2.trans ae) aa
          go_upto_region 15 with fail
          go_cut [12,68] from 19 (fun bp cm wx=>bp=.int .i64 (hintCode (rd ltInt dk a' b' lim wb wp).hint)∧cm=.bool (wb&&wp&&decide ((rd ltInt dk a' b' lim wb wp).hint=.increasing))∧wx=wc)
          case first =>
           cases wb <;> cases wp <;> cases hh3:(rd ltInt dk a' b' lim _ _).hint <;>
            (have aw:=Z4 hintCode hh3
             simp only[hintCode]at aw
             go_wp2_with fail
             go_meet
             exact⟨by simp[hh3,hintCode],by simp[hh3,hintCode],rfl⟩)
          case rest =>
           obtain⟨rfl,rfl,rfl⟩:=hcut
           go_upto_if 68 with fail
           go_cut [] from 19 (fun wx=>(rd ltInt dk a' b' lim wb wp).pi.2=false∧At encI w blk off (rd ltInt dk a' b' lim wb wp).pi.1 wx)
           case first =>
            cases h68:(wb&&wp&&decide ((rd ltInt dk a' b' lim wb wp).hint=.increasing))
            · have ay:=rd_pi_no h68
              go_wp2_with fail
              go_meet
              case rel=>exact⟨by rw[ay],by rw[ay];exact ai⟩
            · have ay:=rd_pi_yes h68
              have bi:=C.par blk off cap a' b' (rd ltInt dk a' b' lim wb wp).d2 wc cb (by omega) (by omega) (by omega)
              rw[s2,ae,←ay]at bi
              go_wp2_with (go_at_call 170;refine bi.mono ?_;rintro e w4 ⟨rfl,b2⟩)
              all_goals first
               | (have av:(rd ltInt dk a' b' lim wb wp).pi.2=false:=by rw[ay];assumption
                  go_meet
                  exact⟨av,ai.step aa (by rw[s3,s2]) b2⟩)
               | (have av:(rd ltInt dk a' b' lim wb wp).pi.2=true:=by rw[ay];assumption
                  (try simp only[Exit.inBlock,Exit.then]);refine Yl (XM rfl _ _ _) rfl ?_
                  refine⟨rfl,?_⟩
                  rw[←A.out,pdq_done h12 hl0 av]
                  exact ai.step aa (by rw[s3,s2]) b2)
           case rest =>
            obtain⟨av,ax⟩:=hcut
            obtain⟨bz,bx⟩:=ax.holds hH (s3.trans ae) aa
            have ch:∀t,t<d.size→wc.cell? ⟨blk,off+t,none⟩=some (.int .i32 (rd ltInt dk a' b' lim wb wp).pi.1[t]!):=fun t ht=>(bz t (by omega)).1
            have b8:∀t,t<d.size→wc.frozen? ⟨blk,off+t,none⟩=false:=fun t ht=>(bz t (by omega)).2
            go_upto_region 17 with fail
            go_cut [87] from 19 (fun cc wx=>cc=.bool (decide (a' > 0)&&!ltInt (rd ltInt dk a' b' lim wb wp).pi.1[a'-1]! (rd ltInt dk a' b' lim wb wp).pi.1[(rd ltInt dk a' b' lim wb wp).pivot]!)∧At encI w blk off (rd ltInt dk a' b' lim wb wp).pi.1 wx)
            case first =>
             rcases Yz a' with ha0|ha0
             · have bl:decide ((a':Int) > 0)=false:=Zo (by omega)
               go_big_quiet (first|(go_at_call 171;refine Calls.quiet_of_same (So.cmp_Less_int _ _ _)))
               go_wp2_with fail
               go_meet
               case rel=>exact⟨by simp[ha0],ax.ahead nq⟩
             · have bl:(a':Int) > 0:=by omega
               go_big_quiet (first|(go_at_call 171;refine Calls.quiet_of_same (So.cmp_Less_int _ _ _)))
               go_wp2_with fail
               go_meet
               case rel=>exact⟨by simp[ha0],ax.ahead nq⟩
            case rest =>
             obtain⟨rfl,aq⟩:=hcut
             obtain⟨bw,b4⟩:=aq.holds hH (s3.trans ae) aa
             clear ch b8
             cases h87:(decide (a' > 0)&&!ltInt (rd ltInt dk a' b' lim wb wp).pi.1[a'-1]! (rd ltInt dk a' b' lim wb wp).pi.1[(rd ltInt dk a' b' lim wb wp).pivot]!)
             ·
              obtain⟨mid,ap,d4,hx⟩:∃mid ap d4,partition ltInt (rd ltInt dk a' b' lim wb wp).pi.1 a' b' (rd ltInt dk a' b' lim wb wp).pivot=(mid,ap,d4):=⟨(partition ltInt (rd ltInt dk a' b' lim wb wp).pi.1 a' b' (rd ltInt dk a' b' lim wb wp).pivot).1,(partition ltInt (rd ltInt dk a' b' lim wb wp).pi.1 a' b' (rd ltInt dk a' b' lim wb wp).pivot).2.1,(partition ltInt (rd ltInt dk a' b' lim wb wp).pi.1 a' b' (rd ltInt dk a' b' lim wb wp).pivot).2.2,rfl⟩
              obtain⟨r1,r2,r3,r4,r5,r6,r7⟩:=round_part S.swo S.prt aj.1 aj.2 (show b'≤(rd ltInt dk a' b' lim wb wp).pi.1.size by omega) B3 hx
              have a8:=C.prt blk off cap a' b' (rd ltInt dk a' b' lim wb wp).pivot (rd ltInt dk a' b' lim wb wp).pi.1 wc bw aj.1 aj.2 (by omega) (by omega)
              rw[s3,ae,hx]at a8
              have X:Aside (partition ltInt (rd ltInt dk a' b' lim wb wp).pi.1 a' b' (rd ltInt dk a' b' lim wb wp).pivot=(mid,ap,d4)):=hx
              clear hx
              go_upto_if 113 with (go_at_call 173;refine a8.mono ?_;rintro e w7 ⟨rfl,bq⟩)
              have hx:=X.out
              have ar:At encI w blk off d4 w7:=aq.step aa r3 bq
              obtain⟨bu,ak⟩:=ar.holds hH (r3.trans (s3.trans ae)) aa
              by_cases h4:mid-a'<b'-mid
              · have b9:(mid:Int)-(a':Int)<(b':Int)-(mid:Int):=by omega
                have bh:=ih blk off cap a' mid (rd ltInt dk a' b' lim wb wp).lim d4 w7 (by omega) bu ak (by omega) (by omega) (by omega) (Nat.lt_of_le_of_lt (Zh rd_lim_le ag) ah) r4
                rw[r3,s3,ae]at bh
                obtain⟨pL,sL⟩:=S.pdq S.swo d4 a' mid (rd ltInt dk a' b' lim wb wp).lim true true (by omega) (by omega) r4
                go_wp2_with (go_at_call 130;refine bh.mono ?_;rintro e w8 ⟨rfl,bj⟩)
                go_roundg (b'-(mid+1))
                case measure=>omega
                case rel =>
                 refine⟨mid+1,b',(rd ltInt dk a' b' lim wb wp).lim,decide (mid-a'≥(b'-a')/8),ap,pdq ltInt d4 a' mid (rd ltInt dk a' b' lim wb wp).lim true true,by simp,rfl,rfl,?_,rfl,by omega,by omega,Zb _,by omega,Zh rd_lim_le ag,by rw[pL.1,r3,s3,ae],(r6 _ pL sL).1,ar.stepG aa pL.1 bj,?_⟩
                 · exact Z4 Value.bool (eighth (by omega) (by omega))
                 · rw[←A.out,pdq_left h12 hl0 av h87 (by rw[hx];exact⟨r1,r2⟩) (by rw[hx];exact h4),hx]
              · have b9:¬((mid:Int)-(a':Int)<(b':Int)-(mid:Int)):=by omega
                have bh:=ih blk off cap (mid+1) b' (rd ltInt dk a' b' lim wb wp).lim d4 w7 (by omega) bu ak (by omega) (by omega) (by omega) (Nat.lt_of_le_of_lt (Zh rd_lim_le ag) ah) r5
                rw[r3,s3,ae]at bh
                obtain⟨pL,sL⟩:=S.pdq S.swo d4 (mid+1) b' (rd ltInt dk a' b' lim wb wp).lim true true (by omega) (by omega) r5
                go_wp2_with (go_at_call 130;refine bh.mono ?_;rintro e w8 ⟨rfl,bj⟩)
                go_roundg (mid-a')
                case measure=>omega
                case rel =>
                 refine⟨a',mid,(rd ltInt dk a' b' lim wb wp).lim,decide (b'-mid≥(b'-a')/8),ap,pdq ltInt d4 (mid+1) b' (rd ltInt dk a' b' lim wb wp).lim true true,rfl,rfl,rfl,?_,rfl,by omega,by omega,Zb _,by omega,Zh rd_lim_le ag,by rw[pL.1,r3,s3,ae],(r7 _ pL sL).1,ar.stepG aa pL.1 bj,?_⟩
                 · exact Z4 Value.bool (eighth (by omega) (by omega))
                 · rw[←A.out,pdq_right h12 hl0 av h87 (by rw[hx];exact⟨r1,r2⟩) (by rw[hx];exact h4),hx]
             ·
              have au:=h87
              simp only[ZB,Zm,Xm]at au
              obtain⟨mid,d4,hx⟩:∃mid d4,partitionEqual ltInt (rd ltInt dk a' b' lim wb wp).pi.1 a' b' (rd ltInt dk a' b' lim wb wp).pivot=(mid,d4):=⟨(partitionEqual ltInt (rd ltInt dk a' b' lim wb wp).pi.1 a' b' (rd ltInt dk a' b' lim wb wp).pivot).1,(partitionEqual ltInt (rd ltInt dk a' b' lim wb wp).pi.1 a' b' (rd ltInt dk a' b' lim wb wp).pivot).2,rfl⟩
              obtain⟨r1,r2,r3,r4,_⟩:=round_eq S.swo S.peq au.1 aj.1 aj.2 (show b'≤(rd ltInt dk a' b' lim wb wp).pi.1.size by omega) B3 au.2 hx
              have az:=C.peq blk off cap a' b' (rd ltInt dk a' b' lim wb wp).pivot (rd ltInt dk a' b' lim wb wp).pi.1 wc bw aj.1 aj.2 (by omega) (by omega)
              rw[s3,ae,hx]at az
              have X:Aside (partitionEqual ltInt (rd ltInt dk a' b' lim wb wp).pi.1 a' b' (rd ltInt dk a' b' lim wb wp).pivot=(mid,d4)):=hx
              clear hx
              go_wp2_with (go_at_call 172;refine az.mono ?_;rintro e w7 ⟨rfl,bq⟩)
              go_roundg (b'-mid)
              case measure=>omega
              case rel =>
               have hx:=X.out
               exact⟨mid,b',(rd ltInt dk a' b' lim wb wp).lim,wb,wp,d4,rfl,rfl,rfl,rfl,rfl,r2,cd,Zb _,by omega,Zh rd_lim_le ag,by rw[r3,s3,ae],r4,aq.step aa r3 bq,by rw[←A.out,pdq_eq h12 hl0 av h87 (by rw[hx];exact⟨r1,r2⟩),hx]⟩
end Go.Proofs.YtikiplbhlohmdaaGreatDoor
namespace Go.Proofs.YtikiplbhlohmdaaGreatDoor
open Go.RowKit Go.Sort
def intOf:Value→Int | .int _ q=>q|_=>0
section
variable {α:Type} [Inhabited α] (lt:α→α→Bool)
theorem insInner_go (a j:Nat) (d:Array α) (hj:a<j) (hl:lt d[j]! d[j-1]! = true):insInner lt a j d=insInner lt a (j-1) (swp d j (j-1)):=by
 obtain⟨k,rfl⟩:∃k,j=k+1:=⟨j-1,by omega⟩
 rw[insInner]
 simp only[Xj]at hl ⊢
 simp[hj,hl]
theorem insInner_stop (a j:Nat) (d:Array α) (h:j≤a∨lt d[j]! d[j-1]! = false):insInner lt a j d=d:=by
 cases j with
 | zero=>rw[insInner]
 | succ k =>
   rw[insInner]
   simp only[Xj]at h
   rcases h with h|h
   · simp[show ¬k+1 > a by omega]
   · simp[h]
theorem insOuter_go (a b i:Nat) (d:Array α) (h:i<b):insOuter lt a b i d=insOuter lt a b (i+1) (insInner lt a i d):=by rw[insOuter,Zp h]
theorem insOuter_stop (a b i:Nat) (d:Array α) (h:¬i<b):insOuter lt a b i d=d:=by rw[insOuter,Zl h]
end
section
variable {α:Type} [Inhabited α] (enc:α→Value)
theorem putRow_drewN (w:World) (m q blk off:Nat) (d:Array α):(putRow enc (Sort.ahead w m) blk off d).drewN q=putRow enc (Sort.ahead w (m+q)) blk off d:=by
 show Sort.ahead (putRow enc (Sort.ahead w m) blk off d) q=_
 rw[putRow_ahead enc w m,ahead_ahead,←putRow_ahead]
theorem swap_worldA (w:World) (m q blk off:Nat) (d:Array α) (j k:Nat) (hj:j<d.size) (hk:k<d.size) :
 (((putRow enc (Sort.ahead w m) blk off d).drewN q).setCell ⟨blk,off+j,none⟩ (enc d[k]!)).setCell ⟨blk,off+k,none⟩ (enc d[j]!)=putRow enc (Sort.ahead w (m+q)) blk off (swp d j k):=by
 rw[putRow_drewN]
 exact putRow_swp enc _ blk off d j k hj hk
end
theorem So.insertionSort_int (blk off cap a b:Nat) (d:Array Int) (w:World) (hH:Holds (Value.int .i32) w blk off d) (ap:a≤b) (hb:b≤d.size) (ar:d.size<4611686018427387904) :
 Calls Tryz.prog 165 #[.slice (some ⟨blk,off,none⟩) d.size cap,.int .i64 a,.int .i64 b] w fun e w' =>
  e=.returned (.tuple #[])∧∃n,w'=putRow (Value.int .i32) (Sort.ahead w n) blk off (Sort.insertionSort ltInt d a b):=by
 go_enter Tryz.func165,Tryz.ntmps165
 go_wp2
 go_loopw [6] (fun vi wr=>∃(i n:Nat) (dk:Array Int),vi=.int .i64 i∧a<i∧i≤b+1∧dk.size=d.size∧wr=putRow (Value.int .i32) (Sort.ahead w n) blk off dk ∧
  insOuter ltInt a b i dk=insOuter ltInt a b (a+1) d) (fun vi _=>b+1-(intOf vi).toNat)
 case atStart=>exact⟨a+1,0,d,by go_num,by omega,by omega,rfl,(putRow_self _ _ _ _ _ hH).symm,rfl⟩
 case round =>
  obtain⟨i,n,dk,rfl,au,aj,ai,ao,hO⟩:=hrel
  have HO:Hid (insOuter ltInt a b i dk=insOuter ltInt a b (a+1) d):=hO
  clear hO
  go_wp2
  ·
   go_loopw [7] (fun vj ah=>∃(j m:Nat) (dj:Array Int),vj=.int .i64 j∧a≤j∧j≤i∧dj.size=d.size∧ah=putRow (Value.int .i32) (Sort.ahead w m) blk off dj ∧
    insInner ltInt a j dj=insInner ltInt a i dk) (fun vj _=>(intOf vj).toNat)
   case atStart=>exact⟨i,n,dk,rfl,by omega,Zb _,ai,rfl,rfl⟩
   case round =>
    obtain⟨j,m,dj,rfl,aw,av,af,aa,hI⟩:=hrel
    have ag:i<b:=by assumption
    obtain⟨G,hG⟩:∃G:Nat→Int,∀t,G t=dj[t]! := ⟨fun t=>dj[t]!,fun _=>rfl⟩
    have ak:∀t,t<d.size→wr.cell? ⟨blk,off+t,none⟩=some (.int .i32 (G t)):=fun t ht=>by
     rw[aa,hG];exact cell?_putRow _ _ _ _ d dj (holds_ahead _ _ _ _ _ _ hH) af t (by omega)
    have aq:∀t,t<d.size→wr.frozen? ⟨blk,off+t,none⟩=false:=fun t ht=>by
     rw[aa,frozen?_putRow];exact ((holds_ahead _ _ m _ _ _ hH) t ht).2
    have HW:Hid (wr=putRow (Value.int .i32) (Sort.ahead w m) blk off dj):=aa
    have HG:Hid (∀t,G t=dj[t]!):=hG
    have HI:Hid (insInner ltInt a j dj=insInner ltInt a i dk):=hI
    clear aa hG hI hH
    have out:(j≤a∨ltInt dj[j]! dj[j-1]! = false)→∀q,∃i' n' ae,Value.int .i64 ((i:Int)+1)=.int .i64 (i':Nat)∧a<i'∧i'≤b+1∧ae.size=d.size ∧
     wr.drewN q=putRow (Value.int .i32) (Sort.ahead w n') blk off ae∧insOuter ltInt a b i' ae=insOuter ltInt a b (a+1) d:=fun hs q =>
     ⟨i+1,m+q,dj,by go_num,by omega,by omega,af,by rw[HW.out];exact putRow_drewN _ _ _ _ _ _ _,
      by rw[←HO.out,insOuter_go _ _ _ _ _ ag,←HI.out,insInner_stop _ _ _ _ hs]⟩
    have OUT:Hid _:=out
    clear out
    go_wp2
    by_cases hja:a<j
    · go_quiet (first|(go_at_call 171;refine Calls.quiet_of_same (So.cmp_Less_int _ _ _)))
      go_wp2
      ·
       have hl:ltInt (G j) (G (j-1))=true:=by assumption
       go_region
       all_goals go_wp2
       go_roundw
       case rel =>
        refine⟨j-1,m+(nq+1),swp dj j (j-1),by congr 1;omega,by omega,by omega,by rw[size_swp];exact af,?_,?_⟩
        · rw[HW.out,HG.out,HG.out]
          exact swap_worldA _ w m (nq+1) blk off dj j (j-1) (by omega) (by omega)
        · rw[←HI.out,insInner_go ltInt a j dj hja (by rw[←HG.out,←HG.out];exact hl)]
       case measure=>simp[intOf];omega
      ·
       have hl:ltInt (G j) (G (j-1))=false:=by assumption
       go_roundw
       case rel=>exact OUT.out (Or.inr (by rw[←HG.out,←HG.out];exact hl)) nq
       case measure=>simp[intOf];omega
    · go_quiet (first|(go_at_call 171;refine Calls.quiet_of_same (So.cmp_Less_int _ _ _)))
      go_wp2
      go_roundw
      case rel=>exact OUT.out (Or.inl (by omega)) nq
      case measure=>simp[intOf];omega
  ·
   have hge:¬i<b:=by assumption
   go_end0
   exact⟨rfl,n,by unfold Sort.insertionSort;rw[←HO.out,insOuter_stop _ _ _ _ _ hge]⟩
end Go.Proofs.YtikiplbhlohmdaaGreatDoor
