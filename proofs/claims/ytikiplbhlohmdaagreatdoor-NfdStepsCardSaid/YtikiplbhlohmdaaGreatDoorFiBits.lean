/- The characters whose full decomposition begins so, by walking the text. -/
import Derived.Test.YtikiplbhlohmdaaGreatDoorSoOwn
import Derived.Test.YtikiplbhlohmdaaGreatDoorStage
import Derived.Lib.Bytealg
import Derived.Lib.ItoaMem
set_option linter.unusedVariables false
set_option linter.unusedSimpArgs false
namespace Go.Proofs.YtikiplbhlohmdaaGreatDoor
open Go.RowKit
theorem own_set {w:World} {base:Nat} {e:TypeId} {size n c g j:Nat} {xs:List Value} (h:w.ownsRow base e size (.slice (some ⟨g,0,none⟩) n c) n xs) (hj:j<xs.length) (u:Value) :
 (w.setCell ⟨g,j,none⟩ u).ownsRow base e size (.slice (some ⟨g,0,none⟩) n c) n (xs.set j u):=by
 obtain⟨h1,h2⟩:=h
 refine⟨by rw[Xl];exact h1,?_⟩
 rcases h2 with ⟨h2,_⟩|⟨g',cap,aa,hv,hg,hc,hn,hm,hs,ht⟩
 · cases h2
 · cases hv
   refine .inr ⟨g,c,aa.set! j u,rfl,hg,?_,hn,hm,by simp[hs],?_⟩
   · simp[World.setCell,YN,hc]
   · rw[←ht]
     apply XG
     intro i
     simp only[YG,List.getElem?_set,Array.toList_set!,Zq,XO]
     have hl:n*size≤aa.size:=by rw[hs];exact Nat.mul_le_mul_right _ hn
     rw[h1]at hj
     by_cases h3:j=i
     · subst h3
       simp[hj,show j<aa.size by omega]
       omega
     · simp[h3]
theorem own_zero {w:World} {base:Nat} {e:TypeId} {size n c b o:Nat} {xs:List Value} (h:w.ownsRow base e size (.slice (some ⟨b,o,none⟩) n c) n xs):o=0∧base≤b∧b<w.heap.size∧∀j,w.frozen? ⟨b,j,none⟩=false:=by
 rcases h.2 with ⟨h2,_⟩|⟨g',cap,aa,hv,hg,hc,hn,hm,hs,ht⟩
 · cases h2
 · cases hv
   exact⟨rfl,hg,heap_lt hc,fun j=>by simp[World.frozen?,hc]⟩
def C.run (a:Int) (n:Nat):List Int:=(List.range n).map fun (i:Nat)=>a+(i:Int)
theorem C.run_succ (a:Int) (n:Nat):C.run a (n+1)=C.run a n++[a+(n:Int)]:=by
 unfold C.run;rw[List.range_succ,List.map_append];rfl
theorem C.run_len (a:Int) (n:Nat):(C.run a n).length=n:=by simp[C.run]
def C.all1 (rs:List (Int × Int)):List Int:=rs.flatMap fun r=>C.run r.1 (r.2-r.1+1).toNat
theorem C.all1_succ {rs:List (Int × Int)} {i:Nat} {r:Int × Int} (h:rs[i]?=some r):C.all1 (rs.take (i+1))=C.all1 (rs.take i)++C.run r.1 (r.2-r.1+1).toNat:=by
 unfold C.all1
 rw[Zw,h,Y3]
 simp
theorem C.all1_len (S:List Int) (aa:C.ok S):∀i,i≤(C.rngs S).length→((C.all1 ((C.rngs S).take i)).length:Int)=C.part S i
 | 0,_=>by simp[C.all1,C.part0]
 | i+1,h=>by
   obtain⟨r,hr⟩:∃r,(C.rngs S)[i]?=some r:=⟨_,Zc (by omega)⟩
   obtain⟨b1,b2,b3,b4⟩:=C.rng_bd aa hr
   rw[C.all1_succ hr,C.part_step aa hr,Ze,C.run_len]
   have:=C.all1_len S aa i (by omega)
   omega
theorem own_otype {w:World} {base:Nat} {e e':TypeId} {size n g:Nat} {v:Value} {xs:List Value} {cs:Array Value} {fr:Nat × Nat} (h:w.ownsRow base e size v n xs) (hb:w.heap[g]?=some (.cells cs e' fr)) (he:e≠e'):some g≠v.ownBlock:=by
 intro hv
 rcases h.2 with ⟨rfl,_⟩|⟨g2,cap,ae,rfl,_,aa,_⟩
 · simp[Value.ownBlock]at hv
 · simp only[Value.ownBlock,Zi]at hv
   subst hv
   rw[hb]at aa
   simp only[Zi,XD]at aa
   exact he aa.2.1.symm
theorem C.all1_bd {S:List Int} (aa:C.ok S) {i:Nat} (h:i≤(C.rngs S).length):(C.all1 ((C.rngs S).take i)).length≤1114112:=by
 have h1:=C.all1_len S aa i h
 have h2:=(C.part_bd aa i).2
 have h3:=(C.count_bd aa).2
 omega
def C.RetRunes (xs:List Int) (w:World) (e:Ending) (w':World):Prop :=
 ∃A c,e=.returned (.slice A xs.length c)∧w'.ownsRow w.heap.size 21 1 (.slice A xs.length c) xs.length (xs.map (Value.int .i32))∧Below w.heap.size w w'
set_option maxRecDepth 100000 in
set_option maxHeartbeats 1000000 in
theorem C.setchars_any (A:Option Addr) (c n B:Nat) (l:List Int) (w:World) (hn:l.length=n) (bo:n≤1000000) (bb:C.ok l) (hB:B≤w.heap.size) (hA:Sl w B A (l.map (Value.int .i32))) :
 Calls Tryz.prog 97 #[.agg #[.slice A n c]] w (C.RetRunes (C.all1 (C.rngs l)) w):=by
 have HR:=Za (C.ranges_any A c n B l)
 have HN:=Za hn
 have az:=Za bb
 have ak:=Za (fun i=>C.all1_bd bb (i:=i))
 have av:=C.rngs_len l
 rw[hn]at av
 obtain⟨rs,a7⟩:∃rs,C.rngs l=rs:=⟨_,rfl⟩
 have b3:=Za a7
 rw[a7]at HR av ak ⊢
 obtain⟨m,hm⟩:∃m,rs.length=m:=⟨_,rfl⟩
 rw[hm]at av ak
 have HM:=Za hm
 have b7:m≤500000:=by omega
 obtain⟨j0,hj0,bn,b5,bq⟩:=Z7 infoRune
 clear hn bb av a7 hm
 go_enter Tryz.func97,Tryz.ntmps97
 go_wp2_with fail
 have a8:Below w.heap.size w (w.alloc (.cells #[.slice A n c] 100)):=(Zd _ _).alloc (Zb _) _
 refine (HR.out _ HN.out bo (by have:=az.out.2.2;rw[HN.out]at this;exact this) az.out.2.1 (by simp;omega) (hA.belowN a8 hB (Zb _))).mono ?_
 rintro e w1 ⟨A5,c5,rfl,aa,au⟩
 have hS:=Za (Sl.of_own aa)
 have ay:=a8.trans (au.mono (by simp))
 rw[HM.out]at aa ⊢
 clear aa hA au a8
 go_wp2
 go_loopw [10,3] (fun vi vo wr=>∃(i:Nat) (acc:List Int),i≤m∧vi=.int .i64 i∧acc=C.all1 (rs.take i)∧wr.ownsRow w1.heap.size 21 1 vo acc.length (acc.map (Value.int .i32))∧Below w1.heap.size w1 wr) (fun vi _ _=>m-(intOf vi).toNat)
 case atStart=>exact⟨0,[],by omega,rfl,rfl,ZC _ _ _ _,Zd _ _⟩
 case round =>
  obtain⟨i,acc,hi,rfl,ag,aa,ar⟩:=hrel
  obtain⟨w2,rfl⟩:∃w2:World,w2=wr:=⟨_,rfl⟩
  obtain⟨q,hq⟩:∃q,acc.length=q:=⟨_,rfl⟩
  rw[hq]at aa
  obtain⟨A6,c6,rfl⟩:=own_form aa
  have HQ:=Za hq
  have ba:=Za ag
  have bl:w1.heap.size≤w2.heap.size:=ar.size
  by_cases hlt:(i:Int)<m
  · obtain⟨⟨x,y⟩,hr⟩:∃r,rs[i]?=some r:=⟨_,Zc (by rw[HM.out];omega)⟩
    obtain⟨b,o,rfl,b8,bg,bf⟩:=hS.out.pair hr
    rw[←(bcell ar).1 _ _ (by omega)]at bg bf
    have ao:=C.all1_succ hr
    have bs:=hr
    rw[←b3.out]at hr
    obtain⟨r1,r2,r3,r4⟩:=C.rng_bd az.out hr
    have hlen:=ak.out (i+1) (by omega)
    rw[ao,Ze,C.run_len,←ag,hq]at hlen
    rw[←ag]at ao
    simp only at r1 r2 r3 r4 ao hlen bg bf
    obtain⟨N,hN⟩:∃N:Nat,(y-x+1).toNat=N:=⟨_,rfl⟩
    rw[hN]at ao hlen
    have bx:=Za ao
    have n0:(0:Int)≤(i:Int):=by omega
    have n1:(i:Int)<m:=by omega
    have b6:y=x+(N:Int)-1:=by omega
    subst b6
    obtain⟨W,hW⟩:∃W,w2.alloc (.cells #[.int .i32 x,.int .i32 (x+(N:Int)-1)] 231)=W:=⟨_,rfl⟩
    have aq:W.heap[w2.heap.size]?=some (.cells #[.int .i32 x,.int .i32 (x+(N:Int)-1)] 231):=by rw[←hW];exact ZP w2 _
    have ap:W.ownsRow w1.heap.size 21 1 (.slice A6 q c6) q (acc.map (Value.int .i32)):=by rw[←hW];exact aa.alloc _
    have bc:Below w1.heap.size w1 W:=by rw[←hW];exact ar.alloc bl _
    have b9:W.heap.size=w2.heap.size+1:=by rw[←hW];simp
    have HW:=Za hW
    have a1:=Za aq
    clear hr bs ao ag hq hW aq ar aa
    go_wp2
    rw[HW.out]
    go_loopw [3,6] (fun bj vc ax=>∃k:Nat,k≤N∧vc=.int .i32 (x+(k:Int))∧ax.ownsRow w1.heap.size 21 1 bj (q+k) ((acc++C.run x k).map (Value.int .i32))∧ax.heap[w2.heap.size]?=some (.cells #[.int .i32 x,.int .i32 (x+(N:Int)-1)] 231)∧Below w1.heap.size w1 ax∧W.heap.size≤ax.heap.size) (fun _ vc _=>(x+(N:Int)-intOf vc).toNat)
    case atStart =>
     refine⟨0,by omega,by simp,?_,a1.out,bc,Zb _⟩
     simpa [C.run] using ap
    case round =>
     obtain⟨k,hk,rfl,af,ae,aw,br⟩:=hrel
     obtain⟨w3,rfl⟩:∃w3:World,w3=wr:=⟨_,rfl⟩
     obtain⟨A7,c7,rfl⟩:=own_form af
     obtain⟨d0,_⟩:=blk_cell ae 0
     obtain⟨d1,_⟩:=blk_cell ae 1
     simp only[List.getElem?_toArray,Y7,YR]at d0 d1
     have bh:w1.heap.size≤w3.heap.size:=aw.size
     have bk:w2.heap.size<w3.heap.size:=by omega
     have b1:0≤x+(k:Int):=by omega
     have b2:x+(k:Int)≤1114112:=by omega
     have bw:=Za ae
     clear ae
     by_cases hlt3:x+(k:Int)≤x+(N:Int)-1
     · have hZ:=Za (Sl.lit (w:=w3.alloc (.cells #[.int .i32 (x+(k:Int))] 21)) (A:=some ⟨w3.heap.size,0,none⟩) (xs:=[.int .i32 (x+(k:Int))]) rfl 21 (0,0) (ZP w3 _))
       have a6:Below w3.heap.size w3 (w3.alloc (.cells #[.int .i32 (x+(k:Int))] 21)):=(Zd _ _).alloc (Zb _) _
       have ai:=Za (own_below af a6 (Zb _))
       have b4:w1.heap.size≤(w3.alloc (.cells #[.int .i32 (x+(k:Int))] 21)).heap.size:=by simp;omega
       have bi:=Za ((a6.block w2.heap.size bk).trans bw.out)
       have bu:=aw.alloc bh (.cells #[.int .i32 (x+(k:Int))] 21)
       have bz:w2.heap.size<(w3.alloc (.cells #[.int .i32 (x+(k:Int))] 21)).heap.size:=by simp;omega
       have hne:=own_otype ai.out bi.out (by decide)
       have bm:=Za (show w3.heap.size≤(w3.alloc (.cells #[.int .i32 (x+(k:Int))] 21)).heap.size by simp)
       clear af a6 aw
       go_wp2_with (at_builtin;refine wpList_appendSl _ rfl _ _ _ rfl w1.heap.size 21 j0 _ 1 4 Tryz.underlying49 hj0 bn b5 bq rfl (by omega) _ (q+k) _ rfl ai.out _ (some ⟨w3.heap.size,0,none⟩) 1 1 [.int .i32 (x+(k:Int))] rfl rfl hZ.out (by simp[Value.oneCell']) (by simp only[maxLen];omega) (by omega) b4 ?_;intro v1 w5 ah bp aj;obtain⟨A8,c8,rfl⟩:=own_form ah)
       refine⟨⟨k+1,by omega,by go_num,?_,(aj.block _ bz hne).trans bi.out,bu.trans bp,Zh br (Zh bm.out aj.size)⟩,by simp[intOf];omega⟩
       rw[C.run_succ,←Zz,ZM,←Yi]
       exact ah
     · obtain rfl:k=N:=by omega
       have bt:w1.heap.size≤w3.heap.size:=bh
       go_wp2
       refine⟨⟨i+1,acc++C.run x k,by omega,by go_num,bx.out.symm,?_,aw⟩,by simp[intOf];omega⟩
       rw[Ze,HQ.out,C.run_len]
       exact af
  · obtain rfl:i=m:=by omega
    have e0:acc=C.all1 rs:=by rw[ba.out,Zj (by rw[HM.out];exact Zb _)]
    have E0:=Za e0
    clear e0 ag hq
    go_wp2
    go_ret
    refine⟨A6,c6,(by rw[←E0.out,HQ.out];rfl),?_,ay.trans (ar.mono ay.size)⟩
    rw[←E0.out,HQ.out]
    exact own_base aa ay.size
end Go.Proofs.YtikiplbhlohmdaaGreatDoor
namespace Go.Proofs.YtikiplbhlohmdaaGreatDoor
theorem C.run_mem {a:Int} {n:Nat} {d:Int}:d∈C.run a n↔a≤d∧d<a+(n:Int):=by
 unfold C.run
 rw[List.mem_map]
 constructor
 · rintro⟨i,hi,rfl⟩
   rw[List.mem_range]at hi
   omega
 · rintro⟨h1,h2⟩
   exact⟨(d-a).toNat,by rw[List.mem_range];omega,by omega⟩
theorem C.all1_mem (rs:List (Int × Int)) (d:Int):d∈C.all1 rs↔C.inR rs d=true:=by
 unfold C.all1 C.inR
 rw[List.mem_flatMap,YB]
 constructor
 · rintro⟨r,hr,hd⟩
   rw[C.run_mem]at hd
   exact⟨r,hr,by simp;omega⟩
 · rintro⟨r,hr,hd⟩
   simp at hd
   exact⟨r,hr,by rw[C.run_mem];omega⟩
theorem C.chars_again {S:List Int} (aa:C.ok S) (hC:∀d,C.mem S d=true→C.isC d=true):C.chars (C.all1 (C.rngs S))=S:=by
 obtain⟨h1,h2⟩:=C.chars_spec (C.all1 (C.rngs S))
 refine C.canon _ _ h1.1 aa.1 fun d=>?_
 rw[h2 d]
 have e:decide (d∈C.all1 (C.rngs S))=C.mem S d:=by
  rw[←C.rngs_mem S aa d,Yb,Z5]
  exact C.all1_mem _ d
 rw[e]
 cases hm:C.mem S d
 · rfl
 · rw[hC d hm];rfl
theorem C.chF_len:∀(cs acc:List Int),(C.chF cs acc).length≤acc.length+2*cs.length
 | [],acc=>by simp[C.chF]
 | c::t,acc=>by
   have h:(C.step C.isC acc c (c+1)).length≤acc.length+2:=by
    unfold C.step
    split
    · split
      · rw[Ze,List.length_dropLast];simp;omega
      · rw[Ze];simp
    · omega
   have h2:=C.chF_len t (C.step C.isC acc c (c+1))
   show (C.chF t (C.step C.isC acc c (c+1))).length≤_
   rw[ZI]
   omega
theorem C.chars_len (l:List Int):(C.chars l).length≤2*l.length:=by
 have h1:=C.chF_len (C.once l) []
 have h2:(C.once l).length≤l.length:=by
  unfold C.once Lib.compactUpTo
  rw[Zg]
  exact Zh (List.length_filter_le _ _) (by simp)
 unfold C.chars
 simp at h1
 omega
end Go.Proofs.YtikiplbhlohmdaaGreatDoor
namespace Go.Proofs.YtikiplbhlohmdaaGreatDoor
open Go.RowKit
end Go.Proofs.YtikiplbhlohmdaaGreatDoor
namespace Go.Proofs.YtikiplbhlohmdaaGreatDoor
theorem Ud.full_isC {T:List Rw.Row} {S:List Int} (h:Ud.Ok T S) {a:Int} (ha:C.isC a=true):∀y∈Ud.full T a,C.isC y=true:=by
 obtain⟨l,hl⟩:=Md.full_some h.chk a
 have hf:Ud.full T a=l:=by unfold Ud.full;rw[hl];rfl
 rw[hf]
 unfold Md.full at hl
 rw[Md.exp_lv _ _ _ _ (by simp)]at hl
 cases hv:Md.lv (Md.mp T) (T.length+3) a with
 | none=>rw[hv]at hl;cases hl
 | some b =>
   rw[hv,Zr]at hl
   unfold Md.fit at hl
   split at hl
   · simp only[Z2,Zi]at hl
     subst hl
     refine Md.lv_all (Q:=fun y=>C.isC y=true) (fun c d hd=>?_) _ _ _ hv ha
     unfold Md.mp at hd
     split at hd
     · rename_i hp
       rw[Ud.pair_kind]at hp
       simp only[Zm]at hp
       have hk:=Ud.kind_le c
       have aa:Hg.ofK c=4∨Hg.ofK c=5:=by omega
       have hs:=Hg.ofK_syl c aa
       rcases aa with h4|h5
       · rw[Hg.pairK_four c h4]at hd
         simp only[Xd,YS,or_false]at hd
         unfold C.isC
         simp only[Zm]
         omega
       · rw[Hg.pairK_five c h5]at hd
         simp only[Xd,YS,or_false]at hd
         unfold C.isC
         simp only[Zm]
         omega
     · unfold Md.rmp at hd
       cases hf:Md.find T c with
       | none=>rw[hf]at hd;simp at hd
       | some r =>
         rw[hf]at hd
         exact ((h.good r (Md.find_some hf).1).2.2.2.2.2 d (by simpa using hd)).1
   · cases hl
end Go.Proofs.YtikiplbhlohmdaaGreatDoor
namespace Go.Proofs.YtikiplbhlohmdaaGreatDoor
open Go.RowKit
theorem Nf.fl_isC {T:List Rw.Row} {S:List Int} (ok:Ud.Ok T S) {l:List Int} (h:∀c∈l,C.isC c=true):∀c∈Nf.fl T l,C.isC c=true:=fun c hc=>by
 unfold Nf.fl at hc
 obtain⟨x,hx,hy⟩:=List.mem_flatMap.1 hc
 exact Ud.full_isC ok (h x hx) c hy
theorem Nf.chars_isC {T:List Rw.Row} {S:List Int} (ok:Ud.Ok T S) {l:List Int} (h:∀c∈l,C.isC c=true):∀c∈Nf.chars T l,C.isC c=true:=fun c hc =>
 Nf.fl_isC ok h c (((Or.iter_eqv (Md.cls T) _ (Nf.fl T l)).mem c).1 hc)
theorem Nf.chars_len (T:List Rw.Row) (l:List Int):(Nf.chars T l).length=(Nf.fl T l).length:=Or.of_len _ _
theorem Nf.isC_i32 {c:Int} (h:C.isC c=true) : -2147483648≤c∧c≤2147483647:=by have:=Ud.isC_bd h;omega
section
set_option maxRecDepth 100000
set_option maxHeartbeats 4000000
theorem Nf.apart_any (v:Value) (T:List Rw.Row) (S:List Int) (A:Option Addr) (n c:Nat) (l:List Int) (w:World) (ok:Ud.Ok T S) (h:Ud.Is w v T S) (hl:l.length=n) (hn:n≤3000) (a7:∀x∈l,-2147483648≤x∧x≤2147483647) (hA:Sl w w.heap.size A (l.map (Value.int .i32))) :
 Calls Tryz.prog 44 #[v,.slice A n c] w (Md.RetOwn (Nf.fl T l) w):=by
 obtain⟨i0,bw,bi,bh,bq⟩:=Z7 infoRune
 have bg:Hid (∀x W,Below w.heap.size w W → -2147483648≤x→x≤2147483647→Calls Tryz.prog 21 #[v,.int .i32 x] W (RetInts .i32 (Ud.full T x) W)):=Za fun x W hW h3 h4=>Ud.full_any v T S x W ok (h.below hW) h3 h4
 obtain⟨pv,rfl,_⟩:=h.form
 have HL:=Za hl
 have bp:=Za a7
 have HA:=Za hA
 have bu:=Za (Nf.fl_le (fun c=>Ud.fullT_le ok c))
 have av:=Za (fun c=>Ud.fullT_le ok c)
 clear hl a7 hA h ok
 go_enter Tryz.func44,Tryz.ntmps44
 go_wp2_with fail
 go_loopw [5,7,10] (fun v5 _ i wr=>∃(k:Nat) (sl:Value),k≤n∧i=.int .i64 k∧v5=sl∧wr.ownsRow w.heap.size 21 1 sl (Nf.fl T (l.take k)).length ((Nf.fl T (l.take k)).map (Value.int .i32))∧Below w.heap.size w wr) (fun _ _ i _=>n-(intOf i).toNat)
 case atStart=>exact⟨0,_,ZE _,rfl,rfl,ZC _ _ _ _,Zd _ _⟩
 case round =>
  obtain⟨k,sl,hk,rfl,rfl,aa,af⟩:=hrel
  have az:=af.size
  by_cases hlt:k<n
  · obtain⟨x,hx⟩:∃x,l[k]?=some x:=⟨_,Zc (by rw[HL.out];exact hlt)⟩
    obtain⟨a8,bf⟩:=bp.out x (Zk hx)
    obtain⟨ab,ao,hA2,bz,a1⟩:=HA.out (by rw[Zg,HL.out];omega)
    have hc:=a1 k (by rw[Zg,HL.out];exact hlt)
    rw[Zu,hx,Zt,←(bcell af).1 _ _ (by omega)]at hc
    have au:=Nf.fl_snoc (T:=T) hx
    have ar:=bu.out (l.take k)
    rw[Zq,HL.out]at ar
    have aw:=av.out x
    have aq:=bg.out x wr af a8 bf
    obtain⟨m,hm⟩:∃m,Ud.full T x=m:=⟨_,rfl⟩
    obtain⟨S,hS⟩:∃S,Nf.fl T (l.take k)=S:=⟨_,rfl⟩
    obtain⟨ml,ai⟩:∃q,m.length=q:=⟨_,rfl⟩
    obtain⟨sn,ae⟩:∃q,S.length=q:=⟨_,rfl⟩
    unfold RetInts at aq
    rw[hm,ai]at aq
    rw[hS,ae]at aa
    rw[hS,ae]at ar
    rw[hm,ai]at aw
    rw[hS,hm]at au
    have kI:(k:Int)<n:=by omega
    have k0:(0:Int)≤k:=by omega
    have bn:=Za au
    have ah:=Za aa
    have ay:=Za af
    have bl:=Za ai
    have ax:=Za ae
    have bx:=Za aq
    have b1:sn≤32*k:=by omega
    have bb:(m.map (Value.int .i32)).length=ml*1:=by rw[Zg,ai];omega
    have a6:∀u∈m.map (Value.int .i32),u.oneCell'=true:=oneCells .i32 _
    have bs:=Za bb
    have bo:=Za a6
    subst hA2
    clear hx a8 bf a1 au ar hm hS ai ae aq aa af bb a6
    go_wp2_with (first|(go_at_call 21;refine bx.out.mono ?_;rintro e w1 ⟨A1,c1,rfl,ba,ap⟩;have ak:=Za (own_below ah.out ap (Zb _));have bm:=Za ba;have bj:=Za (ay.out.trans (ap.mono az));have bk:w.heap.size≤w1.heap.size:=Zh az ap.size;clear ba ap hc)|(at_builtin;refine wpList_appendSl _ rfl _ _ _ rfl w.heap.size 21 i0 _ 1 4 Tryz.underlying49 bw bi bh bq rfl (by omega) _ sn _ rfl ak.out _ A1 ml c1 (m.map (Value.int .i32)) rfl bs.out bm.out bo.out (by simp only[maxLen];omega) (by omega) bk ?_;intro v1 w4 ag bc br;have aj:=Za ag;have bt:=Za (bj.out.trans bc);clear ag bc br)|fail)
    refine⟨⟨k+1,v1,by omega,by first|rfl|go_num,rfl,?_,bt.out⟩,by simp[intOf];omega⟩
    rw[bn.out,Ze,ax.out,bl.out,ZM]
    exact aj.out
  · obtain rfl:k=n:=by omega
    rw[Zj (by rw[HL.out];exact Zb _)]at aa
    obtain⟨S,hS⟩:∃S,Nf.fl T l=S:=⟨_,rfl⟩
    obtain⟨sn,ae⟩:∃q,S.length=q:=⟨_,rfl⟩
    rw[hS,ae]at aa
    obtain⟨A4,c4,rfl⟩:=own_form aa
    have kI:¬(k:Int)<k:=by omega
    have HS:=Za hS
    have ax:=Za ae
    have HO:=Za aa
    have HB:=Za af
    clear aa hS ae af
    go_wp2_with fail
    go_ret
    rw[HS.out]
    unfold Md.RetOwn
    rw[ax.out]
    exact⟨_,_,rfl,HO.out,HB.out⟩
theorem Nf.Chars_any (v:Value) (T:List Rw.Row) (S:List Int) (A:Option Addr) (n c:Nat) (l:List Int) (w:World) (ok:Ud.Ok T S) (h:Ud.Is w v T S) (hl:l.length=n) (hn:n≤3000) (av:∀x∈l,-2147483648≤x∧x≤2147483647) (hA:Sl w w.heap.size A (l.map (Value.int .i32))) (af:∀ai cd k N,(∀(args:Array Value) (w:World),(callFunc ai args).run Tryz.prog w=.ok (.enter ai args) w)→Ss.SymOk ai cd k N) :
 Calls Tryz.prog 23 #[v,.slice A n c] w (Md.RetOwn (Nf.chars T l) w):=by
 have aj:=Nf.apart_any v T S A n c l w ok h hl hn av hA
 have ao:Hid (∀A' m c' W,Below w.heap.size w W→(Nf.fl T l).length=m→m≤100000→Sl W W.heap.size A' ((Nf.fl T l).map (Value.int .i32))→Calls Tryz.prog 43 #[v,.slice A' m c'] W (Md.RetOwn (Nf.chars T l) W)):=Za fun A' m c' W hW h1 h2 h3=>Or.of_any v T S A' m c' (Nf.fl T l) W ok (h.below hW) h1 h2 h3 af
 have ar:=Nf.fl_le (fun c=>Ud.fullT_le ok c) l
 obtain⟨F,hF⟩:∃F,Nf.fl T l=F:=⟨_,rfl⟩
 obtain⟨Z,hZ⟩:∃Z,Nf.chars T l=Z:=⟨_,rfl⟩
 obtain⟨fn,ag⟩:∃k,F.length=k:=⟨_,rfl⟩
 obtain⟨zn,ap⟩:∃k,Z.length=k:=⟨_,rfl⟩
 unfold Md.RetOwn at *
 rw[hF,ag]at aj
 rw[hF,hZ,ap]at ao
 rw[hF,ag]at ar
 rw[hZ,ap]
 have aw:fn≤100000:=by omega
 have ay:=Za ag
 have au:=Za aj
 obtain⟨pv,rfl,_⟩:=h.form
 clear aj ar hF hZ ag ap ok h hl av hA af
 go_enter Tryz.func23,Tryz.ntmps23
 go_wp2_with fail
 refine au.out.mono ?_
 rintro e w1 ⟨A1,c1,rfl,aa,ah⟩
 have HO:=Za (ao.out A1 fn c1 w1 ah ay.out aw (Sl.of_own aa))
 have ak:=Za ah
 clear aa ah ao au
 go_wp2_with fail
 refine HO.out.mono ?_
 rintro e w2 ⟨A2,c2,rfl,ae,aq⟩
 have az:=Za (own_mono ae ak.out.size)
 have ax:=Za (ak.out.trans (aq.mono ak.out.size))
 clear ae aq HO
 go_wp2_with fail
 go_ret
 exact⟨_,_,rfl,az.out,ax.out⟩
end
end Go.Proofs.YtikiplbhlohmdaaGreatDoor
namespace Go.Proofs.YtikiplbhlohmdaaGreatDoor
open Go.RowKit Go.Stop
def Fi.up (d:Nat):UInt8:=UInt8.ofNat (if d<10 then 48+d else 55+d)
def Fi.lo (d:Nat):UInt8:=UInt8.ofNat (if d<10 then 48+d else 87+d)
def Fi.low:Nat→Nat→List Nat
 | 0,_=>[]
 | k+1,n=>Fi.low k (n/16)++[n%16]
def Fi.nd (n:Nat):Nat:=if h:n<16 then 1 else Fi.nd (n/16)+1
 termination_by n
 decreasing_by omega
def Fi.text (n:Nat):List UInt8:=(Fi.low (max 4 (Fi.nd n)) n).map Fi.up
theorem Fi.nd_pos (n:Nat):1≤Fi.nd n:=by rw[Fi.nd];split <;> omega
theorem Fi.nd_le:∀(k n:Nat),n<16 ^ (k+1)→Fi.nd n≤k+1
 | 0,n,h=>by rw[Fi.nd,dif_pos (by simpa using h)];exact Nat.le_refl _
 | k+1,n,h=>by
   rw[Fi.nd]
   split
   · omega
   · have:=Fi.nd_le k (n/16) (by rw[YY]at h;omega)
     omega
theorem Fi.lt_nd (n:Nat):n<16 ^ Fi.nd n:=by
 rw[Fi.nd]
 split
 · simpa
 · have:=Fi.lt_nd (n/16)
   rw[YY]
   omega
 termination_by n
 decreasing_by omega
theorem Fi.nd_ge (n k:Nat) (h:16 ^ k≤n):k+1≤Fi.nd n:=by
 rcases ZX (Fi.nd n) (k+1) with hl|hl
 · have h1:=Fi.lt_nd n
   have h2:16 ^ Fi.nd n≤16 ^ k:=Y5 (by decide) (by omega)
   omega
 · exact hl
theorem Fi.low_len:∀k n,(Fi.low k n).length=k
 | 0,_=>rfl
 | k+1,n=>by simp[Fi.low,Fi.low_len k]
theorem Fi.low_cons:∀(k n:Nat),Fi.low (k+1) n=(n/16 ^ k%16)::Fi.low k n
 | 0,n=>by simp[Fi.low]
 | k+1,n=>by
   rw[Fi.low,Fi.low_cons k (n/16),Fi.low,Nat.div_div_eq_div_mul,YY,Nat.mul_comm 16]
   rfl
theorem Fi.low_get:∀(k n j:Nat),j<k→(Fi.low k n)[j]?=some (n/16 ^ (k-1-j)%16)
 | 0,_,_,h=>by omega
 | k+1,n,0,_=>by rw[Fi.low_cons];simp
 | k+1,n,j+1,h=>by
   rw[Fi.low_cons,YR,Fi.low_get k n j (by omega),show k-1-j=k+1-1-(j+1) by omega]
theorem Fi.low_pad (n:Nat):∀(j k:Nat),n<16 ^ k→Fi.low (j+k) n=List.replicate j 0++Fi.low k n
 | 0,k,_=>by simp
 | j+1,k,h=>by
   have hk:n<16 ^ (j+k):=Zf h (Y5 (by decide) (by omega))
   rw[show j+1+k=(j+k)+1 by omega,Fi.low_cons,Nat.div_eq_of_lt hk,Fi.low_pad n j k h]
   rfl
theorem Fi.low_lt:∀(k n:Nat),∀d∈Fi.low k n,d<16
 | 0,_,d,h=>by simp[Fi.low]at h
 | k+1,n,d,h=>by
   rw[Fi.low,Xa]at h
   rcases h with h|h
   · exact Fi.low_lt k _ d h
   · simp at h;omega
theorem Fi.text_eq (n:Nat):Fi.text n=List.replicate (4-Fi.nd n) 48++(Fi.low (Fi.nd n) n).map Fi.up:=by
 unfold Fi.text
 rw[show max 4 (Fi.nd n)=(4-Fi.nd n)+Fi.nd n by omega,Fi.low_pad n _ _ (Fi.lt_nd n),ZM,List.map_replicate]
 rfl
theorem Fi.text_len (n:Nat):(Fi.text n).length=max 4 (Fi.nd n):=by simp[Fi.text,Fi.low_len]
theorem Fi.text_le (n:Nat) (h:n≤1114111):(Fi.text n).length≤6:=by
 rw[Fi.text_len]
 have:=Fi.nd_le 5 n (by
  have:(16:Nat) ^ 6=16777216:=by decide
  rw[this];omega)
 omega
def Fi.digit (b:UInt8):Int:=if 48≤b.toNat∧b.toNat≤57 then (b.toNat:Int)-48 else if 65≤b.toNat∧b.toNat≤70 then (b.toNat:Int)-55 else -1
theorem Fi.digit_table:∀i:Fin 256,Lib.indexByte [48,49,50,51,52,53,54,55,56,57,65,66,67,68,69,70] (UInt8.ofNat i.val)=Fi.digit (UInt8.ofNat i.val):=by decide +kernel
theorem Fi.digit_index (b:UInt8):Lib.indexByte [48,49,50,51,52,53,54,55,56,57,65,66,67,68,69,70] b=Fi.digit b:=by
 have h:=Fi.digit_table ⟨b.toNat,b.toNat_lt⟩
 simpa using h
theorem Fi.digit_up:∀d:Fin 16,Fi.digit (Fi.up d.val)=d.val:=by decide
theorem Fi.digit_lt (b:UInt8):Fi.digit b<16 ∧ -1≤Fi.digit b:=by unfold Fi.digit;split <;> (try split) <;> omega
theorem Fi.up_digit (b:UInt8) (h:0≤Fi.digit b):Fi.up (Fi.digit b).toNat=b:=by
 have h2:=b.toNat_lt
 apply UInt8.toNat_inj.1
 unfold Fi.up
 unfold Fi.digit at h ⊢
 split at h
 · rename_i hc
   rw[Zp hc,Zp (by omega),XV,Xv (by omega)]
   omega
 · rename_i hc
   rw[Zl hc]
   split at h
   · rename_i hd
     rw[Zp hd,Zl (by omega),XV,Xv (by omega)]
     omega
   · omega
def Fi.val (l:List UInt8):Int:=l.foldl (fun n b=>n*16+Fi.digit b) 0
def Fi.good (l:List UInt8):Bool:=l.all fun b=>decide (0≤Fi.digit b)
def Fi.long (l:List UInt8):Bool:=decide (4≤l.length)&&(decide (l.length≤6)&&!(decide (4<l.length)&&l.head? == some 48))
def Fi.hex (l:List UInt8):Option Int:=if Fi.long l&&(Fi.good l&&decide (Fi.val l≤1114111)) then some (Fi.val l) else none
theorem Fi.val_snoc (l:List UInt8) (b:UInt8):Fi.val (l++[b])=Fi.val l*16+Fi.digit b:=by simp[Fi.val,Y8]
theorem Fi.good_snoc (l:List UInt8) (b:UInt8):Fi.good (l++[b])=(Fi.good l&&decide (0≤Fi.digit b)):=by simp[Fi.good,List.all_append]
theorem Fi.val_low:∀(k n:Nat),Fi.val ((Fi.low k n).map Fi.up)=((n%16 ^ k:Nat):Int)
 | 0,n=>by simp[Fi.low,Fi.val,Nat.mod_one]
 | k+1,n=>by
   rw[Fi.low,ZM,ZT,Ys,Fi.val_snoc,Fi.val_low k,Fi.digit_up ⟨n%16,by omega⟩]
   have h1:n%16 ^ (k+1)=n%16+16*(n/16%16 ^ k):=by rw[YY,Nat.mul_comm,Nat.mod_mul]
   rw[h1]
   simp only[Int.natCast_add,Int.natCast_mul]
   omega
theorem Fi.good_low (k n:Nat):Fi.good ((Fi.low k n).map Fi.up)=true:=by
 simp only[Fi.good,Yh,List.mem_map]
 rintro b ⟨d,hd,rfl⟩
 rw[Fi.digit_up ⟨d,Fi.low_lt _ _ d hd⟩]
 simp
theorem Fi.low_val':∀(n:Nat) (l:List UInt8),l.length=n→Fi.good l=true→0≤Fi.val l∧Fi.val l<((16 ^ l.length:Nat):Int)∧(Fi.low l.length (Fi.val l).toNat).map Fi.up=l:=by
 intro n
 induction n with
 | zero =>
   intro l hl _
   obtain rfl:l=[]:=List.length_eq_zero_iff.1 hl
   simp[Fi.val,Fi.low]
 | succ n ih =>
   intro l hl h
   rcases YL l with rfl|⟨m,b,hmb⟩
   · simp at hl
   rw[YM]at hmb
   subst hmb
   rw[Ze,Yu]at hl
   rw[Fi.good_snoc,ZB]at h
   obtain⟨h1,h2⟩:=h
   have h2:=Yg h2
   obtain⟨i0,i1,i2⟩:=ih m (by omega) h1
   have h3:=(Fi.digit_lt b).1
   rw[Fi.val_snoc,Ze,Yu]
   refine⟨by omega,?_,?_⟩
   · rw[YY,Int.natCast_mul];omega
   · rw[Fi.low,ZM,XB,show (Fi.val m*16+Fi.digit b).toNat/16=(Fi.val m).toNat by omega,i2,
      show (Fi.val m*16+Fi.digit b).toNat%16=(Fi.digit b).toNat by omega,Fi.up_digit b h2]
theorem Fi.low_val (l:List UInt8) (h:Fi.good l=true):0≤Fi.val l∧Fi.val l<((16 ^ l.length:Nat):Int)∧(Fi.low l.length (Fi.val l).toNat).map Fi.up=l:=Fi.low_val' _ l rfl h
theorem Fi.hex_text (c:Nat) (h:c≤1114111):Fi.hex (Fi.text c)=some (c:Int):=by
 have hv:Fi.val (Fi.text c)=c:=by
  unfold Fi.text
  rw[Fi.val_low]
  have h1:=Fi.lt_nd c
  have h2:16 ^ Fi.nd c≤16 ^ max 4 (Fi.nd c):=Y5 (by decide) (by omega)
  rw[Xv (by omega)]
 have hg:Fi.good (Fi.text c)=true:=Fi.good_low _ _
 have hl:=Fi.text_le c h
 have ah:=Fi.text_len c
 have aa:Fi.long (Fi.text c)=true:=by
  unfold Fi.long
  rw[Zn (by omega),Zn hl,YU,YU]
  rcases ZX 4 (Fi.text c).length with h4|h4
  · rw[Zn h4,YU]
    have af:max 4 (Fi.nd c)=Fi.nd c:=by omega
    obtain⟨k,hk⟩:∃k,Fi.nd c=k+1:=⟨Fi.nd c-1,by have:=Fi.nd_pos c;omega⟩
    unfold Fi.text
    rw[af,hk,Fi.low_cons,ZT]
    have h1:=Fi.lt_nd c
    rw[hk,YY]at h1
    have h2:c/16 ^ k<16:=Nat.div_lt_of_lt_mul (by omega)
    have h3:16 ^ k≤c:=by
     rcases ZX c (16 ^ k) with ae|hge
     · have ag:1≤k:=by omega
       have:=Fi.nd_le (k-1) c (by rw[show k-1+1=k by omega];exact ae)
       omega
     · exact hge
    have h4:0<c/16 ^ k:=Nat.div_pos h3 (Nat.pow_pos (by decide))
    rw[Xv h2]
    have key:∀d:Fin 16,0<d.val→Fi.up d.val≠48:=by decide
    have:=key ⟨c/16 ^ k,h2⟩ h4
    simp[this]
  · rw[Zo (by omega)];rfl
 unfold Fi.hex
 rw[aa,hg,hv,Zn (by omega)]
 rfl
def Fi.Laid (w:World):Prop:=(∃m:Int,w.cell? ⟨1,0,none⟩=some (.int .i64 m))∧w.cell? ⟨9,15,none⟩=some (.int .u8 4)
theorem Fi.pow2_any (w:World):Calls Tryz.prog 226 #[.int .i64 16] w fun e w'=>e=.returned (.bool true)∧w'=w:=by
 have h:bits .and .i64 16 15=0:=by decide +kernel
 go_enter Tryz.func226,Tryz.ntmps226
 go_wp2
 go_ret
 exact⟨by simp[h],rfl⟩
set_option maxHeartbeats 1000000 in
theorem Fi.tz64_any (w:World) (hL:Fi.Laid w):Calls Tryz.prog 244 #[.int .u64 16] w fun e w'=>e=.returned (.int .i64 4)∧w'=w:=by
 have hc:=hL.2
 have h1:IntKind.u64.wrap (-16)=18446744073709551600:=by decide +kernel
 have h2:bits .and .u64 16 18446744073709551600=16:=by decide +kernel
 clear hL
 go_enter Tryz.func244,Tryz.ntmps244
 go_wp2_with fail
 go_ret
 exact⟨rfl,rfl⟩
theorem Fi.tz_any (w:World) (hL:Fi.Laid w):Calls Tryz.prog 227 #[.int .u64 16] w fun e w'=>e=.returned (.int .i64 4)∧w'=w:=by
 go_enter Tryz.func227,Tryz.ntmps227
 go_wp2_with (refine (Fi.tz64_any _ (by assumption)).mono ?_;rintro e w1 ⟨rfl,rfl⟩)
 go_ret
 exact⟨rfl,rfl⟩
def Fi.dig:ByteArray:=⟨#[48,49,50,51,52,53,54,55,56,57,97,98,99,100,101,102,103,104,105,106,107,108,109,110,111,112,113,114,115,116,117,118,119,120,121,122]⟩
theorem Fi.dig_at:∀d:Fin 16,Fi.dig.data.toList.getD d.val 0=Fi.lo d.val:=by decide
theorem Fi.dig_size:Fi.dig.size=36:=rfl
theorem Fi.dig_idx (W:World) (d:Nat) (h:d<16):(Instr.index 9 (.string ⟨#[48,49,50,51,52,53,54,55,56,57,97,98,99,100,101,102,103,104,105,106,107,108,109,110,111,112,113,114,115,116,117,118,119,120,121,122]⟩) (.int .u64 (d:Int))).run Tryz.prog W=.ok (.int .u8 ((Fi.lo d).toNat:Int)) W:=by
 show (Instr.index 9 (.string Fi.dig) (.int .u64 (d:Int))).run Tryz.prog W=_
 rw[run_index_string W 9 Fi.dig .u64 _ Tryz.underlying9,dif_pos ⟨by omega,by rw[Fi.dig_size];omega⟩]
 have e:((d:Int)).toNat=d:=by omega
 simp only[e]
 rw[Lib.getD_at Fi.dig d (by rw[Fi.dig_size];omega),Fi.dig_at ⟨d,h⟩]
def Fi.arr (c k j:Nat):Int:=if 65-k≤j then ((Fi.lo (c/16 ^ (64-j)%16)).toNat:Int) else 0
def Fi.Arr (W:World) (B c k:Nat):Prop:=(∀j,j<65→W.cell? ⟨B,j,none⟩=some (.int .u8 (Fi.arr c k j))∧W.frozen? ⟨B,j,none⟩=false)
theorem Fi.Arr.put {W:World} {B c k:Nat} (h:Fi.Arr W B c k) (hk:k<65) (v:Nat) (hv:(Fi.lo (c/16 ^ k%16)).toNat=v):Fi.Arr (W.setCell ⟨B,64-k,none⟩ (.int .u8 (v:Int))) B c (k+1):=by
 intro j hj
 refine⟨?_,by rw[World.frozen?_setCell];exact (h j hj).2⟩
 rcases Nat.decEq j (64-k) with hne|rfl
 · rw[World.cell?_setCell_other _ _ _ _ (by simp;try omega),(h j hj).1]
   unfold Fi.arr
   by_cases h1:65-k≤j
   · rw[Zp h1,Zp (by omega)]
   · rw[Zl h1,Zl (by omega)]
 · rw[World.cell?_setCell_same _ _ _ (h _ hj).1]
   unfold Fi.arr
   rw[Zp (by omega),show 64-(64-k)=k by omega,hv]
theorem Fi.zero_at (j:Fin 65):(Tryz.zeroCells304)[j.val]?=some (.int .u8 0):=by
 have e:Tryz.zeroCells304=Array.replicate 65 (.int .u8 0):=by kernel_rfl
 rw[e];simp[j.isLt]
theorem Fi.Laid.alloc {w:World} (h:Fi.Laid w) (o:Obj):Fi.Laid (w.alloc o):=by
 obtain⟨⟨m,h1⟩,h2⟩:=h
 exact⟨⟨m,by rw[World.cell?_alloc_lt _ _ _ (YT w _ h1)];exact h1⟩,by rw[World.cell?_alloc_lt _ _ _ (YT w _ h2)];exact h2⟩
set_option maxRecDepth 100000 in
set_option maxHeartbeats 4000000 in
theorem Fi.bits_any (c:Nat) (hc:c<16777216) (w:World) (hL:Fi.Laid w) :
 Calls Tryz.prog 196 #[.slice none 0 0,.int .u64 c,.int .i64 16,.bool false,.bool false] w fun e w'=>e=.returned (.tuple #[.slice none 0 0,.string ⟨((Fi.low (Fi.nd c) c).map Fi.lo).toArray⟩])∧Below w.heap.size w w':=by
 obtain⟨W1,ae⟩:∃W1,w.alloc (Obj.cells Tryz.zeroCells304 304)=W1:=⟨_,rfl⟩
 have L1:Fi.Laid W1:=by rw[←ae];exact hL.alloc _
 have B1:Below w.heap.size w W1:=by rw[←ae];exact (Zd _ _).alloc (Zb _) _
 have A1:Fi.Arr W1 w.heap.size c 0:=by
  rw[←ae]
  intro j hj
  refine⟨?_,World.frozen?_alloc_new _ _ _ _⟩
  rw[World.cell?_alloc_new,Fi.zero_at ⟨j,hj⟩]
  unfold Fi.arr
  rw[Zl (by omega)]
 have S1:w.heap.size<W1.heap.size:=by rw[←ae];simp
 obtain⟨B,hB⟩:∃B,w.heap.size=B:=⟨_,rfl⟩
 have ao:=Za hB
 rw[hB]at B1 A1 S1
 have HW:=Za ae
 have HB:=Za B1
 have HA:=Za A1
 have hq:1≤Fi.nd c∧Fi.nd c≤6:=⟨Fi.nd_pos c,Fi.nd_le 5 c (by rw[show (16:Nat) ^ (5+1)=16777216 from by decide];exact hc)⟩
 clear ae B1 A1 hL
 go_enter Tryz.func196,Tryz.ntmps196
 go_upto_region 7 with (fail)
 rw[HW.out]
 go_wp2_with (fail)
 refine (Fi.pow2_any _).mono ?_
 rintro e w1 ⟨rfl,rfl⟩
 go_wp2_with (fail)
 refine (Fi.tz_any _ L1).mono ?_
 rintro e w2 ⟨rfl,rfl⟩
 go_wp2_with (fail)
 go_loopw [1,13] (fun vu vi wr=>∃k x:Nat,vu=.int .u64 x∧vi=.int .i64 (65-(k:Int))∧k+1≤Fi.nd c∧x=c/16 ^ k∧Fi.Arr wr B c k∧Below B w wr∧B<wr.heap.size) (fun vu _ _=>(intOf vu).toNat)
 case atStart=>exact⟨0,c,rfl,rfl,by omega,by simp,HA.out,HB.out,S1⟩
 case round =>
  obtain⟨k,x,rfl,rfl,hk,hx,hA,ah,hS⟩:=hrel
  obtain⟨w3,rfl⟩:∃w3:World,w3=wr:=⟨_,rfl⟩
  have hd:x%16<16:=by omega
  have a7:x<16777216:=by
   have:=Nat.div_le_self c (16 ^ k)
   omega
  have ay:(0:Int)≤65-(k:Int)-1:=by omega
  have ap:(65-(k:Int)-1)<65:=by omega
  have hz:(65-(k:Int)-1).toNat=64-k:=by omega
  obtain⟨d,hdd⟩:∃d,x%16=d:=⟨_,rfl⟩
  rw[hdd]at hd
  have HK:=Za hk
  have HX:=Za hx
  have ag:=Za ah
  have HD:=Za hdd
  obtain⟨v,hv⟩:∃v,(Fi.lo d).toNat=v:=⟨_,rfl⟩
  have hA2:Fi.Arr (w3.setCell ⟨B,64-k,none⟩ (.int .u8 (v:Int))) B c (k+1):=hA.put (by omega) v (by rw[←hx,hdd,hv])
  have hcell:=(hA (64-k) (by omega)).1
  have aj:=(hA (64-k) (by omega)).2
  have av:=Za hA2
  have au:∀W,(Instr.index 9 (.string ⟨#[48,49,50,51,52,53,54,55,56,57,97,98,99,100,101,102,103,104,105,106,107,108,109,110,111,112,113,114,115,116,117,118,119,120,121,122]⟩) (.int .u64 (d:Int))).run Tryz.prog W=.ok (.int .u8 (v:Int)) W:=fun W=>by rw[←hv];exact Fi.dig_idx W d hd
  by_cases hge:(x:Int)≥16
  · have a1:bits .and .u64 (x:Int) 15=(d:Int):=by
     rw[show (15:Int)=((15:Nat):Int) from rfl,u64_and_nat x 15 (by omega) (by omega),show 15=2 ^ 4-1 from rfl,YK,←hdd]
    have az:((x:Int)).fdiv (2 ^ min (Int.toNat 4) IntKind.u64.bits)=((x/16:Nat):Int):=by
     rw[show (2:Int) ^ min (Int.toNat 4) IntKind.u64.bits=16 from rfl,Int.fdiv_eq_ediv_of_nonneg _ (by decide)]
     omega
    have aa:k+2≤Fi.nd c:=by
     have h1:16 ^ (k+1)≤c:=by
      have aq:16≤c/16 ^ k:=by rw[←hx];omega
      have:=(Nat.le_div_iff_mul_le (Nat.pow_pos (by decide):0<16 ^ k)).1 aq
      rw[YY];omega
     have:=Fi.nd_ge c (k+1) h1
     omega
    have ak:x/16=c/16 ^ (k+1):=by rw[hx,Nat.div_div_eq_div_mul,←YY]
    have aw:=Za ak
    have ar:=Za aa
    clear hA hA2 hx ah hdd hv hk ak aa
    go_wp2_with (fail)
    exact⟨⟨k+1,x/16,by go_num,by go_num,ar.out,aw.out,av.out,ag.out.setCell (Nat.le_refl _) _,by simpa [World.setCell] using hS⟩,by simp[intOf];omega⟩
  · have ax:d=x:=by omega
    subst ax
    have aa:Fi.nd c=k+1:=by
     have:Fi.nd c≤k+1:=Fi.nd_le k c (by
      have h1:c/16 ^ k<16:=by rw[←hx];omega
      have:=(Nat.div_lt_iff_lt_mul (Nat.pow_pos (by decide):0<16 ^ k)).1 h1
      rw[YY];omega)
     omega
    have af:Tryz.prog.arrayLen 304=65:=by kernel_rfl
    have a6:∀W,(Instr.sliceAt 304 (.pointer (some ⟨B,0,none⟩)) (some (.int .i64 (65-(k:Int)-1))) none none).run Tryz.prog W=.ok (.slice (some ⟨B,64-k,none⟩) (k+1) (k+1)) W:=fun W=>by
     rw[run_sliceAt_array_l W 304 ⟨B,0,none⟩ (by kernel_rfl) .i64 (65-(k:Int)-1) (by omega) (by rw[af];omega),af]
     go_simp
     omega
    have hcv:(convert 77 9 (.slice (some ⟨B,64-k,none⟩) (k+1) (k+1))).run Tryz.prog (w3.setCell ⟨B,64-k,none⟩ (.int .u8 (v:Int)))=.ok (.string ⟨((Fi.low (Fi.nd c) c).map Fi.lo).toArray⟩) (w3.setCell ⟨B,64-k,none⟩ (.int .u8 (v:Int))):=by
     have hlen:((Fi.low (Fi.nd c) c).map Fi.lo).length=k+1:=by rw[Zg,Fi.low_len,aa]
     have h:=run_convert_bytes_back (P:=Tryz.prog) (w3.setCell ⟨B,64-k,none⟩ (.int .u8 (v:Int))) 77 9 5 ⟨B,64-k,none⟩ (k+1) ((Fi.low (Fi.nd c) c).map Fi.lo) Tryz.underlying77 Tryz.underlying5 Tryz.underlying9 (fun j hj=>by
      rw[hlen]at hj
      rw[Lib.add_plain,(hA2 (64-k+j) (by omega)).1]
      unfold Fi.arr
      rw[Zp (by omega),show 64-(64-k+j)=k-j by omega]
      congr 2
      have ai:(Fi.low (Fi.nd c) c)[j]?=some (c/16 ^ (k-j)%16):=by
       rw[aa,Fi.low_get (k+1) c j (by omega)]
       congr 3
      rw[List.getElem_map,(List.getElem?_eq_some_iff.1 ai).2])
     rw[hlen]at h
     exact h
    clear af hA hA2 hx ah hdd hv hk aa
    go_wp2_with (fail)
    go_ret2
    exact⟨rfl,by first|exact ag.out.setCell (Zb _) _|(rw[ao.out];exact ag.out.setCell (Zb _) _)⟩
theorem Fi.format_any (c:Nat) (hc:c<16777216) (w:World) (hL:Fi.Laid w) :
 Calls Tryz.prog 125 #[.int .i64 c,.int .i64 16] w fun e w'=>e=.returned (.string ⟨((Fi.low (Fi.nd c) c).map Fi.lo).toArray⟩)∧Below w.heap.size w w':=by
 have inner:∀w:World,Fi.Laid w→Calls Tryz.prog 160 #[.int .i64 c,.int .i64 16] w fun e w'=>e=.returned (.string ⟨((Fi.low (Fi.nd c) c).map Fi.lo).toArray⟩)∧Below w.heap.size w w':=by
  intro w hL
  have aa:¬(c:Int)<0:=by omega
  go_enter Tryz.func160,Tryz.ntmps160
  go_wp2_with (refine (Fi.bits_any c hc _ (by assumption)).mono ?_;rintro e w1 ⟨rfl,hb⟩)
  go_ret
  exact⟨rfl,hb⟩
 go_enter Tryz.func125,Tryz.ntmps125
 go_wp2_with (refine (inner _ (by assumption)).mono ?_;rintro e w1 ⟨rfl,hb⟩)
 go_ret
 exact⟨rfl,hb⟩
end Go.Proofs.YtikiplbhlohmdaaGreatDoor
