/- The layer cpset: merge, by walking its text. -/
import Derived.Test.YtbeakahjbkdeiaaGreatDoorAl1
import Derived.Test.YtbeakahjbkdeiaaGreatDoorMap
import Derived.Deep.RegionHeld3
import Derived.Deep.AppendLies
import Derived.Test.YtbeakahjbkdeiaaGreatDoorSlt
import Derived.Lib.SlicesCompact
namespace Go.Proofs.YtbeakahjbkdeiaaGreatDoor
open Go.RowKit
set_option linter.unusedSimpArgs false
set_option linter.unusedVariables false
theorem C.enter' {P:Program} {f:FuncId} {fn:Func} (hf:P.funcs[f]?=some fn) (aa:(fn.name == "runtime.NumGoroutine")=false) (hb:fn.body.isNone=false) (args:Array Value) (w:World) :
 (callFunc f args).run P w=.ok (.enter f args) w:=by
 rcases h:fn.body with _|c
 · rw[h]at hb;cases hb
 · exact C.enter hf aa h args w
theorem infoRange:(Tryz.prog.info? 228).map (fun i=>(i.zero,i.size,i.bytes))=some (some (.agg #[.int .i32 0,.int .i32 0]),2,8):=by kernel_rfl
def C.fl (k:IntKind):List (Int × Int)→List Value
 | []=>[]
 | (x,y)::t=>.int k x::.int k y::C.fl k t
theorem C.fl_len (k:IntKind):∀rs,(C.fl k rs).length=2*rs.length
 | []=>rfl
 | (x,y)::t=>by show (C.fl k t).length+1+1=2*(t.length+1);rw[C.fl_len k t];omega
theorem C.fl_app (k:IntKind):∀a b,C.fl k (a++b)=C.fl k a++C.fl k b
 | [],b=>rfl
 | (x,y)::t,b=>by show _::_::C.fl k (t++b)=_;rw[C.fl_app k t b];rfl
theorem C.fl_get (k:IntKind):∀(rs:List (Int × Int)) (i:Nat) (r:Int × Int),rs[i]?=some r→(C.fl k rs)[2*i]?=some (.int k r.1)∧(C.fl k rs)[2*i+1]?=some (.int k r.2)
 | [],i,r,h=>by simp at h
 | (x,y)::t,0,r,h=>by simp at h;subst h;exact⟨rfl,rfl⟩
 | (x,y)::t,i+1,r,h=>by
  have:=C.fl_get k t i r (by simpa using h)
  rw[show 2*(i+1)=2*i+1+1 by omega]
  exact this
theorem own_ne {w:World} {base:Nat} {e:TypeId} {size n:Nat} {v:Value} {xs:List Value} (h:w.ownsRow base e size v n xs) (g:Nat) (hg:g<base):v.ownBlock≠some g:=fun hk=>by have:=(h.lt _ hk).1;omega
def RetRngs (rs:List (Int × Int)) (w:World) (e:Ending) (w':World):Prop :=
 ∃A c,e=.returned (.slice A rs.length c)∧w'.ownsRow w.heap.size 228 2 (.slice A rs.length c) rs.length (C.fl .i32 rs)∧Below w.heap.size w w'
set_option maxRecDepth 100000 in
set_option maxHeartbeats 1000000 in
theorem C.ranges_any (A:Option Addr) (c n B:Nat) (l:List Int) (w:World) (hn:l.length=n) (bk:n≤1000000) (bq:n%2=0) (ax:∀x∈l,0≤x∧x≤1114112) (hB:B≤w.heap.size) (hA:Sl w B A (l.map (Value.int .i32))) :
 Calls Tryz.prog 148 #[.agg #[.slice A n c]] w (RetRngs (C.rngs l) w):=by
 have HN:=Za hn
 have au:=Za ax
 have HL:=Za (C.rngs_len l)
 clear hn ax
 obtain⟨j0,hj0,bb,ba,bc⟩:=Yf infoRange
 go_enter Tryz.func148,Tryz.ntmps148
 go_wp2
 go_loopw [4,3] (fun vi v wr=>∃j k:Nat,k≤2*j∧2*j≤k∧k≤n∧vi=.int .i64 (k:Int)∧wr.ownsRow (w.heap.size+1) 228 2 v j (C.fl .i32 ((C.rngs l).take j))∧Below (w.heap.size+1) (w.alloc (.cells #[.slice A n c] 113)) wr) (fun vi _ _=>n-(intOf vi).toNat)
 case atStart=>exact⟨0,0,by omega,by omega,by omega,rfl,ZG _ _ _ _,Zd _ _⟩
 case round =>
  obtain⟨j,k,bn,bi,hj,rfl,aa,af⟩:=hrel
  have a7:w.heap.size+1≤wr.heap.size:=by have:=af.size;simpa using this
  obtain⟨aj,ar⟩:=ret_blk af
  obtain⟨bh,bl⟩:=blk_cell aj 0
  simp only[List.getElem?_toArray,YM]at bh
  clear aj
  by_cases hlt:k<n
  · obtain⟨x,hx⟩:∃x,l[k]?=some x:=⟨_,Zc (by rw[HN.out];omega)⟩
    obtain⟨y,hy⟩:∃y,l[k+1]?=some y:=⟨_,Zc (by rw[HN.out];omega)⟩
    have a6:=au.out x (Zk hx)
    have bg:=au.out y (Zk hy)
    obtain⟨bo,aq⟩:=a6
    obtain⟨bp,bj⟩:=bg
    obtain⟨b,o,rfl,bm,a1,ay⟩:=hA.ints hx
    have az:=ay _ _ hy
    rw[←(bcell ar).1 _ _ (by omega)]at a1 az
    have ak:=own_ne aa w.heap.size (by omega)
    have ah:=own_ne aa b (by omega)
    clear ay hA
    have hg:(C.rngs l)[j]?=some (x,y-1):=by
     obtain rfl:k=2*j:=by omega
     rw[C.rngs_get l j (by rw[HN.out];omega)]
     rw[Zc (by rw[HN.out];omega)]at hx hy
     simp only[Zg]at hx hy
     rw[hx,hy]
    have HG:=Za hg
    have g1:(k:Int)<n:=by omega
    clear hg hx hy
    go_wp2
    have ao:=Za (Sl.lit (w:=(wr.alloc (.cells #[.int .i32 x,.int .i32 (y-1)] 228)).drew) (A:=some ⟨wr.heap.size,0,none⟩) (xs:=[.int .i32 x,.int .i32 (y-1)]) rfl 228 (0,0) (ZT wr _))
    have ag:=(aa.alloc (.cells #[.int .i32 x,.int .i32 (y-1)] 228)).drew
    have av:Below (w.heap.size+1) (w.alloc (.cells #[.slice (some ⟨b,o,none⟩) n c] 113)) ((wr.alloc (.cells #[.int .i32 x,.int .i32 (y-1)] 228)).drew):=(af.alloc a7 _).drew
    have ap:=Za av
    clear av
    have q1:(0:Int)≤(k:Int)+1:=by omega
    have q2:(k:Int)+1<n:=by omega
    have q3:((k:Int)+1).toNat=k+1:=by omega
    have q4:(0:Int)≤(k:Int):=by omega
    have aw:w.heap.size+1≤((wr.alloc (.cells #[.int .i32 x,.int .i32 (y-1)] 228)).drew).heap.size:=by have:=ap.out.size;simpa using this
    have bf:IntKind.i64.wrap ((k:Int)+1)=(k:Int)+1:=by rw[Z1];omega
    have a8:IntKind.i32.wrap (y-1)=y-1:=by rw[XE];omega
    go_region_held3 (fun w'=>w'.cell? ⟨w.heap.size,0,none⟩=some (.slice (some ⟨b,o,none⟩) n c)∧w'.cell? ⟨b,o+k,none⟩=some (.int .i32 x)∧w'.cell? ⟨b,o+(k+1),none⟩=some (.int .i32 y)) (first
    | go_keep
    | (go_split_ands
       refine⟨?_,?_,?_⟩
       · (rw[ae.cell_far _ (by simp;omega) (Z6 ak)];assumption)
       · (rw[ae.cell_far _ (by simp;omega) (Z6 ah)];assumption)
       · (rw[ae.cell_far _ (by simp;omega) (Z6 ah)];assumption)))
     ((refine step_appendSl _ (by rfl) _ _ _ (by rfl) (w.heap.size+1) 228 j0 _ 2 8 Tryz.underlying225 hj0 bb ba bc rfl (by omega) _ j _ (by rfl) ag _ (some ⟨wr.heap.size,0,none⟩) 1 1 [.int .i32 x,.int .i32 (y-1)] (by rfl) (by rfl) ao.out (by simp[Value.oneCell']) (by simp only[maxLen];omega) (by omega) aw ?_;intro v1 w2 ai aq ae))
    clear q1 q2 q3 q4 bf a8 aw
    go_wp2
    refine⟨⟨j+1,k+2,by omega,by omega,by omega,by go_num,?_,ap.out.trans aq⟩,by simp[intOf];omega⟩
    rw[Zr,HG.out,C.fl_app]
    exact ai
  · obtain rfl:k=n:=by omega
    have g1:¬(k:Int)<k:=by omega
    have e0:(C.rngs l).take j=C.rngs l:=Zj (by rw[HL.out,HN.out];omega)
    have e1:j=(C.rngs l).length:=by rw[HL.out,HN.out];omega
    rw[e0]at aa
    have E1:=Za e1
    clear e0 e1
    obtain⟨A5,c5,rfl⟩:=own_form aa
    go_wp2
    go_ret
    refine⟨A5,c5,Z5 (fun q=>Ending.returned (.slice A5 q c5)) E1.out,?_,ar⟩
    rw[←E1.out]
    exact own_base aa (by omega)
end Go.Proofs.YtbeakahjbkdeiaaGreatDoor
namespace Go.Proofs.YtbeakahjbkdeiaaGreatDoor
set_option linter.unusedSimpArgs false
set_option linter.unusedVariables false
def C.part:List Int→Nat→Int
 | _,0=>0
 | x::y::t,i+1=>y-x+C.part t i
 | _,_=>0
theorem C.part0 (l:List Int):C.part l 0=0:=by unfold C.part;rfl
theorem C.ok_tail {x y:Int} {t:List Int} (h:C.ok (x::y::t)):C.ok t :=
 ⟨C.srt_tail (C.srt_tail h.1),fun z hz=>h.2.1 z (by simp[hz]),by have:=h.2.2;simp at this;omega⟩
theorem C.part_step:∀{l:List Int} {i:Nat} {r:Int × Int},C.ok l→(C.rngs l)[i]?=some r→C.part l (i+1)=C.part l i+(r.2-r.1+1)
 | [],i,r,_,h=>by simp[C.rngs]at h
 | [x],i,r,_,h=>by simp[C.rngs]at h
 | x::y::t,0,r,_,h=>by
   simp[C.rngs]at h
   subst h
   show y-x+C.part t 0=0+(y-1-x+1)
   rw[show C.part t 0=0 by cases t <;> rfl]
   omega
 | x::y::t,i+1,r,hk,h=>by
   have:=C.part_step (C.ok_tail hk) (show (C.rngs t)[i]?=some r from h)
   show y-x+C.part t (i+1)=y-x+C.part t i+_
   rw[this];omega
theorem C.part_bd:∀{l:List Int} (_:C.ok l) (i:Nat),0≤C.part l i∧C.part l i≤C.count l
 | [],_,i=>by cases i <;> exact⟨YL _,YL _⟩
 | [x],h,_=>by have:=h.2.2;simp at this
 | x::y::t,h,0=>⟨YL _,(C.count_bd h).1⟩
 | x::y::t,h,i+1=>by
   have aa:=C.srt_head h.1 y (by simp)
   have:=C.part_bd (C.ok_tail h) i
   show 0≤y-x+C.part t i∧y-x+C.part t i≤y-x+C.count t
   omega
theorem C.rng_bd:∀{l:List Int} {i:Nat} {r:Int × Int},C.ok l→(C.rngs l)[i]?=some r→0≤r.1∧r.1≤r.2∧r.2≤1114111∧r.1≤1114111
 | [],i,r,_,h=>by simp[C.rngs]at h
 | [x],i,r,_,h=>by simp[C.rngs]at h
 | x::y::t,0,r,hk,h=>by
   simp[C.rngs]at h
   subst h
   have aa:=C.srt_head hk.1 y (by simp)
   have h1:=hk.2.1 x (by simp)
   have h2:=hk.2.1 y (by simp)
   dsimp only
   omega
 | x::y::t,i+1,r,hk,h=>C.rng_bd (C.ok_tail hk) (show (C.rngs t)[i]?=some r from h)
end Go.Proofs.YtbeakahjbkdeiaaGreatDoor
namespace Go.Proofs.YtbeakahjbkdeiaaGreatDoor
open Go.RowKit
set_option linter.unusedSimpArgs false
set_option linter.unusedVariables false
theorem Sl.pair {w:World} {B:Nat} {A:Option Addr} {k:IntKind} {rs:List (Int × Int)} (h:Sl w B A (C.fl k rs)) {i:Nat} {r:Int × Int} (hr:rs[i]?=some r) :
 ∃b o,A=some ⟨b,o,none⟩∧b<B∧w.cell? ⟨b,o+i*2,none⟩=some (.int k r.1)∧w.cell? ⟨b,o+i*2+1,none⟩=some (.int k r.2):=by
 have hi:i<rs.length:=(List.getElem?_eq_some_iff.1 hr).1
 obtain⟨b,o,hA,hb,hc⟩:=h (by rw[C.fl_len];omega)
 obtain⟨h0,h1⟩:=C.fl_get k rs i r hr
 refine⟨b,o,hA,hb,?_,?_⟩
 · rw[Nat.mul_comm,hc _ (by rw[C.fl_len];omega),h0]
 · rw[Nat.mul_comm,Yh,hc _ (by rw[C.fl_len];omega),h1]
end Go.Proofs.YtbeakahjbkdeiaaGreatDoor
namespace Go.Proofs.YtbeakahjbkdeiaaGreatDoor
set_option linter.unusedSimpArgs false
set_option linter.unusedVariables false
set_option linter.unusedSectionVars false
def C.inR (rs:List (Int × Int)) (c:Int):Bool:=rs.any fun r=>decide (r.1≤c∧c≤r.2)
theorem C.rngs_mem:∀(l:List Int),C.ok l→∀c,C.inR (C.rngs l) c=C.mem l c
 | [],_,c=>rfl
 | [x],h,c=>by have:=h.2.2;simp at this
 | x::y::t,h,c=>by
   have ih:=C.rngs_mem t (C.ok_tail h) c
   have aa:=C.srt_head h.1 y (by simp)
   show (decide (x≤c∧c≤y-1)||C.inR (C.rngs t) c)=_
   rw[ih,C.mem_cons,C.mem_cons]
   by_cases h1:x≤c
   · by_cases h2:y≤c
     · rw[Zu (by omega),Zo h1,Zo h2];simp
     · have hm:C.mem t c=false:=C.mem_low' (C.srt_tail h.1) (by omega)
       rw[Zo (show x≤c∧c≤y-1 by omega),Zo h1,Zu h2,hm];rfl
   · have hm:C.mem t c=false:=C.mem_low' (C.srt_tail h.1) (by omega)
     rw[Zu (by omega),Zu h1,hm];rfl
section
variable {S:List Int} (hS:C.ok S) (hC:∀c,C.mem S c=true→C.isC c=true) {d:Int} (h0:0≤d) (h1:d≤1114111)
include hS hC h0 h1
end
end Go.Proofs.YtbeakahjbkdeiaaGreatDoor
namespace Go.Proofs.YtbeakahjbkdeiaaGreatDoor
open Go.RowKit
set_option linter.unusedSimpArgs false
set_option linter.unusedVariables false
def C.ins (x:Int):List Int→List Int
 | []=>[x]
 | y::t=>if x<y then x::y::t else if x=y then y::t else y::C.ins x t
end Go.Proofs.YtbeakahjbkdeiaaGreatDoor
namespace Go.Proofs.YtbeakahjbkdeiaaGreatDoor
set_option linter.unusedSimpArgs false
set_option linter.unusedVariables false
theorem C.mem_snoc:∀(l:List Int) (x c:Int),C.srt (l++[x])→C.mem (l++[x]) c=(C.mem l c ^^ decide (x≤c))
 | [],x,c,_=>by simp[C.mem]
 | y::t,x,c,h=>by
   have ih:=C.mem_snoc t x c (C.srt_tail h)
   have aa:=C.srt_head h x (by simp)
   rw[ZP,C.mem_cons,ih,C.mem_cons]
   by_cases hy:y≤c
   · rw[Zo hy]
     cases C.mem t c <;> cases decide (x≤c) <;> rfl
   · rw[Zu hy,Zu (by omega)];rfl
theorem C.srt_snoc {l:List Int} {x:Int} (h:C.srt l) (hx:∀y∈l,y<x):C.srt (l++[x]):=by
 unfold C.srt
 rw[List.pairwise_append]
 exact⟨h,List.pairwise_singleton _ _,fun a ha b hb=>by simp at hb;subst hb;exact hx a ha⟩
def C.step (p:Int→Bool) (acc:List Int) (a b:Int):List Int :=
 if p a=true then (if acc.getLast?=some a then acc.dropLast++[b] else acc++[a,b]) else acc
def C.upto (p:Int→Bool) (acc:List Int) (a:Int):Prop :=
 C.srt acc∧acc.length%2=0∧(∀x∈acc,x≤a)∧∀c,C.mem acc c=(p c&&decide (c<a))
theorem C.upto_step {p:Int→Bool} {acc:List Int} {a b:Int} (h:C.upto p acc a) (ak:a<b) (hp:∀c,a≤c→c<b→p c=p a):C.upto p (C.step p acc a b) b:=by
 obtain⟨h1,h2,h3,h4⟩:=h
 unfold C.step
 have key:∀c,p a=true→((p c&&decide (c<a)) ^^ decide (a≤c) ^^ decide (b≤c))=(p c&&decide (c<b)):=by
  intro c ae
  by_cases ha:a≤c
  · by_cases hb:b≤c
    · rw[Zo ha,Zo hb,Zu (show ¬c<a by omega),Zu (show ¬c<b by omega)];simp
    · rw[Zo ha,Zu hb,Zu (show ¬c<a by omega),Zo (show c<b by omega),hp c ha (by omega),ae];rfl
  · rw[Zu ha,Zu (show ¬b≤c by omega),Zo (show c<a by omega),Zo (show c<b by omega)];simp
 split
 · rename_i ae
   split
   · rename_i hl
     obtain⟨l,rfl⟩:∃l,acc=l++[a]:=by
      obtain⟨l,ai⟩:=List.getLast?_eq_some_iff.1 hl
      exact⟨l,ai⟩
     rw[List.dropLast_concat]
     have aj:C.srt l:=(List.pairwise_append.1 h1).1
     have aa:∀y∈l,y<a:=fun y hy=>(List.pairwise_append.1 h1).2.2 y hy a (by simp)
     have af:=C.srt_snoc aj (x:=b) (fun y hy=>by have:=aa y hy;omega)
     refine⟨af,by simpa using h2,?_,?_⟩
     · intro x hx
       rcases List.mem_append.1 hx with hx|hx
       · have:=aa x hx;omega
       · simp at hx;omega
     · intro c
       rw[C.mem_snoc _ _ _ af,←key c ae,←h4 c,C.mem_snoc _ _ _ h1]
       cases C.mem l c <;> cases decide (a≤c) <;> cases decide (b≤c) <;> rfl
   · rename_i hl
     have aa:∀y∈acc,y<a:=by
      intro y hy
      rcases Int.lt_or_le y a with h'|h'
      · exact h'
      · exfalso
        have ah:y=a:=by have:=h3 y hy;omega
        subst ah
        rcases YI acc with rfl|⟨l,z,rfl⟩
        · cases hy
        · rw[YJ]at *
          have hz:=h3 z (by simp)
          rcases List.mem_append.1 hy with hy|hy
          · have:=(List.pairwise_append.1 h1).2.2 y hy z (by simp);omega
          · simp at hy
            subst hy
            exact hl (by simp)
     have ag:=C.srt_snoc h1 aa
     have af:=C.srt_snoc ag (x:=b) (fun y hy=>by
      rcases List.mem_append.1 hy with hy|hy
      · have:=aa y hy;omega
      · simp at hy;omega)
     have e:acc++[a,b]=(acc++[a])++[b]:=by simp
     rw[e]
     refine⟨af,by simp;omega,?_,?_⟩
     · intro x hx
       simp at hx
       rcases hx with hx|hx|hx
       · have:=aa x hx;omega
       · omega
       · omega
     · intro c
       rw[C.mem_snoc _ _ _ af,C.mem_snoc _ _ _ ag,h4 c,key c ae]
 · rename_i ae
   refine⟨h1,h2,fun x hx=>by have:=h3 x hx;omega,fun c=>?_⟩
   rw[h4 c]
   by_cases ha:c<a
   · rw[Zo ha,Zo (by omega)]
   · by_cases hb:c<b
     · have hf:p a=false:=by cases h:p a <;> simp_all
       rw[hp c (by omega) hb,hf];rfl
     · rw[Zu ha,Zu hb]
theorem C.step_new {p:Int→Bool} {acc:List Int} {a b:Int} (hp:p a=true) (h:acc.getLast?≠some a):C.step p acc a b=acc++[a,b]:=by
 unfold C.step
 rw[Zv hp,Zs h]
theorem C.step_no {p:Int→Bool} {acc:List Int} {a b:Int} (hp:p a=false):C.step p acc a b=acc:=by
 unfold C.step
 rw[Zs (by simp[hp])]
theorem C.step_mem {p:Int→Bool} {acc:List Int} {a b x:Int} (h:x∈C.step p acc a b):x∈acc∨x=a∨x=b:=by
 unfold C.step at h
 split at h
 · split at h
   · rcases List.mem_append.1 h with h|h
     · exact .inl (List.dropLast_subset _ h)
     · simp at h;exact .inr (.inr h)
   · rcases List.mem_append.1 h with h|h
     · exact .inl h
     · simp at h
       rcases h with h|h
       · exact .inr (.inl h)
       · exact .inr (.inr h)
 · exact .inl h
theorem C.upto_mono {p:Int→Bool} {acc:List Int} {a c:Int} (h:C.upto p acc a) (aa:a≤c) (hp:∀d,a≤d→d<c→p d=false):C.upto p acc c:=by
 obtain⟨h1,h2,h3,h4⟩:=h
 refine⟨h1,h2,fun x hx=>by have:=h3 x hx;omega,fun d=>?_⟩
 rw[h4 d]
 by_cases h:d<a
 · rw[Zo h,Zo (by omega)]
 · by_cases h':d<c
   · rw[hp d (by omega) h'];rfl
   · rw[Zu h,Zu h']
theorem C.step_isC {p:Int→Bool} {acc:List Int} {c b:Int} (h:p c=C.isC c):C.step p acc c b=C.step C.isC acc c b:=by
 unfold C.step;rw[h]
theorem C.step_bd {acc:List Int} {c:Int} (h:∀x∈acc,0≤x∧x≤1114112):∀x∈C.step C.isC acc c (c+1),0≤x∧x≤1114112:=by
 intro x hx
 cases hc:C.isC c
 · rw[C.step_no hc]at hx;exact h x hx
 · have hb:0≤c∧c≤1114111:=by simp[C.isC]at hc;omega
   rcases C.step_mem hx with hx|rfl|rfl
   · exact h x hx
   · omega
   · omega
def C.chF (cs acc:List Int):List Int:=cs.foldl (fun o c=>C.step C.isC o c (c+1)) acc
theorem C.ch_go {p:Int→Bool}:∀(cs acc:List Int) (a:Int),C.srt cs→(∀c∈cs,a≤c)→(∀d,a≤d→p d=(decide (d∈cs)&&C.isC d))→(∀x∈acc,0≤x∧x≤1114112)→C.upto p acc a →
 (∀x∈C.chF cs acc,0≤x∧x≤1114112)∧∃b,C.upto p (C.chF cs acc) b∧∀d,b≤d→p d=false
 | [],acc,a,_,_,hp,hb,h=>⟨hb,a,h,fun d hd=>by rw[hp d hd];simp⟩
 | c::t,acc,a,hs,hc,hp,hb,h=>by
   have aa:=hc c (by simp)
   have ae:∀z∈t,c<z:=C.srt_head hs
   have h1:=C.upto_mono h aa (fun d d1 d2=>by
    rw[hp d d1]
    have:d∉c::t:=by
     intro hm
     rcases List.mem_cons.1 hm with rfl|hm
     · omega
     · have:=ae d hm;omega
    rw[Zu this];rfl)
   have af:p c=C.isC c:=by rw[hp c aa,Zo (by simp)];rfl
   have h2:=C.upto_step h1 (show c<c+1 by omega) (fun d d1 d2=>by rw[show d=c by omega])
   rw[C.step_isC af]at h2
   show (∀x∈C.chF t (C.step C.isC acc c (c+1)),0≤x∧x≤1114112)∧∃b,C.upto p (C.chF t (C.step C.isC acc c (c+1))) b∧∀d,b≤d→p d=false
   refine C.ch_go t _ (c+1) (C.srt_tail hs) (fun z hz=>by have:=ae z hz;omega) (fun d hd=>?_) (C.step_bd hb) h2
   rw[hp d (by omega)]
   congr 1
   rw[decide_eq_decide]
   constructor
   · intro hm
     rcases List.mem_cons.1 hm with rfl|hm
     · omega
     · exact hm
   · intro hm;simp[hm]
theorem C.ch_spec (cs:List Int) (hs:C.srt cs):C.ok (C.chF cs [])∧∀d,C.mem (C.chF cs []) d=(decide (d∈cs)&&C.isC d):=by
 obtain⟨a,ha⟩:∃a:Int,∀c∈cs,a≤c:=by
  cases cs with
  | nil=>exact⟨0,by simp⟩
  | cons c t=>exact⟨c,fun z hz=>by
     rcases List.mem_cons.1 hz with rfl|hz
     · exact YL _
     · have:=C.srt_head hs z hz;omega⟩
 have h0:C.upto (fun d=>decide (d∈cs)&&C.isC d) [] a:=by
  refine⟨List.Pairwise.nil,rfl,by simp,fun d=>?_⟩
  by_cases hd:d<a
  · have:d∉cs:=fun hm=>by have:=ha d hm;omega
    show false=((decide (d∈cs)&&C.isC d)&&decide (d<a))
    rw[Zu this];rfl
  · show false=((decide (d∈cs)&&C.isC d)&&decide (d<a))
    rw[Zu hd,Bool.and_false]
 obtain⟨hb,b,⟨u1,u2,u3,u4⟩,hz⟩:=C.ch_go cs [] a hs ha (fun d _=>rfl) (by simp) h0
 refine⟨⟨u1,hb,u2⟩,fun d=>?_⟩
 rw[u4 d]
 by_cases hd:d<b
 · rw[Zo hd,Bool.and_true]
 · have:=hz d (by omega)
   rw[this]
   show ((decide (d∈cs)&&C.isC d)&&decide (d<b))=false
   rw[this];rfl
theorem C.arr_get {l:List Int} {j:Nat} (h:j<l.length):l.toArray[j]! = l[j]:=by
 rw[getElem!_pos l.toArray j (by simpa using h)];simp
theorem C.le_of {l:List Int} (hs:l.Pairwise (· ≤ ·)) {i j:Nat} (hij:i≤j) (hj:j<l.length):l[i]'(by omega)≤l[j]:=by
 rcases ZY i j with h|h
 · exact List.pairwise_iff_getElem.1 hs i j (by omega) hj h
 · obtain rfl:i=j:=by omega
   exact YL _
theorem C.cmp_spec (l:List Int) (hs:l.Pairwise (· ≤ ·)):∀m,m≤l.length→C.srt (Lib.compactUpTo l.toArray m)∧∀z,z∈Lib.compactUpTo l.toArray m↔z∈l.take m
 | 0,_=>⟨by simp[Lib.compactUpTo,C.srt],by simp[Lib.compactUpTo]⟩
 | m+1,hm=>by
   obtain⟨h1,h2⟩:=C.cmp_spec l hs m (by omega)
   have ae:m<l.length:=by omega
   have et:l.take (m+1)=l.take m++[l[m]]:=by rw[Yz ae]
   have eg:=C.arr_get ae
   rw[Lib.compactUpTo_succ]
   by_cases hk:m=0∨l[m]≠l[m-1]'(by omega)
   · have aa:Lib.keeps l.toArray m=true:=by
      unfold Lib.keeps
      rw[Yb,eg,C.arr_get (show m-1<l.length by omega)]
      exact hk
     rw[Zv aa,eg]
     refine⟨C.srt_snoc h1 fun y hy=>?_,fun z=>by rw[YZ,h2,et,YZ]⟩
     obtain⟨j,hj,rfl⟩:=Xf ((h2 y).1 hy)
     have af:j<m:=by rw[Zm]at hj;omega
     rw[List.getElem_take]
     rcases hk with rfl|hk
     · omega
     · have a1:=C.le_of hs (i:=j) (j:=m-1) (by omega) (by omega)
       have a2:=C.le_of hs (i:=m-1) (j:=m) (by omega) ae
       omega
   · have h0:m≠0:=fun h=>hk (.inl h)
     have he:l[m]=l[m-1]'(by omega):=by
      rcases Int.decEq l[m] (l[m-1]'(by omega)) with h|h
      · exact absurd (.inr h) hk
      · exact h
     have aa:Lib.keeps l.toArray m=false:=by
      unfold Lib.keeps
      rw[ZX,eg,C.arr_get (show m-1<l.length by omega)]
      exact hk
     rw[aa]
     refine⟨by simpa using h1,fun z=>?_⟩
     rw[et]
     simp only[ZE,Z8,Yk]
     rw[h2,YZ]
     constructor
     · exact .inl
     · rintro (h|h)
       · exact h
       · rw[Zy]at h
         subst h
         rw[he]
         have:l[m-1]'(by omega)=(l.take m)[m-1]'(by rw[Zm];omega):=by rw[List.getElem_take]
         rw[this]
         exact List.getElem_mem _
def C.once (l:List Int):List Int:=Lib.compactUpTo (l.mergeSort fun x y=>decide (x≤y)).toArray l.length
theorem C.once_spec (l:List Int):C.srt (C.once l)∧∀z,z∈C.once l↔z∈l:=by
 have hs:(l.mergeSort fun x y=>decide (x≤y)).Pairwise (· ≤ ·):=by
  have h:=List.pairwise_mergeSort (le:=fun x y:Int=>decide (x≤y)) (by intro a b c h1 h2;simp at *;omega) (by intro a b;simp;omega) l
  exact h.imp (by intro a b h;simpa using h)
 obtain⟨h1,h2⟩:=C.cmp_spec _ hs l.length (by simp)
 refine⟨h1,fun z=>?_⟩
 unfold C.once
 rw[h2,Zj (by simp)]
 exact (List.mergeSort_perm l _).mem_iff
def C.chars (l:List Int):List Int:=C.chF (C.once l) []
theorem C.chars_spec (l:List Int):C.ok (C.chars l)∧∀d,C.mem (C.chars l) d=(decide (d∈l)&&C.isC d):=by
 obtain⟨h1,h2⟩:=C.once_spec l
 obtain⟨h3,h4⟩:=C.ch_spec (C.once l) h1
 refine⟨h3,fun d=>?_⟩
 show C.mem (C.chF (C.once l) []) d=_
 rw[h4 d]
 congr 1
 rw[decide_eq_decide]
 exact h2 d
end Go.Proofs.YtbeakahjbkdeiaaGreatDoor
namespace Go.Proofs.YtbeakahjbkdeiaaGreatDoor
open Go.RowKit
set_option linter.unusedSimpArgs false
set_option linter.unusedVariables false
structure Ud.At where
 m:Option Addr
 mc:Nat
 f:Option Addr
 fc:Nat
def Ud.flE (T:List Rw.Row) (X:Int→Bool):List Rw.Row→List Ud.At→List Value
 | r::l,a::es=>.slice a.m r.2.2.length a.mc::.slice a.f (Ud.full T r.1).length a.fc::.bool (Md.prim T X r.1)::Ud.flE T X l es
 | _,_=>[]
theorem Ud.flE_len (T:List Rw.Row) (X:Int→Bool):∀(l:List Rw.Row) (es:List Ud.At),es.length=l.length→(Ud.flE T X l es).length=l.length*3
 | [],_,_=>by simp[Ud.flE]
 | r::l,[],h=>by simp at h
 | r::l,a::es,h=>by simp[Ud.flE,Ud.flE_len T X l es (by simpa using h)];omega
theorem Ud.flE_app (T:List Rw.Row) (X:Int→Bool):∀(l:List Rw.Row) (es:List Ud.At) (r:Rw.Row) (a:Ud.At),es.length=l.length→Ud.flE T X (l++[r]) (es++[a])=Ud.flE T X l es++[.slice a.m r.2.2.length a.mc,.slice a.f (Ud.full T r.1).length a.fc,.bool (Md.prim T X r.1)]
 | [],[],r,a,_=>rfl
 | [],_::_,_,_,h=>by simp at h
 | _::_,[],_,_,h=>by simp at h
 | q::l,b::es,r,a,h=>by simp[Ud.flE,Ud.flE_app T X l es r a (by simpa using h)]
def Ud.ints (l:List Int):List Value:=l.map (Value.int .i32)
def Ud.Ents (w:World) (T:List Rw.Row) (X:Int→Bool) (A:Option Addr) (es:List Ud.At):Prop :=
 es.length=(Ud.mr T).length∧Sl w w.heap.size A (Ud.flE T X (Ud.mr T) es)∧∀(i:Nat) r a,(Ud.mr T)[i]?=some r→es[i]?=some a→Sl w w.heap.size a.m (Ud.ints r.2.2)∧Sl w w.heap.size a.f (Ud.ints (Ud.full T r.1))
theorem Ud.Ents.below {w w':World} {T:List Rw.Row} {X:Int→Bool} {A:Option Addr} {es:List Ud.At} (h:Ud.Ents w T X A es) (hb:Below w.heap.size w w'):Ud.Ents w' T X A es :=
 ⟨h.1,h.2.1.below hb hb.size,fun i r a h1 h2=>⟨(h.2.2 i r a h1 h2).1.below hb hb.size,(h.2.2 i r a h1 h2).2.below hb hb.size⟩⟩
def Ud.Beg (w:World) (T:List Rw.Row) (b:Nat):Prop:=∃F:Value→Option Value,Mp.Is Tryz.prog 21 w b F ∧
 ∀c:Int,(Ud.beg T T c=[]∧F (.int .i32 c)=none)∨∃A cap,F (.int .i32 c)=some (.slice A (Ud.beg T T c).length cap)∧Sl w w.heap.size A (Ud.ints (Ud.beg T T c))
def Ud.Joi (w:World) (T:List Rw.Row) (X:Int→Bool) (b:Nat):Prop:=∃F:Value→Option Value,Mp.Is Tryz.prog 180 w b F∧∀a c:Int,F (.agg #[.int .i32 a,.int .i32 c])=(Ud.joi T X T a c).map (Value.int .i32)
structure Ud.Is (w:World) (v:Value) (T:List Rw.Row) (S:List Int):Prop where
 is:∃b A0 c0 XA xc pc pp A3 c3 mb jb A4 c4 A5 c5 A6 c6 es,
  v=.pointer (some ⟨b,0,none⟩) ∧
  Rw.At w b 128 [.slice A0 (Ud.keep T).length c0,.slice XA S.length xc,pc,pp,.slice A3 (Ud.mr T).length c3,.map (some mb),.map (some jb),.slice A4 (C.chars (Ud.inn T T)).length c4,.slice A5 (C.chars (Ud.sec T (C.mem S) T)).length c5,.slice A6 (C.chars (Ud.mpd T)).length c6] ∧
  Rw.Sees w A0 (Ud.keep T)∧Sl w w.heap.size XA (Ud.ints S)∧Pg.Of w pc (Pg.last (Ud.cl T))∧Pg.Of w pp (Pg.last (Ud.pl T))∧Ud.Ents w T (C.mem S) A3 es∧Ud.Beg w T mb∧Ud.Joi w T (C.mem S) jb ∧
  Sl w w.heap.size A4 (Ud.ints (C.chars (Ud.inn T T)))∧Sl w w.heap.size A5 (Ud.ints (C.chars (Ud.sec T (C.mem S) T)))∧Sl w w.heap.size A6 (Ud.ints (C.chars (Ud.mpd T)))
theorem Ud.Beg.below {w w':World} {T:List Rw.Row} {b:Nat} (h:Ud.Beg w T b) (hb:Below w.heap.size w w'):Ud.Beg w' T b:=by
 obtain⟨F,h1,h2⟩:=h
 refine⟨F,h1.below hb,fun c=>?_⟩
 rcases h2 c with h|⟨A,cap,h3,h4⟩
 · exact .inl h
 · exact .inr ⟨A,cap,h3,h4.below hb hb.size⟩
theorem Ud.Joi.below {w w':World} {T:List Rw.Row} {X:Int→Bool} {b:Nat} (h:Ud.Joi w T X b) (hb:Below w.heap.size w w'):Ud.Joi w' T X b:=by
 obtain⟨F,h1,h2⟩:=h
 exact⟨F,h1.below hb,h2⟩
theorem Ud.Is.below {w w':World} {v:Value} {T:List Rw.Row} {S:List Int} (h:Ud.Is w v T S) (hb:Below w.heap.size w w'):Ud.Is w' v T S:=by
 obtain⟨b,A0,c0,XA,xc,pc,pp,A3,c3,mb,jb,A4,c4,A5,c5,A6,c6,es,h1,h2,h3,h4,h5,h6,h7,h8,h9,aa,af,ae⟩:=h.is
 exact⟨b,A0,c0,XA,xc,pc,pp,A3,c3,mb,jb,A4,c4,A5,c5,A6,c6,es,h1,h2.below hb,h3.below hb,h4.below hb hb.size,h5.below hb,h6.below hb,h7.below hb,h8.below hb,h9.below hb,aa.below hb hb.size,af.below hb hb.size,ae.below hb hb.size⟩
structure Ud.Ok (T:List Rw.Row) (S:List Int):Prop where
 chk:Md.chk T (C.mem S)=0
 srt:C.srt S
 len:T.length≤10000
 slen:S.length≤1000000
theorem Ud.Ok.good {T:List Rw.Row} {S:List Int} (h:Ud.Ok T S):∀r∈T,Md.good r:=(Md.chk_none h.chk).1
theorem Ud.Ok.rises {T:List Rw.Row} {S:List Int} (h:Ud.Ok T S):Md.rises T:=(Md.chk_none h.chk).2.1
theorem Ud.Is.form {w:World} {v:Value} {T:List Rw.Row} {S:List Int} (h:Ud.Is w v T S):∃b,v=.pointer (some ⟨b,0,none⟩)∧b<w.heap.size:=by
 obtain⟨b,A0,c0,XA,xc,pc,pp,A3,c3,mb,jb,A4,c4,A5,c5,A6,c6,es,h1,h2,_⟩:=h.is
 exact⟨b,h1,h2.lt⟩
end Go.Proofs.YtbeakahjbkdeiaaGreatDoor
