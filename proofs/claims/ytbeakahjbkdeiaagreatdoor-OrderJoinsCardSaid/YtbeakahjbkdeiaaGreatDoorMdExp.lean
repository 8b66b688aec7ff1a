/- Loaded tables in plain words: what the pages and sets tell. -/
import Derived.Test.YtbeakahjbkdeiaaGreatDoorAl1
import Derived.Test.YtbeakahjbkdeiaaGreatDoorUdIs
import Derived.Test.YtbeakahjbkdeiaaGreatDoorMap
import Derived.Test.YtbeakahjbkdeiaaGreatDoorSlt
import Derived.Maps.AppendAt
import Derived.Deep.AppendLies
import Derived.Maps.Range
namespace Go.Proofs.YtbeakahjbkdeiaaGreatDoor
set_option linter.unusedSimpArgs false
set_option linter.unusedVariables false
theorem Ud.good_bd {r:Rw.Row} (h:Md.good r):0≤r.1∧r.1≤1114111:=by
 have:=h.1
 unfold C.isC at this
 simp only[Zp]at this
 exact⟨this.1,this.2.1⟩
theorem Ud.Ok.bd {T:List Rw.Row} {S:List Int} (h:Ud.Ok T S):Md.bd T:=by
 intro r hr
 have hg:=h.good r hr
 have h1:=Ud.good_bd hg
 refine⟨by omega,fun c hc=>?_⟩
 have:=(hg.2.2.2.2.2 c hc).1
 unfold C.isC at this
 simp only[Zp]at this
 omega
theorem Ud.get_cls {T:List Rw.Row} {S:List Int} (h:Ud.Ok T S) (c:Int):Pg.get (Pg.last (Ud.cl T)) c=Md.cls T c:=by
 unfold Pg.get
 rw[Ud.cls_last h.rises (fun r hr=>(h.good r hr).2.1)]
 split
 · rfl
 · rename_i hc
   unfold Md.cls
   cases hf:Md.find T c with
   | none=>rfl
   | some r =>
     obtain⟨h1,h2⟩:=Md.find_some hf
     have:=Ud.good_bd (h.good r h1)
     omega
theorem Ud.cls_bd {T:List Rw.Row} {S:List Int} (h:Ud.Ok T S) (c:Int):0≤Md.cls T c∧Md.cls T c≤254:=by
 unfold Md.cls
 cases hf:Md.find T c with
 | none=>simp
 | some r =>
   have:=h.good r (Md.find_some hf).1
   exact⟨this.2.1,this.2.2.1⟩
theorem Ud.isC_bd {c:Int} (h:C.isC c=true):0≤c∧c≤1114111:=by
 unfold C.isC at h
 simp only[Zp]at h
 exact⟨h.1,h.2.1⟩
def C.ltN:List Int→Int→Nat
 | [],_=>0
 | x::t,d=>if x<d then C.ltN t d+1 else 0
def C.hit (l:List Int) (d:Int):Bool:=l[C.ltN l d]? == some d
theorem C.ltN_le:∀(l:List Int) (d:Int),C.ltN l d≤l.length
 | [],_=>Zb _
 | x::t,d=>by
   show (if x<d then C.ltN t d+1 else 0)≤t.length+1
   have:=C.ltN_le t d
   split <;> omega
theorem C.ltN_lt:∀{l:List Int} (_:C.srt l) {k:Nat} {x:Int},l[k]?=some x→∀d,(x<d↔k<C.ltN l d)
 | [],_,k,x,h,d=>by simp at h
 | y::t,hs,0,x,h,d=>by
   simp at h
   subst h
   show _↔0<(if y<d then C.ltN t d+1 else 0)
   split <;> simp_all
 | y::t,hs,k+1,x,h,d=>by
   have h':t[k]?=some x:=by simpa using h
   have:=C.ltN_lt (C.srt_tail hs) h' d
   have hy:=C.srt_head hs x (Zk h')
   show _↔k+1<(if y<d then C.ltN t d+1 else 0)
   split
   · rw[this];omega
   · constructor
     · intro hx;omega
     · intro hx;omega
theorem C.mem_par:∀{l:List Int} (_:C.srt l) (d:Int),C.mem l d=(((C.ltN l d+(if C.hit l d=true then 1 else 0))%2) == 1)
 | [],_,d=>rfl
 | x::t,hs,d=>by
   have ih:=C.mem_par (C.srt_tail hs) d
   rw[C.mem_cons]
   rcases Int.lt_trichotomy x d with h|h|h
   · have e1:C.ltN (x::t) d=C.ltN t d+1:=by show (if x<d then _ else _)=_;rw[Zv h]
     have e2:C.hit (x::t) d=C.hit t d:=by unfold C.hit;rw[e1];simp
     rw[Zo (by omega),e1,e2,ih]
     generalize (if C.hit t d=true then 1 else 0)=q
     rcases Nat.mod_two_eq_zero_or_one (C.ltN t d+q) with h0|h0
     · rw[h0,show (C.ltN t d+1+q)%2=1 by omega];rfl
     · rw[h0,show (C.ltN t d+1+q)%2=0 by omega];rfl
   · subst h
     have e1:C.ltN (x::t) x=0:=by show (if x<x then _ else _)=_;rw[Zs (by omega)]
     have e2:C.hit (x::t) x=true:=by unfold C.hit;rw[e1];simp
     rw[Zo (by omega),C.mem_low' hs (by omega),e1,e2];rfl
   · have e1:C.ltN (x::t) d=0:=by show (if x<d then _ else _)=_;rw[Zs (by omega)]
     have e2:C.hit (x::t) d=false:=by unfold C.hit;rw[e1];simp;omega
     rw[Zu (by omega),e1,e2];rfl
end Go.Proofs.YtbeakahjbkdeiaaGreatDoor
namespace Go.Proofs.YtbeakahjbkdeiaaGreatDoor
open Go.RowKit
set_option linter.unusedSimpArgs false
set_option linter.unusedVariables false
theorem C.nanC_any (x:Int) (w:World):Calls Tryz.prog 233 #[.int .i32 x] w fun e w'=>e=.returned (.bool false)∧w=w':=by
 go_enter Tryz.func233,Tryz.ntmps233
 go_wp2
 go_ret
 exact⟨by simp,rfl⟩
set_option maxRecDepth 100000 in
theorem C.lessR_any (x y:Int) (w:World):Calls Tryz.prog 188 #[.int .i32 x,.int .i32 y] w fun e w'=>e=.returned (.bool (decide (x<y)))∧w=w':=by
 go_enter Tryz.func188,Tryz.ntmps188
 go_wp2_with fail
 refine (C.nanC_any _ _).mono ?_
 rintro e w1 ⟨rfl,rfl⟩
 go_wp2
 go_ret
 exact⟨rfl,rfl⟩
set_option maxRecDepth 100000 in
set_option maxHeartbeats 2000000 in
theorem C.search_any (A:Option Addr) (c n B:Nat) (l:List Int) (d:Int) (w:World) (hn:l.length=n) (ag:n≤1000000) (hs:C.srt l) (hA:Sl w B A (l.map (Value.int .i32))) :
 Calls Tryz.prog 261 #[.slice A n c,.int .i32 d] w (fun e w'=>e=.returned (.tuple #[.int .i64 (C.ltN l d:Nat),.bool (C.hit l d)])∧Below w.heap.size w w'):=by
 have HN:=Za hn
 have HS:=Za hs
 have hP:=C.ltN_le l d
 rw[hn]at hP
 obtain⟨P,hp⟩:∃P,C.ltN l d=P:=⟨_,rfl⟩
 rw[hp]at hP
 have HP:=Za hp
 clear hn hs hp
 go_enter Tryz.func261,Tryz.ntmps261
 go_wp2
 go_loop [7,8] (fun vi vj=>∃i j:Nat,i≤P∧P≤j∧j≤n∧vi=.int .i64 i∧vj=.int .i64 j) (fun vi vj=>(intOf vj).toNat-(intOf vi).toNat)
 case atStart=>exact⟨0,n,by omega,hP,Zb _,rfl,rfl⟩
 case round =>
  obtain⟨i,j,hi,hj,af,rfl,rfl⟩:=hrel
  by_cases hlt:(i:Int)<j
  · obtain⟨x,hx⟩:∃x,l[(i+j)/2]?=some x:=⟨_,Zc (by rw[HN.out];omega)⟩
    obtain⟨b,o,rfl,ae,hc,_⟩:=hA.ints hx
    have aa:=C.ltN_lt HS.out hx d
    rw[HP.out]at aa
    have m0:(0:Int)≤(((i+j)/2:Nat):Int):=by omega
    have m1:(((i+j)/2:Nat):Int)<n:=by omega
    go_wp2_with fail
    refine (C.lessR_any _ _ _).mono ?_
    rintro e w1 ⟨rfl,rfl⟩
    by_cases hd:x<d
    · have hk:=aa.1 hd
      have hdd:decide (x<d)=true:=Zo hd
      clear aa
      go_wp2
      exact⟨⟨(i+j)/2+1,j,by omega,by omega,by omega,by go_num,by go_num⟩,by simp[intOf];omega⟩
    · have hk:¬(i+j)/2<P:=fun h=>hd (aa.2 h)
      have hdd:decide (x<d)=false:=Zu hd
      clear aa
      go_wp2
      exact⟨⟨i,(i+j)/2,by omega,by omega,by omega,by go_num,by go_num⟩,by simp[intOf];omega⟩
  · obtain rfl:i=P:=by omega
    obtain rfl:i=j:=by omega
    by_cases hin:(i:Int)<n
    · obtain⟨x,hx⟩:∃x,l[i]?=some x:=⟨_,Zc (by rw[HN.out];omega)⟩
      obtain⟨b,o,rfl,ae,hc,_⟩:=hA.ints hx
      have hh:C.hit l d=(x == d):=by unfold C.hit;rw[HP.out,hx];rfl
      have HH:=Za hh
      clear hx hh
      have m0:(0:Int)≤(i:Int):=by omega
      rcases hxd:(x == d) with _|_
      · go_wp2
        go_ret2
        rw[HP.out,HH.out,hxd]
        exact⟨rfl,Zd _ _⟩
      · go_wp2
        go_ret2
        rw[HP.out,HH.out,hxd]
        exact⟨rfl,Zd _ _⟩
    · have hh:C.hit l d=false:=by
       unfold C.hit
       rw[HP.out,Yg (by rw[HN.out];omega)]
       rfl
      have HH:=Za hh
      clear hh
      go_wp2
      go_ret2
      rw[HP.out,HH.out]
      exact⟨rfl,Zd _ _⟩
def C.plc (l:List Int) (d:Int):Nat:=C.ltN l d+(if C.hit l d=true then 1 else 0)
section
set_option maxRecDepth 100000
set_option maxHeartbeats 1000000
theorem C.place_any (A:Option Addr) (c n B:Nat) (l:List Int) (d:Int) (w:World) (hn:l.length=n) (ai:n≤1000000) (hs:C.srt l) (hB:B≤w.heap.size) (hA:Sl w B A (l.map (Value.int .i32))) :
 Calls Tryz.prog 238 #[.agg #[.slice A n c],.int .i32 d] w (fun e w'=>e=.returned (.int .i64 (C.plc l d:Nat))∧Below w.heap.size w w'):=by
 have HF:=Za (C.search_any A c n B l d)
 have HN:=Za hn
 have HS:=Za hs
 have hP:=C.ltN_le l d
 rw[hn]at hP
 have aa:C.plc l d=C.ltN l d+(if C.hit l d=true then 1 else 0):=rfl
 obtain⟨P,hp⟩:∃P,C.ltN l d=P:=⟨_,rfl⟩
 obtain⟨q,hq⟩:∃q,C.hit l d=q:=⟨_,rfl⟩
 rw[hp,hq]at aa
 rw[hp]at hP
 rw[hp,hq]at HF
 have ag:=Za aa
 clear hn hs hp hq aa
 go_enter Tryz.func238,Tryz.ntmps238
 go_wp2_with fail
 have af:Below w.heap.size w (w.alloc (.cells #[.slice A n c] 113)):=(Zd _ _).alloc (Zb _) _
 refine (HF.out _ HN.out ai HS.out (hA.belowN af hB (Zb _))).mono ?_
 rintro e w1 ⟨rfl,ae⟩
 have ah:=af.trans (ae.mono (by simp))
 rcases q with _|_
 · go_wp2
   go_ret
   exact⟨by rw[ag.out];rfl,ah⟩
 · go_wp2
   go_ret
   exact⟨by rw[ag.out];rfl,ah⟩
theorem C.has_any (A:Option Addr) (c n B:Nat) (l:List Int) (d:Int) (w:World) (hn:l.length=n) (ah:n≤1000000) (hs:C.srt l) (hB:B≤w.heap.size) (hA:Sl w B A (l.map (Value.int .i32))) :
 Calls Tryz.prog 204 #[.agg #[.slice A n c],.int .i32 d] w (fun e w'=>e=.returned (.bool (C.mem l d))∧Below w.heap.size w w'):=by
 have HF:=Za (C.place_any A c n B l d)
 have hP:=C.ltN_le l d
 rw[hn]at hP
 have HN:=Za hn
 have HS:=Za hs
 have hm:=C.mem_par hs d
 have ag:C.plc l d≤n+1:=by unfold C.plc;split <;> omega
 change C.mem l d=((C.plc l d%2) == 1) at hm
 obtain⟨q,hq⟩:∃q,C.plc l d=q:=⟨_,rfl⟩
 rw[hq]at HF hm ag
 have HM:=Za hm
 have hb:=C.and_one q (by omega)
 clear hn hs hq hm
 go_enter Tryz.func204,Tryz.ntmps204
 go_wp2_with fail
 have ae:Below w.heap.size w (w.alloc (.cells #[.slice A n c] 113)):=(Zd _ _).alloc (Zb _) _
 refine (HF.out _ HN.out ah HS.out (by simp <;> omega) (hA.belowN ae hB (Zb _))).mono ?_
 rintro e w1 ⟨rfl,aa⟩
 have af:=ae.trans (aa.mono (by simp))
 go_wp2
 go_ret
 refine⟨?_,af⟩
 rw[HM.out]
 refine ret_bool ?_
 rw[YK]
 simp
 omega
end
structure Fam.Row where
 e:TypeId
 size:Nat
 v:Value
 n:Nat
 xs:List Value
structure Fam {ι:Type} (w:World) (base:Nat) (f:ι→Option Fam.Row):Prop where
 own:∀i r,f i=some r→w.ownsRow base r.e r.size r.v r.n r.xs
 apart:∀i j r q g,i≠j→f i=some r→f j=some q→r.v.ownBlock=some g→q.v.ownBlock≠some g
def Fam.set {ι:Type} [DecidableEq ι] (f:ι→Option Fam.Row) (i:ι) (r:Fam.Row):ι→Option Fam.Row:=fun j=>if j=i then some r else f j
theorem Fam.set_same {ι:Type} [DecidableEq ι] (f:ι→Option Fam.Row) (i:ι) (r:Fam.Row):Fam.set f i r i=some r:=by simp[Fam.set]
theorem Fam.set_other {ι:Type} [DecidableEq ι] (f:ι→Option Fam.Row) {i j:ι} (r:Fam.Row) (h:j≠i):Fam.set f i r j=f j:=by simp[Fam.set,h]
section
variable {ι:Type} {w:World} {base:Nat} {f:ι→Option Fam.Row}
theorem own_at {e:TypeId} {size n:Nat} {v:Value} {xs:List Value} (h:w.ownsRow base e size v n xs) {g:Nat} (hg:v.ownBlock=some g):base≤g∧g<w.heap.size:=by
 rcases h.2 with ⟨rfl,_⟩|⟨k,cap,aa,rfl,hb,hk,_⟩
 · simp[Value.ownBlock]at hg
 · simp only[Value.ownBlock,Zg]at hg
   subst hg
   exact⟨hb,heap_lt hk⟩
theorem Fam.mk' (w:World) (base:Nat):Fam w base (fun _:ι=>none):=⟨fun i r h=>(by cases h),fun i j r q g _ h=>(by cases h)⟩
theorem Fam.below (h:Fam w base f) {w':World} (hb:Below w.heap.size w w'):Fam w' base f :=
 ⟨fun i r hi=>own_below (h.own i r hi) hb (Zb _),h.apart⟩
theorem Fam.other (h:Fam w base f) {w':World} {b:Nat} (hg:w.grownBy w' (some b)) (hb:b<base):Fam w' base f :=
 ⟨fun i r hi=>(h.own i r hi).kept hg (by
  cases hv:r.v.ownBlock with
  | none=>exact .inl rfl
  | some g=>exact .inr fun e=>by cases e;have:=(own_at (h.own i r hi) hv).1;omega),h.apart⟩
theorem Fam.grow [DecidableEq ι] (h:Fam w base f) {w':World} {i:ι} {r:Fam.Row} (hi:f i=some r) (hg:w.grownBy w' r.v.ownBlock) {q:Fam.Row} (hq:w'.ownsRow base q.e q.size q.v q.n q.xs)
 (hl:q.v.ownBlock=r.v.ownBlock∨q.v.ownBlock=some w.heap.size):Fam w' base (Fam.set f i q):=by
 have hlt:∀j s g,f j=some s→s.v.ownBlock=some g→g<w.heap.size:=fun j s g hj hs=>(own_at (h.own j s hj) hs).2
 refine⟨fun j s hj=>?_,fun j k s t g hjk hj hk hs ht=>?_⟩
 · by_cases e:j=i
   · subst e
     rw[Fam.set_same]at hj
     cases hj
     exact hq
   · rw[Fam.set_other _ _ e]at hj
     refine (h.own j s hj).kept hg ?_
     cases hv:s.v.ownBlock with
     | none=>exact .inl rfl
     | some g=>exact .inr fun e'=>h.apart j i s r g e hj hi hv e'.symm
 · by_cases e1:j=i
   · subst e1
     rw[Fam.set_same]at hj
     cases hj
     rw[Fam.set_other _ _ (Z6 hjk)]at hk
     rcases hl with hl|hl
     · rw[hl]at hs
       exact h.apart j k r t g hjk hi hk hs ht
     · rw[hl]at hs
       cases hs
       have:=hlt k t _ hk ht
       omega
   · rw[Fam.set_other _ _ e1]at hj
     by_cases e2:k=i
     · subst e2
       rw[Fam.set_same]at hk
       cases hk
       rcases hl with hl|hl
       · rw[hl]at ht
         exact h.apart j k s r g hjk hj hi hs ht
       · rw[hl]at ht
         cases ht
         have:=hlt j s _ hj hs
         omega
     · rw[Fam.set_other _ _ e2]at hk
       exact h.apart j k s t g hjk hj hk hs ht
theorem Fam.new [DecidableEq ι] (h:Fam w base f) {w':World} (hb:Below w.heap.size w w') (i:ι) {q:Fam.Row} (hq:w'.ownsRow base q.e q.size q.v q.n q.xs) (hl:∀g,q.v.ownBlock=some g→w.heap.size≤g):Fam w' base (Fam.set f i q):=by
 have hlt:∀j s g,f j=some s→s.v.ownBlock=some g→g<w.heap.size:=fun j s g hj hs=>(own_at (h.own j s hj) hs).2
 refine⟨fun j s hj=>?_,fun j k s t g hjk hj hk hs ht=>?_⟩
 · by_cases e:j=i
   · subst e
     rw[Fam.set_same]at hj
     cases hj
     exact hq
   · rw[Fam.set_other _ _ e]at hj
     exact own_below (h.own j s hj) hb (Zb _)
 · by_cases e1:j=i
   · subst e1
     rw[Fam.set_same]at hj
     cases hj
     rw[Fam.set_other _ _ (Z6 hjk)]at hk
     have h1:=hl g hs
     have h2:=hlt k t g hk ht
     omega
   · rw[Fam.set_other _ _ e1]at hj
     by_cases e2:k=i
     · subst e2
       rw[Fam.set_same]at hk
       cases hk
       have h1:=hl g ht
       have h2:=hlt j s g hj hs
       omega
     · rw[Fam.set_other _ _ e2]at hk
       exact h.apart j k s t g hjk hj hk hs ht
end
theorem run_appendAt {P:Program} (w:World) (t ty:TypeId)
 (base:Nat) (e:TypeId) (i:TypeInfo) (z:Value) (size bytes:Nat) (ht:P.underlying t=some (.slice e)) (hi:P.info? e=some i) (hz:i.zero=some z)
 (hsize:i.size=size) (hby:i.bytes=bytes) (hzs:z.cells.size=size) (hsz:0<size)
 (v:Value) (n:Nat) (xs:List Value) (hown:w.ownsRow base e size v n xs)
 (B:Nat) (A:Option Addr) (m c:Nat) (news:List Value) (hl:news.length=m*size) (hA:Sl w B A news) (h1:∀u∈news,u.oneCell'=true)
 (h63:n+m≤maxLen) (hbytes:(n+m)*bytes≤140737488355328) (hbase:base≤w.heap.size) :
 ∃v' w',(Builtin.append_ #[t,t] ty #[v,.slice A m c]).run P w=.ok v' w'∧w'.ownsRow base e size v' (n+m) (xs++news)∧Below base w w'∧w.grownBy w' v.ownBlock∧(v'.ownBlock=v.ownBlock∨v'.ownBlock=some w.heap.size):=by
 rcases A with _|ad
 · have hn:news=[]:=by
    rcases news with _|⟨u,r⟩
    · rfl
    · obtain⟨b,o,hA,_⟩:=hA (by simp)
      cases hA
   subst hn
   have hm:m=0:=by
    rcases YC m with h|h
    · exact h
    · have:=Nat.mul_pos h hsz
      simp at hl
      omega
   subst hm
   exact⟨v,w,run_append_empty (P:=P) w base t ty e i size ht hi v n xs hown c,by simpa using hown,Below.refl _ _,World.grownBy.refl w _,.inl rfl⟩
 · obtain⟨v',w',hr,h2,h3,_,h5⟩:=run_append_own_at (P:=P) w base t ty e i z size bytes ht hi hz hsize hby hzs hsz v n xs hown ad m c news hl (by
    intro j q hq
    have hj:j<news.length:=(List.getElem?_eq_some_iff.1 hq).1
    obtain⟨b,o,hA,_,hc⟩:=hA (by omega)
    simp only[Zg]at hA
    subst hA
    rw[Addr.add_lit,hc j hj,hq]) h1 h63 hbytes hbase
   refine⟨v',w',hr,h2,?_,h3,h5⟩
   refine (Zd _ _).grown h3 hbase ?_
   intro k hk
   exact (hown.lt k hk).1
theorem Fam.wp_append {P:Program} {ι:Type} [DecidableEq ι] {o:Oper} {a:Act} {K:Act→World→Prop} {Q:Exit→Act→World→Prop} (w:World) (s x:Operand) (t:TypeId)
 (ho:o.op=.call { callee:=.builtin .append,args := #[s,x],argTypes := #[t,t] })
 {base:Nat} {f:ι→Option Fam.Row} (hF:Fam w base f) (j:ι) (r:Fam.Row) (hj:f j=some r)
 (i:TypeInfo) (z:Value) (bytes:Nat) (ht:P.underlying t=some (.slice r.e)) (hi:P.info? r.e=some i) (hz:i.zero=some z)
 (hsize:i.size=r.size) (hby:i.bytes=bytes) (hzs:z.cells.size=r.size) (hsz:0<r.size) (hs:a.eval s=r.v)
 (B:Nat) (A:Option Addr) (m c:Nat) (news:List Value) (hx:a.eval x=.slice A m c) (hl:news.length=m*r.size) (hA:Sl w B A news) (h1:∀u∈news,u.oneCell'=true)
 (h63:r.n+m≤maxLen) (hbytes:(r.n+m)*bytes≤140737488355328) (hbase:base≤w.heap.size)
 (h:∀v' w',Fam w' base (Fam.set f j ⟨r.e,r.size,v',r.n+m,r.xs++news⟩)→Below base w w'→w.grownBy w' r.v.ownBlock→K (a.put o.dst v') w') :
 o.wp P a w K Q:=by
 obtain⟨v',w',hr,h2,h3,h4,h5⟩:=run_appendAt (P:=P) w t o.type base r.e i z r.size bytes ht hi hz hsize hby hzs hsz r.v r.n r.xs (hF.own j r hj) B A m c news hl hA h1 h63 hbytes hbase
 unfold Oper.wp execOp
 simp only[ho,resolve,invoke,builtin,Yt,Yl,Ym,YV,Z0,Y3,hs,hx,hr]
 exact h v' w' (hF.grow hj h4 (q:=⟨r.e,r.size,v',r.n+m,r.xs++news⟩) h2 h5) h3 h4
theorem Fam.wpList_append {P:Program} {ι:Type} [DecidableEq ι] {ops:Array Oper} {rest:List Oper} {o:Oper} {a:Act} {Q:Exit→Act→World→Prop} (w:World) (hgd:o.guard=none) (s x:Operand) (t:TypeId)
 (ho:o.op=.call { callee:=.builtin .append,args := #[s,x],argTypes := #[t,t] })
 {base:Nat} {f:ι→Option Fam.Row} (hF:Fam w base f) (j:ι) (r:Fam.Row) (hj:f j=some r)
 (i:TypeInfo) (z:Value) (bytes:Nat) (ht:P.underlying t=some (.slice r.e)) (hi:P.info? r.e=some i) (hz:i.zero=some z)
 (hsize:i.size=r.size) (hby:i.bytes=bytes) (hzs:z.cells.size=r.size) (hsz:0<r.size) (hs:a.eval s=r.v)
 (B:Nat) (A:Option Addr) (m c:Nat) (news:List Value) (hx:a.eval x=.slice A m c) (hl:news.length=m*r.size) (hA:Sl w B A news) (h1:∀u∈news,u.oneCell'=true)
 (h63:r.n+m≤maxLen) (hbytes:(r.n+m)*bytes≤140737488355328) (hbase:base≤w.heap.size)
 (h:∀v' w',Fam w' base (Fam.set f j ⟨r.e,r.size,v',r.n+m,r.xs++news⟩)→Below base w w'→w.grownBy w' r.v.ownBlock→wpList P ops Q rest (a.put o.dst v') w') :
 wpList P ops Q (o::rest) a w :=
 wpList_plain hgd fun _ hK=>Fam.wp_append w s x t ho hF j r hj i z bytes ht hi hz hsize hby hzs hsz hs B A m c news hx hl hA h1 h63 hbytes hbase fun v' w' h2 h3 h4=>hK _ _ (h v' w' h2 h3 h4)
theorem own_cell {w:World} {base:Nat} {e:TypeId} {size n c g:Nat} {xs:List Value} (h:w.ownsRow base e size (.slice (some ⟨g,0,none⟩) n c) n xs) {i:Nat} {u:Value} (hi:xs[i]?=some u):w.cell? ⟨g,i,none⟩=some u:=by
 have aa:=(List.getElem?_eq_some_iff.1 hi).1
 obtain⟨b,o,hA,_,hc⟩:=Sl.of_own h (by omega)
 simp only[Zg,YE,YG]at hA
 obtain⟨rfl,rfl⟩:=hA
 have:=hc i aa
 rw[Z2]at this
 rw[this,hi]
theorem own_mono {w:World} {base aa:Nat} {e:TypeId} {size n:Nat} {v:Value} {xs:List Value} (h:w.ownsRow base e size v n xs) (hb:aa≤base):w.ownsRow aa e size v n xs:=by
 refine⟨h.1,?_⟩
 rcases h.2 with hn|⟨g,cap,ae,h1,h2,h3⟩
 · exact .inl hn
 · exact .inr ⟨g,cap,ae,h1,by omega,h3⟩
theorem own_frozen {w:World} {base:Nat} {e:TypeId} {size n c g:Nat} {xs:List Value} (h:w.ownsRow base e size (.slice (some ⟨g,0,none⟩) n c) n xs) (i:Nat):w.frozen? ⟨g,i,none⟩=false:=by
 rcases h.2 with ⟨hv,_⟩|⟨k,cap,aa,hv,_,hk,_⟩
 · cases hv
 · simp only[ZV,Zg,YE,YG,XP]at hv
   obtain⟨rfl,_⟩:=hv
   simp[World.frozen?,hk]
section
variable {ι:Type} {w:World} {base:Nat} {f:ι→Option Fam.Row}
theorem Fam.ne (h:Fam w base f) {i j:ι} (hij:i≠j) {r q:Fam.Row} (hi:f i=some r) (hj:f j=some q) {b:Nat} (hb:q.v.ownBlock=some b):r.v.ownBlock≠some b:=fun e=>h.apart i j r q b hij hi hj e hb
theorem Fam.low (h:Fam w base f) {i:ι} {r:Fam.Row} (hi:f i=some r) {b:Nat} (hb:b<base):r.v.ownBlock≠some b:=fun e=>by have:=(own_at (h.own i r hi) e).1;omega
theorem Fam.box [DecidableEq ι] (h:Fam w base f) (hb:base≤w.heap.size) (i:ι) (cs:List Value) (e:TypeId) (n size:Nat) (hs:cs.length=n*size) (hn:n≤maxLen):Fam (w.alloc (.cells cs.toArray e)) base (Fam.set f i ⟨e,size,.slice (some ⟨w.heap.size,0,none⟩) n n,n,cs⟩) :=
 h.new ((Below.refl _ _).alloc (Nat.le_refl _) _) i (World.ownsRow_lit w cs.toArray n hb hn (by simpa using hs)) (fun g hg=>by simp only[Value.ownBlock,Option.some.injEq]at hg;omega)
end
theorem own_of_at {w:World} {base b:Nat} {t:TypeId} {cs:List Value} (h:Rw.At w b t cs) (hb:base≤b) (n size:Nat) (hs:cs.length=n*size) (hn:n≤maxLen):w.ownsRow base t size (.slice (some ⟨b,0,none⟩) n n) n cs :=
 ⟨hs,.inr ⟨b,n,cs.toArray,rfl,hb,h,Nat.le_refl _,hn,by simpa using hs,by rw[List.take_of_length_le (by simp;omega)]⟩⟩
theorem Fam.store {ι:Type} [DecidableEq ι] {w w':World} {base:Nat} {f:ι→Option Fam.Row} (h:Fam w base f) {i:ι} {e:TypeId} {size n b:Nat} {cs cs':List Value} (hi:f i=some ⟨e,size,.slice (some ⟨b,0,none⟩) n n,n,cs⟩) (hg:w.grownBy w' (some b)) (hat:Rw.At w' b e cs') (hs:cs'.length=n*size) (hn:n≤maxLen) :
 Fam w' base (Fam.set f i ⟨e,size,.slice (some ⟨b,0,none⟩) n n,n,cs'⟩) :=
 h.grow hi hg (own_of_at hat (own_at (h.own _ _ hi) (g:=b) rfl).1 n size hs hn) (.inl rfl)
theorem grown_belowB {w w':World} {B b:Nat} (hg:w.grownBy w' (some b)) (hB:B≤w.heap.size) (hb:B≤b):Below B w w' :=
 Below.grown (Zd _ _) hg hB (by intro k hk;simp only[Zg]at hk;omega)
theorem some_ne {q b:Nat} (h:q<b):some q≠some b:=by simp only[XQ,Zg];omega
theorem own_tail {w:World} {base:Nat} {e:TypeId} {n c b:Nat} {xs:List Value} (h:w.ownsRow base e 1 (.slice (some ⟨b,0,none⟩) n c) n xs):Sl w w.heap.size (some ⟨b,1,none⟩) (xs.drop 1):=by
 intro hx
 rw[ZL]at hx
 refine⟨b,1,rfl,(own_at h (g:=b) rfl).2,fun q hq=>?_⟩
 rw[ZL]at hq
 rw[Xm]
 exact (own_cell h (Zc (by omega))).trans (Zc (by omega)).symm
theorem own_cap {w:World} {base:Nat} {e:TypeId} {size n c b:Nat} {xs:List Value} (h:w.ownsRow base e size (.slice (some ⟨b,0,none⟩) n c) n xs):n≤c:=by
 rcases h.2 with ⟨hv,_⟩|⟨g,cap,aa,hv,_,_,ae,_⟩
 · cases hv
 · simp only[ZV]at hv;omega
theorem Mp.Is.same {P:Program} {k:TypeId} {w w':World} {b:Nat} {F:Value→Option Value} (h:Mp.Is P k w b F) (hs:w'.heap[b]?=w.heap[b]?):Mp.Is P k w' b F:=by
 obtain⟨es,c,hb,r⟩:=h
 exact⟨es,c,hs.trans hb,r⟩
theorem Mp.Is.notcells {P:Program} {k:TypeId} {w:World} {b:Nat} {F:Value→Option Value} (h:Mp.Is P k w b F) {cs:Array Value} {t:TypeId} {z:Nat × Nat}:w.heap[b]?≠some (.cells cs t z):=fun e=>by
 obtain⟨es,c,hb,r⟩:=h
 rw[hb]at e
 cases e
abbrev Ud.Ix:=Nat × Int
def Ud.rowOf (A:Option Addr) (c:Nat) (l:List Int):Fam.Row:=⟨21,1,.slice A l.length c,l.length,Ud.ints l⟩
def Ud.rowV (v:Value) (l:List Int):Fam.Row:=⟨21,1,v,l.length,Ud.ints l⟩
def Ud.clK (K:List Rw.Row):List (Int × Int):=K.map fun r=>(r.1,r.2.1)
def Ud.innM (T M:List Rw.Row):List Int:=M.flatMap fun r=>(Ud.full T r.1).drop 1
def Ud.mpdM (M:List Rw.Row):List Int:=M.map (·.1)
def Ud.prsM (T:List Rw.Row) (X:Int→Bool) (M:List Rw.Row):List Rw.Row:=M.filter fun r=>Md.prim T X r.1
def Ud.secM (T:List Rw.Row) (X:Int→Bool) (M:List Rw.Row):List Int:=(Ud.prsM T X M).map fun r=>r.2.2.getD 1 0
def Ud.begM (T M:List Rw.Row) (c:Int):List Int:=(M.filter fun r=>decide ((Ud.full T r.1).headD 0=c)).map (·.1)
def Ud.joiM (T:List Rw.Row) (X:Int→Bool) (M:List Rw.Row) (a b:Int):Option Int:=(Ud.prsM T X M).foldl (fun o r=>if r.2.2.getD 0 0=a∧r.2.2.getD 1 0=b then some r.1 else o) none
structure Ud.Rows (T:List Rw.Row) (X:Int→Bool) (K M:List Rw.Row) (f:Ud.Ix→Option Fam.Row) (vT vc vp ve vi vs vm:Value) (ads:List (Option Addr × Nat)) (es:List Ud.At):Prop where
 la:ads.length=K.length
 le:es.length=M.length
 t:f (0,0)=some ⟨103,3,vT,K.length,Rw.fl K ads⟩
 c:f (0,1)=some ⟨178,2,vc,K.length,Pg.fl (Ud.clK K)⟩
 p:f (0,2)=some ⟨178,2,vp,M.length,Pg.fl (Ud.plG 0 M)⟩
 e:f (0,3)=some ⟨81,3,ve,M.length,Ud.flE T X M es⟩
 i:f (0,4)=some (Ud.rowV vi (Ud.innM T M))
 s:f (0,5)=some (Ud.rowV vs (Ud.secM T X M))
 m:f (0,6)=some (Ud.rowV vm (Ud.mpdM M))
 rm:∀(j:Nat) r a,K[j]?=some r→ads[j]?=some a→f (2,(j:Int))=some (Ud.rowOf a.1 a.2 r.2.2)
 em:∀(j:Nat) r a,M[j]?=some r→es[j]?=some a→f (3,(j:Int))=some (Ud.rowOf a.m a.mc r.2.2)∧f (4,(j:Int))=some (Ud.rowOf a.f a.fc (Ud.full T r.1))
def Ud.BegI (T M:List Rw.Row) (f:Ud.Ix→Option Fam.Row) (G:Value→Option Value):Prop :=
 ∀c:Int,(Ud.begM T M c=[]∧G (.int .i32 c)=none)∨∃v,G (.int .i32 c)=some v∧f (1,c)=some (Ud.rowV v (Ud.begM T M c))
def Ud.JoiI (T:List Rw.Row) (X:Int→Bool) (M:List Rw.Row) (J:Value→Option Value):Prop:=∀a c:Int,J (.agg #[.int .i32 a,.int .i32 c])=(Ud.joiM T X M a c).map (Value.int .i32)
def Ud.cells (vT:Value) (XA:Option Addr) (xn xc:Nat) (ve:Value) (mb jb:Nat):List Value:=[vT,.slice XA xn xc,.pointer none,.pointer none,ve,.map (some mb),.map (some jb),.slice none 0 0,.slice none 0 0,.slice none 0 0]
def Ud.Inv (T:List Rw.Row) (X:Int→Bool) (K M:List Rw.Row) (w:World) (base D mb jb:Nat) (XA:Option Addr) (xn xc:Nat) (vc vp vi vs vm:Value):Prop :=
 ∃f vT ve ads es G J,Fam w base f∧Rw.At w D 128 (Ud.cells vT XA xn xc ve mb jb)∧Mp.Is Tryz.prog 21 w mb G∧Mp.Is Tryz.prog 180 w jb J∧base≤w.heap.size ∧
  Ud.Rows T X K M f vT vc vp ve vi vs vm ads es∧Ud.BegI T M f G∧Ud.JoiI T X M J
section
variable {T:List Rw.Row} {X:Int→Bool} {K M:List Rw.Row} {f f':Ud.Ix→Option Fam.Row} {vT vc vp ve vi vs vm:Value} {ads:List (Option Addr × Nat)} {es:List Ud.At}
theorem Ud.get_app {α:Type} {l:List α} {a:α} {j:Nat} {x:α} (h:(l++[a])[j]?=some x):(l[j]?=some x∧j<l.length)∨(j=l.length∧a=x):=by
 rcases ZY j l.length with hl|hl
 · rw[ZU hl]at h
   exact .inl ⟨h,hl⟩
 · rw[ZF hl]at h
   have:j-l.length=0:=by
    rcases YC (j-l.length) with h0|h0
    · exact h0
    · rw[Yg (by simp;omega)]at h;cases h
   rw[this]at h
   exact .inr ⟨by omega,by simpa using h⟩
theorem Ud.Rows.addK (h:Ud.Rows T X K M f vT vc vp ve vi vs vm ads es) {r:Rw.Row} {a:Option Addr × Nat} {vT' vc':Value}
 (h0:f' (0,0)=some ⟨103,3,vT',K.length+1,Rw.fl K ads++[.int .i32 r.1,.int .i64 r.2.1,.slice a.1 r.2.2.length a.2]⟩) (h1:f' (0,1)=some ⟨178,2,vc',K.length+1,Pg.fl (Ud.clK K)++[.int .i32 r.1,.int .u16 r.2.1]⟩)
 (h2:f' (2,(K.length:Int))=some (Ud.rowOf a.1 a.2 r.2.2)) (ho:∀ix:Ud.Ix,ix.1≤5→ix≠(0,0)→ix≠(0,1)→ix≠(2,(K.length:Int))→f' ix=f ix) :
 Ud.Rows T X (K++[r]) M f' vT' vc' vp ve vi vs vm (ads++[a]) es:=by
 have same:∀i:Int,2≤i→f' (0,i)=f (0,i):=fun i hi=>ho _ (Zz _) (by intro e;cases e;omega) (by intro e;cases e;omega) (by intro e;cases e)
 refine⟨by simp[h.la],h.le,?_,?_,(same 2 (by decide)).trans h.p,(same 3 (by decide)).trans h.e,(same 4 (by decide)).trans h.i,(same 5 (by decide)).trans h.s,(same 6 (by decide)).trans h.m,fun j q b hj hb=>?_,fun j q b hj hb=>?_⟩
 · rw[h0,Rw.fl_app _ _ r a h.la,Zi];rfl
 · rw[h1]
   unfold Ud.clK
   rw[ZO,Pg.fl_app,Zi];rfl
 · rcases Ud.get_app hj with ⟨hj',hl⟩|⟨rfl,rfl⟩
   · rcases Ud.get_app hb with ⟨hb',_⟩|⟨e,_⟩
     · rw[ho _ (by show (2:Nat)≤5;decide) (by intro e;cases e) (by intro e;cases e) (by intro e;simp only[YN,XP]at e;omega)]
       exact h.rm j q b hj' hb'
     · have:=h.la;omega
   · rcases Ud.get_app hb with ⟨_,hl⟩|⟨_,rfl⟩
     · have:=h.la;omega
     · exact h2
 · rw[ho _ (by show (3:Nat)≤5;decide) (by intro e;cases e) (by intro e;cases e) (by intro e;cases e),ho _ (by show (4:Nat)≤5;decide) (by intro e;cases e) (by intro e;cases e) (by intro e;cases e)]
   exact h.em j q b hj hb
theorem Ud.Rows.addM (h:Ud.Rows T X K M f vT vc vp ve vi vs vm ads es) {r:Rw.Row} {a:Ud.At} {vp' ve' vi' vs' vm':Value}
 (h0:f' (0,2)=some ⟨178,2,vp',M.length+1,Pg.fl (Ud.plG 0 M)++[.int .i32 r.1,.int .u16 ((M.length:Int)+1)]⟩)
 (h1:f' (0,3)=some ⟨81,3,ve',M.length+1,Ud.flE T X M es++[.slice a.m r.2.2.length a.mc,.slice a.f (Ud.full T r.1).length a.fc,.bool (Md.prim T X r.1)]⟩)
 (h2:f' (0,4)=some (Ud.rowV vi' (Ud.innM T M++(Ud.full T r.1).drop 1))) (h3:f' (0,6)=some (Ud.rowV vm' (Ud.mpdM M++[r.1])))
 (h4:f' (0,5)=some (Ud.rowV vs' (Ud.secM T X (M++[r])))) (h5:f' (3,(M.length:Int))=some (Ud.rowOf a.m a.mc r.2.2)) (h6:f' (4,(M.length:Int))=some (Ud.rowOf a.f a.fc (Ud.full T r.1)))
 (ht:f' (0,0)=f (0,0)) (hc:f' (0,1)=f (0,1)) (hr:∀j:Int,f' (2,j)=f (2,j)) (h3':∀j:Int,j≠M.length→f' (3,j)=f (3,j)) (h4':∀j:Int,j≠M.length→f' (4,j)=f (4,j)) :
 Ud.Rows T X K (M++[r]) f' vT vc vp' ve' vi' vs' vm' ads (es++[a]):=by
 refine⟨h.la,by simp[h.le],ht.trans h.t,hc.trans h.c,?_,?_,?_,h4,?_,fun j q b hj hb=>(hr _).trans (h.rm j q b hj hb),fun j q b hj hb=>?_⟩
 · rw[h0,Ud.plG_app,Pg.fl_app,Zi,Z2];rfl
 · rw[h1,Ud.flE_app T X M es r a h.le,Zi];rfl
 · rw[h2]
   unfold Ud.innM
   rw[Y0]
   simp
 · rw[h3]
   unfold Ud.mpdM
   rw[ZO];rfl
 · rcases Ud.get_app hj with ⟨hj',hl⟩|⟨rfl,rfl⟩
   · rcases Ud.get_app hb with ⟨hb',_⟩|⟨e,_⟩
     · rw[h3' _ (by omega),h4' _ (by omega)]
       exact h.em j q b hj' hb'
     · have:=h.le;omega
   · rcases Ud.get_app hb with ⟨_,hl⟩|⟨_,rfl⟩
     · have:=h.le;omega
     · exact⟨h5,h6⟩
theorem Ud.BegI.keep {G:Value→Option Value} (h:Ud.BegI T M f G) (ho:∀c:Int,f' (1,c)=f (1,c)):Ud.BegI T M f' G:=by
 intro c
 rw[ho c]
 exact h c
theorem Ud.begM_app (r:Rw.Row) (c:Int):Ud.begM T (M++[r]) c=if (Ud.full T r.1).headD 0=c then Ud.begM T M c++[r.1] else Ud.begM T M c:=by
 unfold Ud.begM
 rw[Z7,ZO]
 by_cases hc:(Ud.full T r.1).headD 0=c
 · rw[Zv hc,Yj,Zv (Zo hc)];rfl
 · rw[if_neg hc,List.filter_cons,if_neg (by simpa using hc)];simp
theorem Ud.BegI.add {G G':Value→Option Value} (h:Ud.BegI T M f G) {r:Rw.Row} {v:Value} (hG:G' (.int .i32 ((Ud.full T r.1).headD 0))=some v) (aa:∀y,y≠.int .i32 ((Ud.full T r.1).headD 0)→G' y=G y)
 (hv:f' (1,(Ud.full T r.1).headD 0)=some (Ud.rowV v (Ud.begM T M ((Ud.full T r.1).headD 0)++[r.1]))) (ho:∀c:Int,c≠(Ud.full T r.1).headD 0→f' (1,c)=f (1,c)):Ud.BegI T (M++[r]) f' G':=by
 intro c
 rw[Ud.begM_app]
 by_cases hc:(Ud.full T r.1).headD 0=c
 · subst hc
   rw[Zv rfl]
   exact .inr ⟨v,hG,hv⟩
 · rw[Zs hc,aa _ (by intro e;cases e;exact hc rfl),ho c (Z6 hc)]
   exact h c
theorem Ud.prsM_app (r:Rw.Row):Ud.prsM T X (M++[r])=if Md.prim T X r.1=true then Ud.prsM T X M++[r] else Ud.prsM T X M:=by
 unfold Ud.prsM
 rw[Z7,Yj]
 cases Md.prim T X r.1 <;> simp
theorem Ud.secM_app (r:Rw.Row):Ud.secM T X (M++[r])=if Md.prim T X r.1=true then Ud.secM T X M++[r.2.2.getD 1 0] else Ud.secM T X M:=by
 unfold Ud.secM
 rw[Ud.prsM_app]
 cases Md.prim T X r.1 <;> simp
theorem Ud.JoiI.no {J:Value→Option Value} (h:Ud.JoiI T X M J) {r:Rw.Row} (hp:Md.prim T X r.1=false):Ud.JoiI T X (M++[r]) J:=by
 intro a c
 unfold Ud.joiM
 rw[Ud.prsM_app,Zs (by rw[hp];simp)]
 exact h a c
theorem Ud.JoiI.add {J J':Value→Option Value} (h:Ud.JoiI T X M J) {r:Rw.Row} (hp:Md.prim T X r.1=true) (hJ:J' (.agg #[.int .i32 (r.2.2.getD 0 0),.int .i32 (r.2.2.getD 1 0)])=some (.int .i32 r.1))
 (aa:∀y,y≠.agg #[.int .i32 (r.2.2.getD 0 0),.int .i32 (r.2.2.getD 1 0)]→J' y=J y):Ud.JoiI T X (M++[r]) J':=by
 intro a c
 unfold Ud.joiM
 rw[Ud.prsM_app,Zv hp,YY,Xb,List.foldl_nil]
 by_cases hc:r.2.2.getD 0 0=a∧r.2.2.getD 1 0=c
 · rw[Zv hc]
   obtain⟨rfl,rfl⟩:=hc
   exact hJ
 · rw[Zs hc,aa _ (by intro e;simp only[Xs,XK,Yc,Value.int.injEq,XP,YG]at e;exact hc ⟨e.1.symm,e.2.symm⟩)]
   exact h a c
end
theorem Ud.inn_len {T:List Rw.Row} (h:∀c,(Ud.full T c).length≤32):∀M:List Rw.Row,(Ud.innM T M).length≤31*M.length
 | []=>by simp[Ud.innM]
 | r::M=>by
   have h1:=Ud.inn_len h M
   have h2:=h r.1
   unfold Ud.innM at h1 ⊢
   rw[Xw,Zi,ZL,ZM]
   omega
theorem Ud.full_le {T:List Rw.Row} (c:Int):(Ud.full T c).length≤32:=by
 unfold Ud.full
 cases h:Md.full T c with
 | none=>simp
 | some l=>exact (Md.full_none h).2.2.1
theorem Md.expL_app (f:List Int→Int→Option (List Int)):∀(a b out:List Int),Md.expL f out (a++b)=(Md.expL f out a).bind fun o=>Md.expL f o b
 | [],b,out=>rfl
 | d::r,b,out=>by
   rw[ZP,Md.expL,Md.expL]
   cases f out d with
   | none=>rfl
   | some o=>exact Md.expL_app f r b o
theorem Md.expL_step {f:List Int→Int→Option (List Int)} {L out o:List Int} {k:Nat} {x:Int} (hx:L[k]?=some x) (h:Md.expL f out (L.take k)=some o):Md.expL f out (L.take (k+1))=f o x:=by
 rw[Zr,hx,Md.expL_app,h,Zt]
 show (f o x).bind (fun o=>Md.expL f o [])=f o x
 cases f o x <;> rfl
theorem Md.expL_stop {f:List Int→Int→Option (List Int)} {L out o:List Int} {k:Nat} {x:Int} (hx:L[k]?=some x) (h:Md.expL f out (L.take k)=some o) (hn:f o x=none):Md.expL f out L=none:=by
 have h1:=Md.expL_step hx h
 rw[hn]at h1
 rw[←ZH (k+1) L,Md.expL_app,h1]
 rfl
theorem Md.exp_le {mp:Int→List Int} {k:Nat} {out l:List Int} {c:Int} (ho:out.length≤32) (h:Md.exp mp k out c=some l):l.length≤32:=by
 rw[Md.exp_lv mp k out c ho]at h
 cases hl:Md.lv mp k c with
 | none=>rw[hl]at h;cases h
 | some a =>
   rw[hl,Zt]at h
   unfold Md.fit at h
   split at h
   · cases h;simpa using ‹_›
   · cases h
theorem Md.exp_leaf {mp:Int→List Int} (k:Nat) {out:List Int} {c:Int} (h:mp c=[]):Md.exp mp k out c=Md.leaf out c:=by
 cases k with
 | zero=>rw[Md.exp,Zv h]
 | succ k=>rw[Md.exp,Zv h]
theorem Md.kept_of {w w':World} {base:Nat} {e:TypeId} {size n:Nat} {v:Value} {xs:List Value} {row:Option Nat} (h:w.ownsRow base e size v n xs) (hg:w.grownBy w' row) (hr:∀k,row=some k→k<base):w'.ownsRow base e size v n xs:=by
 refine h.kept hg ?_
 cases hv:v.ownBlock with
 | none=>exact .inl rfl
 | some g =>
   refine .inr fun e'=>?_
   have h1:=hr g e'.symm
   have h2:=(h.lt g hv).1
   omega
def Md.RetExp (W0:World) (w:World) (vo:Value) (o:Option (List Int)) (e:Ending) (w':World):Prop :=
 ∃A n c,e=.returned (.tuple #[.slice A n c,.bool o.isSome])∧(∀l,o=some l→w'.ownsRow W0.heap.size 21 1 (.slice A n c) l.length (l.map (Value.int .i32))∧∀g,(Value.slice A n c).ownBlock=some g→vo.ownBlock=some g∨w.heap.size≤g)∧w.grownBy w' vo.ownBlock
def Md.Exps (T:List Rw.Row) (W0:World) (v:Value) (k:Nat):Prop :=
 ∀(l:List Int) (vo:Value) (c:Int) (deep:Nat) (w:World),deep+k=T.length+3 → -2147483648≤c→c≤2147483647→l.length≤32→Below W0.heap.size W0 w→w.ownsRow W0.heap.size 21 1 vo l.length (l.map (Value.int .i32)) →
  Calls Tryz.prog 156 #[v,vo,.int .i32 c,.int .i64 deep] w (Md.RetExp W0 w vo (Md.exp (Md.mp T) k l c))
set_option maxRecDepth 100000 in
set_option maxHeartbeats 4000000 in
theorem Md.exp_step (T:List Rw.Row) (S:List Int) (W0:World) (v:Value) (ok:Md.Ok T) (h0:Md.Is W0 v T S) (k:Nat) (IH:∀k',k=k'+1→Md.Exps T W0 v k'):Md.Exps T W0 v k:=by
 intro l vo c deep w hd h3 h4 hl b2 ar
 obtain⟨j0,hj0,dt,di,dv⟩:=Yf infoRune
 have hv:=h0
 obtain⟨A,cc,XA,xc,rfl,h2,hX⟩:=hv
 obtain⟨xn,cy⟩:∃k,S.length=k:=⟨_,rfl⟩
 obtain⟨n,hn⟩:∃k,T.length=k:=⟨_,rfl⟩
 have dz:n≤1000000:=by rw[←hn];exact ok.1
 rw[hn]at hd
 have dm:=Za hn
 rw[hn,cy]at h0 IH ⊢
 obtain⟨AO,co,rfl⟩:=own_form ar
 have cm:Below w.heap.size w (w.alloc (.cells #[.slice A n cc,.slice XA xn xc] 120)):=(Zd _ _).alloc (Zb _) _
 have b4:Rw.At (w.alloc (.cells #[.slice A n cc,.slice XA xn xc] 120)) w.heap.size 120 [.slice A n cc,.slice XA xn xc]:=Rw.At.new w 120 [.slice A n cc,.slice XA xn xc]
 have dh:=b2.trans (cm.mono b2.size)
 have hM:=Md.map_any _ T S c _ ok (h0.below dh) h3 h4
 have cj:=Md.mp_bd ok.2.2.1 c
 have ct:(Md.mp T c).length≤1000000:=by
  unfold Md.mp Md.rmp
  split
  · simp
  · cases hf:Md.find T c with
    | none=>simp
    | some r=>exact ok.2.2.2 r (Md.find_some hf).1
 have z0:=b4.cell 0 rfl
 have z1:=b4.cell 1 rfl
 have bq:=b4
 obtain⟨m,hm⟩:∃m,Md.mp T c=m:=⟨_,rfl⟩
 rw[hm]at cj hM ct
 obtain⟨f,hf⟩:∃f,Md.exp (Md.mp T) k l c=f:=⟨_,rfl⟩
 rw[hf]
 have HM:=Za hm
 have HF:=Za hf
 have dn:=Za cj
 have b5:=Za IH
 have ch:=Za ar
 have cw:=Za cm
 have b3:=Za b2
 have df:∀g,(Value.slice AO l.length co).ownBlock=some g→W0.heap.size≤g∧g<w.heap.size:=fun g hg=>ar.lt g hg
 have bw:=Za df
 have cf:=Za bq
 unfold Md.RetOwn at hM
 clear h0 h2 hX hn cy cm b4 bq ok hm hf cj IH ar dh b2 df
 unfold Md.tv at *
 go_enter Tryz.func156,Tryz.ntmps156
 go_wp2_with fail
 refine hM.mono ?_
 rintro e w1 ⟨A1,c1,rfl,az,bx⟩
 have bz:=cw.out.trans (bx.mono cw.out.size)
 have dl:w.heap.size<w1.heap.size:=Ze (by simp) bx.size
 have bs:=cf.out.below bx
 have ay:=own_below ch.out bz (Zb _)
 have cu:=(Rw.grown_below bz).but (Value.slice AO l.length co).ownBlock
 have cg:=b3.out.trans (bz.mono b3.out.size)
 have cb:=cg.size
 have a6:=Za bs
 have ax:=Za ay
 have bo:=Za cu
 have ea:=Za cg
 have cr:=Za az
 have eb:(l.map (Value.int .i32)).length=l.length:=Zf _
 clear bz bs ay cu cg az bx hM z0 z1
 rcases m with _|⟨m0,mr⟩
 · have aj:f=Md.leaf l c:=by rw[←HF.out];exact Md.exp_leaf k HM.out
   have aw:f.isSome=decide ((l.length:Int)<32):=by
    rw[aj]
    unfold Md.leaf
    by_cases h:l.length<32
    · rw[Zv h,Zo (by omega)];rfl
    · rw[Zs h,Zu (by omega)];rfl
   have bc:=Za aj
   have bg:=Za aw
   have ec:(w1.alloc (.cells #[.int .i32 c] 21)).heap.size=w1.heap.size+1:=by simp
   clear aj aw b5
   go_wp2_with (at_builtin;refine wpList_append_lies _ rfl _ _ 25 rfl W0.heap.size 21 j0 _ 1 4 Tryz.underlying25 hj0 dt di dv rfl (by omega) _ l.length (l.map (Value.int .i32)) rfl (ax.out.alloc _) ⟨w1.heap.size,0,none⟩ 1 1 [.int .i32 c] rfl rfl (cell_one_new _ _ _) (by intro u hu;simp only[List.mem_singleton]at hu;subst hu;rfl) (by omega) (by unfold maxLen;omega) (by omega) (by omega) _ rfl ?_;intro g cap w2 av bl aa b7)
   have bh:=Za av
   have ae:=Za aa
   have dp:=Za (bo.out.andThen ((Yi w1 (.cells #[.int .i32 c] 21) (Value.slice AO l.length co).ownBlock).trans bl) fun j hj=>.inr hj)
   clear av bl aa
   go_wp2_with fail
   go_ret2
   refine⟨some ⟨g,0,none⟩,l.length+1,cap,?_,fun l' af=>?_,dp.out⟩
   · rw[bg.out];rfl
   have bu:l.length<32∧l'=l++[c]:=by
    rw[bc.out]at af
    unfold Md.leaf at af
    split at af
    · cases af;exact⟨‹_›,rfl⟩
    · cases af
   obtain⟨_,rfl⟩:=bu
   refine⟨?_,fun g' c6=>?_⟩
   · have:=bh.out
     rw[Zi,ZO]
     exact this
   · simp only[Value.ownBlock,Zg]at c6
     subst c6
     rcases ae.out with h|h
     · exact .inl h
     · exact .inr (by omega)
 · have hne:Md.mp T c≠[]:=by rw[HM.out];exact fun e=>by cases e
   have q1:((mr.length:Int)+1 == 0)=false:=by simp;omega
   have bm:(m0::mr).length=mr.length+1:=rfl
   rcases k with _|k
   · have au:f=none:=by rw[←HF.out,Md.exp,Zs hne]
     have bk:=Za au
     have br:(n:Int)+2<deep:=by omega
     have bi:=a6.out
     have z2:=bi.cell 0 rfl
     clear au b5 bi hne
     go_wp2_with fail
     go_ret2
     refine⟨AO,l.length,co,?_,fun l' af=>?_,bo.out⟩
     · rw[bk.out];rfl
     · rw[bk.out]at af;cases af
   · have au:f=Md.expL (Md.exp (Md.mp T) k) l (m0::mr):=by rw[←HF.out,Md.exp,Zs hne,HM.out]
     have bk:=Za au
     have br:¬(n:Int)+2<deep:=by omega
     have cx:Md.Exps T W0 (.agg #[.slice A n cc,.slice XA xn xc]) k:=b5.out k rfl
     have HI:=Za cx
     have bi:=a6.out
     have z2:=bi.cell 0 rfl
     obtain⟨q,hq⟩:∃q,(m0::mr).length=q:=⟨_,rfl⟩
     have ap:=cr.out
     rw[hq]at ap ⊢
     have q2:((q:Int) == 0)=false:=by rw[←hq];simp;omega
     rw[hq]at ct
     have HQ:=Za hq
     have cq:=Za ap
     have bj:(Value.slice AO l.length co).ownBlock≠some w.heap.size:=fun e=>by have:=(bw.out _ e).2;omega
     have bn:=Za bj
     obtain⟨vb,cp⟩:∃vb,(Value.slice AO l.length co).ownBlock=vb:=⟨_,rfl⟩
     rw[cp]at bo bn bw
     have b1:=Za cp
     clear au b5 bi hne cx hq ap cr q1 bm bj cp
     go_wp2_with fail
     go_loopw [1,11,13,36] (fun v1 v11 _ i wr=>∃(t:Nat) (A2:Option Addr) (c2:Nat) (ls:List Int),t≤q∧i=.int .i64 t∧v1=.slice A2 ls.length c2∧v11=.bool true∧Md.expL (Md.exp (Md.mp T) k) l ((m0::mr).take t)=some ls∧ls.length≤32∧wr.ownsRow W0.heap.size 21 1 (.slice A2 ls.length c2) ls.length (ls.map (Value.int .i32))∧(∀g,(Value.slice A2 ls.length c2).ownBlock=some g→vb=some g∨w1.heap.size≤g)∧w1.grownBy wr vb) (fun _ _ _ i _=>q-(intOf i).toNat)
     case atStart=>exact⟨0,AO,co,l,Zz _,rfl,rfl,rfl,rfl,hl,ax.out,fun g hg=>.inl (by rw[←b1.out];exact hg),(Rw.grown_below (Zd _ _)).but _⟩
     case round =>
      obtain⟨t,A2,c2,ls,ht,rfl,rfl,rfl,a1,cz,ah,aa,ba⟩:=hrel
      have aq:=a6.out.grown ba bn.out
      have cd:=Md.kept_of cq.out ba (fun g hg=>by have:=(bw.out g hg).2;simp;omega)
      have ck:=Sl.of_own cd
      have b6:=bo.out.andThen ba fun j hj=>.inr hj
      have b8:Below W0.heap.size W0 wr:=b3.out.trans (Rw.below_grown b6 b3.out.size fun g hg=>(bw.out g hg).1)
      have y0:=aq.cell 0 rfl
      have y1:=aq.cell 1 rfl
      have dw:=ba.size
      have a7:=Za a1
      have bf:=Za ah
      have ae:=Za aa
      have dr:=Za ba
      have du:=Za b6
      by_cases b7:t<q
      · obtain⟨x,hx⟩:∃x,(m0::mr)[t]?=some x:=⟨_,Zc (by rw[HQ.out];exact b7)⟩
        have c8:=dn.out x (Zk hx)
        obtain⟨ab,ao,rfl,dx,cv⟩:=ck (by rw[Zf,HQ.out];omega)
        have hc:=cv t (by rw[Zf,HQ.out];exact b7)
        rw[Zl,hx,Zn]at hc
        have ag:=HI.out ls _ x (deep+1) wr (by rw[dm.out];omega) c8.1 c8.2 cz b8 ah
        rw[show ((deep+1:Nat):Int)=(deep:Int)+1 by omega]at ag
        obtain⟨o,ho⟩:∃o,Md.exp (Md.mp T) k ls x=o:=⟨_,rfl⟩
        rw[ho]at ag
        have HX:=Za hx
        have HO:=Za ho
        have tI:(t:Int)<q:=by omega
        clear a1 ah aa ba b6 b8 aq cd ck cv hx ho
        go_wp2_with fail
        refine ag.mono ?_
        rintro e w2 ⟨A3,n3,c3,rfl,bb,dc⟩
        have c7:=dr.out.andThen dc fun j hj=>by
         rcases ae.out j hj with h|h
         · exact .inr h
         · exact .inl h
        have cn:=Za c7
        have b9:=Za bb
        clear dc c7 bb ag
        rcases o with _|l3
        · have au:f=none:=by rw[bk.out];exact Md.expL_stop HX.out a7.out HO.out
          have bt:=Za au
          clear au
          go_wp2_with fail
          go_ret2
          refine⟨A3,n3,c3,?_,fun l' af=>?_,?_⟩
          · rw[bt.out];rfl
          · rw[bt.out]at af;cases af
          · rw[b1.out];exact bo.out.andThen cn.out fun j hj=>.inr hj
        · obtain⟨ai,ak⟩:=b9.out l3 rfl
          obtain⟨A4,c4,h4⟩:=own_form ai
          injection h4 with h4a h4b h4c
          subst h4a h4b h4c
          have bp:=Za ai
          have a8:=Za ak
          have dk:=Md.exp_le cz HO.out
          have dy:=cn.out.size
          clear ai ak
          go_wp2_with fail
          refine⟨⟨t+1,A3,c3,l3,by omega,by go_num,rfl,rfl,?_,dk,bp.out,fun g hg=>?_,cn.out⟩,by simp[intOf];omega⟩
          · rw[Md.expL_step HX.out a7.out,HO.out]
          · rcases a8.out g hg with h|h
            · exact ae.out g h
            · exact .inr (Zh dw h)
      · obtain rfl:t=q:=by omega
        have tI:¬(t:Int)<t:=by omega
        clear a1 ah aa ba b6 b8 aq cd ck
        go_wp2_with fail
        go_ret2
        have hf:f=some ls:=by
         have:=a7.out
         rw[Zj (by rw[HQ.out];exact Zb _)]at this
         rw[bk.out,this]
        refine⟨A2,ls.length,c2,?_,fun l' af=>?_,?_⟩
        · rw[hf];rfl
        · rw[hf]at af
          cases af
          refine⟨bf.out,fun g hg=>?_⟩
          rw[b1.out]
          rcases ae.out g hg with h|h
          · exact .inl h
          · exact .inr (by omega)
        · rw[b1.out];exact du.out
theorem Md.exp_any (T:List Rw.Row) (S:List Int) (W0:World) (v:Value) (ok:Md.Ok T) (h0:Md.Is W0 v T S):∀k,Md.Exps T W0 v k
 | 0=>Md.exp_step T S W0 v ok h0 0 fun k' h=>absurd h (by omega)
 | k+1=>Md.exp_step T S W0 v ok h0 (k+1) fun k' h=>by
   obtain rfl:k=k':=by omega
   exact Md.exp_any T S W0 v ok h0 k
set_option maxRecDepth 100000 in
set_option maxHeartbeats 1000000 in
theorem Md.full_any (v:Value) (T:List Rw.Row) (S:List Int) (d:Int) (w:World) (ok:Md.Ok T) (h:Md.Is w v T S) (h3 : -2147483648≤d) (h4:d≤2147483647) :
 Calls Tryz.prog 120 #[v,.int .i32 d] w (Md.RetOwn ((Md.full T d).getD []) w):=by
 have hv:=h
 obtain⟨A,c,XA,xc,rfl,h2,hX⟩:=hv
 obtain⟨xn,ak⟩:∃k,S.length=k:=⟨_,rfl⟩
 obtain⟨n,hn⟩:∃k,T.length=k:=⟨_,rfl⟩
 rw[hn,ak]at h ⊢
 have af:Below w.heap.size w (w.alloc (.cells #[.slice A n c,.slice XA xn xc] 120)):=(Zd _ _).alloc (Zb _) _
 have ag:Rw.At (w.alloc (.cells #[.slice A n c,.slice XA xn xc] 120)) w.heap.size 120 [.slice A n c,.slice XA xn xc]:=Rw.At.new w 120 [.slice A n c,.slice XA xn xc]
 have hE:=Md.exp_any T S _ _ ok (h.below af) (T.length+3) [] (.slice none 0 0) d 0 _ (by omega) h3 h4 (by simp) (Zd _ _) (ZG _ _ _ _)
 have ai:Md.exp (Md.mp T) (T.length+3) [] d=Md.full T d:=rfl
 rw[ai]at hE
 obtain⟨o,ho⟩:∃o,Md.full T d=o:=⟨_,rfl⟩
 rw[ho]at hE ⊢
 have hole:∀l,o=some l→l.length≤32:=fun l hl=>Md.exp_le (by simp) (ai.trans (ho.trans hl))
 have z0:=ag.cell 0 rfl
 have z1:=ag.cell 1 rfl
 have HB:=Za af
 have ap:=Za hole
 clear h h2 hX hn ak af ag ok ai ho hole
 unfold Md.tv at hE ⊢
 go_enter Tryz.func120,Tryz.ntmps120
 go_wp2_with fail
 refine hE.mono ?_
 rintro e w1 ⟨A1,n1,c1,rfl,ae,hg⟩
 have aj:=Za (HB.out.trans (Rw.below_grown hg HB.out.size fun k hk=>by cases hk))
 have ah:=Za ae
 clear ae hg hE z0 z1
 rcases o with _|l
 · go_wp2_with fail
   go_ret
   exact⟨none,0,rfl,ZG _ _ _ _,aj.out⟩
 · obtain⟨aa,_⟩:=ah.out l rfl
   obtain⟨A4,c4,ao⟩:=own_form aa
   injection ao with h4a h4b h4c
   subst h4a h4b h4c
   have HO:=Za (own_base aa (by simp:w.heap.size≤(w.alloc (.cells #[.slice A n c,.slice XA xn xc] 120)).heap.size))
   clear aa
   go_wp2_with fail
   go_ret
   exact⟨A1,c1,rfl,HO.out,aj.out⟩
end Go.Proofs.YtbeakahjbkdeiaaGreatDoor
