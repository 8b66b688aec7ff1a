/- What a loaded table looks like in memory. -/
import Derived.Test.YtikiplbhlohmdaaGreatDoorCpChPlain2
set_option linter.unusedVariables false
set_option linter.unusedSimpArgs false
namespace Go.Proofs.YtikiplbhlohmdaaGreatDoor
open Go.RowKit
structure Ud.At where
 m:Option Addr
 mc:Nat
 f:Option Addr
 fc:Nat
def Ud.flE (T:List Rw.Row) (X:Int→Bool):List Rw.Row→List Ud.At→List Value
 | r::l,a::es=>.slice a.m r.2.2.length a.mc::.slice a.f (Ud.full T r.1).length a.fc::.bool (Md.prim T X r.1)::Ud.flE T X l es
 | _,_=>[]
theorem Ud.flE_len (T:List Rw.Row) (X:Int→Bool):∀(l:List Rw.Row) (es:List Ud.At),es.length=l.length→(Ud.flE T X l es).length=l.length*3
 | [],_,_=>by simp[Ud.flE]
 | r::l,[],h=>by simp at h
 | r::l,a::es,h=>by simp[Ud.flE,Ud.flE_len T X l es (by simpa using h)];omega
theorem Ud.flE_app (T:List Rw.Row) (X:Int→Bool):∀(l:List Rw.Row) (es:List Ud.At) (r:Rw.Row) (a:Ud.At),es.length=l.length→Ud.flE T X (l++[r]) (es++[a])=Ud.flE T X l es++[.slice a.m r.2.2.length a.mc,.slice a.f (Ud.full T r.1).length a.fc,.bool (Md.prim T X r.1)]
 | [],[],r,a,_=>rfl
 | [],_::_,_,_,h=>by simp at h
 | _::_,[],_,_,h=>by simp at h
 | q::l,b::es,r,a,h=>by simp[Ud.flE,Ud.flE_app T X l es r a (by simpa using h)]
theorem Ud.flE_get (T:List Rw.Row) (X:Int→Bool):∀(l:List Rw.Row) (es:List Ud.At) (i:Nat) (r:Rw.Row) (a:Ud.At),l[i]?=some r→es[i]?=some a →
 (Ud.flE T X l es)[i*3]?=some (.slice a.m r.2.2.length a.mc)∧(Ud.flE T X l es)[i*3+1]?=some (.slice a.f (Ud.full T r.1).length a.fc)∧(Ud.flE T X l es)[i*3+2]?=some (.bool (Md.prim T X r.1))
 | [],_,_,_,_,h,_=>by simp at h
 | _::_,[],_,_,_,_,h=>by simp at h
 | q::l,b::es,0,r,a,h1,h2=>by
   simp at h1 h2
   subst h1;subst h2
   simp[Ud.flE]
 | q::l,b::es,i+1,r,a,h1,h2=>by
   have:=Ud.flE_get T X l es i r a (by simpa using h1) (by simpa using h2)
   rw[show (i+1)*3=i*3+3 by omega]
   simpa [Ud.flE] using this
def Ud.ints (l:List Int):List Value:=l.map (Value.int .i32)
def Ud.Ents (w:World) (T:List Rw.Row) (X:Int→Bool) (A:Option Addr) (es:List Ud.At):Prop :=
 es.length=(Ud.mr T).length∧Sl w w.heap.size A (Ud.flE T X (Ud.mr T) es)∧∀(i:Nat) r a,(Ud.mr T)[i]?=some r→es[i]?=some a→Sl w w.heap.size a.m (Ud.ints r.2.2)∧Sl w w.heap.size a.f (Ud.ints (Ud.full T r.1))
theorem Ud.Ents.below {w w':World} {T:List Rw.Row} {X:Int→Bool} {A:Option Addr} {es:List Ud.At} (h:Ud.Ents w T X A es) (hb:Below w.heap.size w w'):Ud.Ents w' T X A es :=
 ⟨h.1,h.2.1.below hb hb.size,fun i r a h1 h2=>⟨(h.2.2 i r a h1 h2).1.below hb hb.size,(h.2.2 i r a h1 h2).2.below hb hb.size⟩⟩
def Ud.Beg (w:World) (T:List Rw.Row) (b:Nat):Prop:=∃F:Value→Option Value,Mp.Is Tryz.prog 21 w b F ∧
 ∀c:Int,(Ud.beg T T c=[]∧F (.int .i32 c)=none)∨∃A cap,F (.int .i32 c)=some (.slice A (Ud.beg T T c).length cap)∧Sl w w.heap.size A (Ud.ints (Ud.beg T T c))
def Ud.Joi (w:World) (T:List Rw.Row) (X:Int→Bool) (b:Nat):Prop:=∃F:Value→Option Value,Mp.Is Tryz.prog 168 w b F∧∀a c:Int,F (.agg #[.int .i32 a,.int .i32 c])=(Ud.joi T X T a c).map (Value.int .i32)
structure Ud.Is (w:World) (v:Value) (T:List Rw.Row) (S:List Int):Prop where
 is:∃b A0 c0 XA xc pc pp A3 c3 mb jb A4 c4 A5 c5 A6 c6 es,
  v=.pointer (some ⟨b,0,none⟩) ∧
  Rw.At w b 135 [.slice A0 (Ud.keep T).length c0,.slice XA S.length xc,pc,pp,.slice A3 (Ud.mr T).length c3,.map (some mb),.map (some jb),.slice A4 (C.chars (Ud.inn T T)).length c4,.slice A5 (C.chars (Ud.sec T (C.mem S) T)).length c5,.slice A6 (C.chars (Ud.mpd T)).length c6] ∧
  Rw.Sees w A0 (Ud.keep T)∧Sl w w.heap.size XA (Ud.ints S)∧Pg.Of w pc (Pg.last (Ud.cl T))∧Pg.Of w pp (Pg.last (Ud.pl T))∧Ud.Ents w T (C.mem S) A3 es∧Ud.Beg w T mb∧Ud.Joi w T (C.mem S) jb ∧
  Sl w w.heap.size A4 (Ud.ints (C.chars (Ud.inn T T)))∧Sl w w.heap.size A5 (Ud.ints (C.chars (Ud.sec T (C.mem S) T)))∧Sl w w.heap.size A6 (Ud.ints (C.chars (Ud.mpd T)))
theorem Ud.Beg.below {w w':World} {T:List Rw.Row} {b:Nat} (h:Ud.Beg w T b) (hb:Below w.heap.size w w'):Ud.Beg w' T b:=by
 obtain⟨F,h1,h2⟩:=h
 refine⟨F,h1.below hb,fun c=>?_⟩
 rcases h2 c with h|⟨A,cap,h3,h4⟩
 · exact .inl h
 · exact .inr ⟨A,cap,h3,h4.below hb hb.size⟩
theorem Ud.Joi.below {w w':World} {T:List Rw.Row} {X:Int→Bool} {b:Nat} (h:Ud.Joi w T X b) (hb:Below w.heap.size w w'):Ud.Joi w' T X b:=by
 obtain⟨F,h1,h2⟩:=h
 exact⟨F,h1.below hb,h2⟩
theorem Ud.Is.below {w w':World} {v:Value} {T:List Rw.Row} {S:List Int} (h:Ud.Is w v T S) (hb:Below w.heap.size w w'):Ud.Is w' v T S:=by
 obtain⟨b,A0,c0,XA,xc,pc,pp,A3,c3,mb,jb,A4,c4,A5,c5,A6,c6,es,h1,h2,h3,h4,h5,h6,h7,h8,h9,ae,af,aa⟩:=h.is
 exact⟨b,A0,c0,XA,xc,pc,pp,A3,c3,mb,jb,A4,c4,A5,c5,A6,c6,es,h1,h2.below hb,h3.below hb,h4.below hb hb.size,h5.below hb,h6.below hb,h7.below hb,h8.below hb,h9.below hb,ae.below hb hb.size,af.below hb hb.size,aa.below hb hb.size⟩
structure Ud.Ok (T:List Rw.Row) (S:List Int):Prop where
 chk:Md.chk T (C.mem S)=0
 srt:C.srt S
 len:T.length≤10000
 slen:S.length≤1000000
theorem Ud.Ok.good {T:List Rw.Row} {S:List Int} (h:Ud.Ok T S):∀r∈T,Md.good r:=(Md.chk_none h.chk).1
theorem Ud.Ok.rises {T:List Rw.Row} {S:List Int} (h:Ud.Ok T S):Md.rises T:=(Md.chk_none h.chk).2.1
theorem Ud.Is.form {w:World} {v:Value} {T:List Rw.Row} {S:List Int} (h:Ud.Is w v T S):∃b,v=.pointer (some ⟨b,0,none⟩)∧b<w.heap.size:=by
 obtain⟨b,A0,c0,XA,xc,pc,pp,A3,c3,mb,jb,A4,c4,A5,c5,A6,c6,es,h1,h2,_⟩:=h.is
 exact⟨b,h1,h2.lt⟩
end Go.Proofs.YtikiplbhlohmdaaGreatDoor
namespace Go.Proofs.YtikiplbhlohmdaaGreatDoor
theorem Ud.good_bd {r:Rw.Row} (h:Md.good r):0≤r.1∧r.1≤1114111:=by
 have:=h.1
 unfold C.isC at this
 simp only[Zm]at this
 exact⟨this.1,this.2.1⟩
theorem Ud.Ok.bd {T:List Rw.Row} {S:List Int} (h:Ud.Ok T S):Md.bd T:=by
 intro r hr
 have hg:=h.good r hr
 have h1:=Ud.good_bd hg
 refine⟨by omega,fun c hc=>?_⟩
 have:=(hg.2.2.2.2.2 c hc).1
 unfold C.isC at this
 simp only[Zm]at this
 omega
theorem Ud.get_cls {T:List Rw.Row} {S:List Int} (h:Ud.Ok T S) (c:Int):Pg.get (Pg.last (Ud.cl T)) c=Md.cls T c:=by
 unfold Pg.get
 rw[Ud.cls_last h.rises (fun r hr=>(h.good r hr).2.1)]
 split
 · rfl
 · rename_i hc
   unfold Md.cls
   cases hf:Md.find T c with
   | none=>rfl
   | some r =>
     obtain⟨h1,h2⟩:=Md.find_some hf
     have:=Ud.good_bd (h.good r h1)
     omega
theorem Ud.cls_bd {T:List Rw.Row} {S:List Int} (h:Ud.Ok T S) (c:Int):0≤Md.cls T c∧Md.cls T c≤254:=by
 unfold Md.cls
 cases hf:Md.find T c with
 | none=>simp
 | some r =>
   have:=h.good r (Md.find_some hf).1
   exact⟨this.2.1,this.2.2.1⟩
theorem Ud.get_pl {T:List Rw.Row} {S:List Int} (h:Ud.Ok T S) (c:Int):(∃(i:Nat) (r:Rw.Row),(Ud.mr T)[i]?=some r∧r.1=c∧Md.find T c=some r∧0<r.2.2.length∧Pg.get (Pg.last (Ud.pl T)) c=(i:Int)+1)∨(Pg.get (Pg.last (Ud.pl T)) c=0∧Md.rmp T c=[]):=by
 rcases Ud.mr_find h.rises c with ⟨i,r,h1,h2,h3,h4⟩|⟨h1,h2⟩
 · refine .inl ⟨i,r,h1,h2,h3,h4,?_⟩
   have hb:=Ud.good_bd (h.good r (Md.find_some h3).1)
   unfold Pg.get
   rw[Zp (by omega),←h2,Ud.place_at h.rises h1]
 · refine .inr ⟨?_,h2⟩
   unfold Pg.get
   rw[Ud.place_no h1]
   simp
theorem Ud.full_one {T:List Rw.Row} {c:Int} (hr:Md.rmp T c=[]) (hk:Hg.ofK c<4):Ud.full T c=[c]:=by
 unfold Ud.full
 rw[(Ud.none_mp hr hk).2]
 rfl
theorem Ud.full_split {T:List Rw.Row} {S:List Int} (h:Ud.Ok T S) {c:Int} (hs:Hg.splitK c≠[]):Ud.full T c=Hg.splitK c:=by
 have hk:Hg.ofK c=4∨Hg.ofK c=5:=by
  unfold Hg.splitK at hs
  by_cases h4:Hg.ofK c=4
  · exact .inl h4
  · by_cases h5:Hg.ofK c=5
    · exact .inr h5
    · rw[Zl h4,Zl h5]at hs
      exact absurd rfl hs
 unfold Ud.full
 rw[Ud.full_syl h.good hk]
 rfl
theorem Ud.split_kind {c:Int} (hs:Hg.splitK c=[]):Hg.ofK c<4:=by
 have:=Ud.kind_le c
 unfold Hg.splitK at hs
 by_cases h4:Hg.ofK c=4
 · rw[Zp h4]at hs;cases hs
 · by_cases h5:Hg.ofK c=5
   · rw[Zl h4,Zp h5]at hs;cases hs
   · omega
theorem Ud.plain_mp {T:List Rw.Row} (c:Int):(Md.rmp T c=[]∧Hg.ofK c<4)↔Md.mp T c=[]:=by
 have hk:=Ud.kind_le c
 unfold Md.mp
 rw[Ud.pair_kind]
 by_cases h4:4≤Hg.ofK c
 · rw[Zn h4,Zp rfl]
   simp
   omega
 · rw[Zo h4,Zl (by simp)]
   constructor
   · exact fun h=>h.1
   · exact fun h=>⟨h,by omega⟩
theorem Ud.isC_bd {c:Int} (h:C.isC c=true):0≤c∧c≤1114111:=by
 unfold C.isC at h
 simp only[Zm]at h
 exact⟨h.1,h.2.1⟩
def C.ltN:List Int→Int→Nat
 | [],_=>0
 | x::t,d=>if x<d then C.ltN t d+1 else 0
def C.hit (l:List Int) (d:Int):Bool:=l[C.ltN l d]? == some d
theorem C.ltN_le:∀(l:List Int) (d:Int),C.ltN l d≤l.length
 | [],_=>Zb _
 | x::t,d=>by
   show (if x<d then C.ltN t d+1 else 0)≤t.length+1
   have:=C.ltN_le t d
   split <;> omega
theorem C.ltN_lt:∀{l:List Int} (_:C.srt l) {k:Nat} {x:Int},l[k]?=some x→∀d,(x<d↔k<C.ltN l d)
 | [],_,k,x,h,d=>by simp at h
 | y::t,hs,0,x,h,d=>by
   simp at h
   subst h
   show _↔0<(if y<d then C.ltN t d+1 else 0)
   split <;> simp_all
 | y::t,hs,k+1,x,h,d=>by
   have h':t[k]?=some x:=by simpa using h
   have:=C.ltN_lt (C.srt_tail hs) h' d
   have hy:=C.srt_head hs x (Zk h')
   show _↔k+1<(if y<d then C.ltN t d+1 else 0)
   split
   · rw[this];omega
   · constructor
     · intro hx;omega
     · intro hx;omega
theorem C.mem_par:∀{l:List Int} (_:C.srt l) (d:Int),C.mem l d=(((C.ltN l d+(if C.hit l d=true then 1 else 0))%2) == 1)
 | [],_,d=>rfl
 | x::t,hs,d=>by
   have ih:=C.mem_par (C.srt_tail hs) d
   rw[C.mem_cons]
   rcases Int.lt_trichotomy x d with h|h|h
   · have e1:C.ltN (x::t) d=C.ltN t d+1:=by show (if x<d then _ else _)=_;rw[Zp h]
     have e2:C.hit (x::t) d=C.hit t d:=by unfold C.hit;rw[e1];simp
     rw[Zn (by omega),e1,e2,ih]
     generalize (if C.hit t d=true then 1 else 0)=q
     rcases Nat.mod_two_eq_zero_or_one (C.ltN t d+q) with h0|h0
     · rw[h0,show (C.ltN t d+1+q)%2=1 by omega];rfl
     · rw[h0,show (C.ltN t d+1+q)%2=0 by omega];rfl
   · subst h
     have e1:C.ltN (x::t) x=0:=by show (if x<x then _ else _)=_;rw[Zl (by omega)]
     have e2:C.hit (x::t) x=true:=by unfold C.hit;rw[e1];simp
     rw[Zn (by omega),C.mem_low' hs (by omega),e1,e2];rfl
   · have e1:C.ltN (x::t) d=0:=by show (if x<d then _ else _)=_;rw[Zl (by omega)]
     have e2:C.hit (x::t) d=false:=by unfold C.hit;rw[e1];simp;omega
     rw[Zo (by omega),e1,e2];rfl
end Go.Proofs.YtikiplbhlohmdaaGreatDoor
namespace Go.Proofs.YtikiplbhlohmdaaGreatDoor
open Go.RowKit
theorem C.nanC_any (x:Int) (w:World):Calls Tryz.prog 206 #[.int .i32 x] w fun e w'=>e=.returned (.bool false)∧w=w':=by
 go_enter Tryz.func206,Tryz.ntmps206
 go_wp2
 go_ret
 exact⟨by simp,rfl⟩
set_option maxRecDepth 100000 in
theorem C.lessR_any (x y:Int) (w:World):Calls Tryz.prog 171 #[.int .i32 x,.int .i32 y] w fun e w'=>e=.returned (.bool (decide (x<y)))∧w=w':=by
 go_enter Tryz.func171,Tryz.ntmps171
 go_wp2_with fail
 refine (C.nanC_any _ _).mono ?_
 rintro e w1 ⟨rfl,rfl⟩
 go_wp2
 go_ret
 exact⟨rfl,rfl⟩
set_option maxRecDepth 100000 in
set_option maxHeartbeats 2000000 in
theorem C.search_any (A:Option Addr) (c n B:Nat) (l:List Int) (d:Int) (w:World) (hn:l.length=n) (ag:n≤1000000) (hs:C.srt l) (hA:Sl w B A (l.map (Value.int .i32))) :
 Calls Tryz.prog 221 #[.slice A n c,.int .i32 d] w (fun e w'=>e=.returned (.tuple #[.int .i64 (C.ltN l d:Nat),.bool (C.hit l d)])∧Below w.heap.size w w'):=by
 have HN:=Za hn
 have HS:=Za hs
 have hP:=C.ltN_le l d
 rw[hn]at hP
 obtain⟨P,hp⟩:∃P,C.ltN l d=P:=⟨_,rfl⟩
 rw[hp]at hP
 have HP:=Za hp
 clear hn hs hp
 go_enter Tryz.func221,Tryz.ntmps221
 go_wp2
 go_loop [7,8] (fun vi vj=>∃i j:Nat,i≤P∧P≤j∧j≤n∧vi=.int .i64 i∧vj=.int .i64 j) (fun vi vj=>(intOf vj).toNat-(intOf vi).toNat)
 case atStart=>exact⟨0,n,by omega,hP,Zb _,rfl,rfl⟩
 case round =>
  obtain⟨i,j,hi,hj,af,rfl,rfl⟩:=hrel
  by_cases hlt:(i:Int)<j
  · obtain⟨x,hx⟩:∃x,l[(i+j)/2]?=some x:=⟨_,Zc (by rw[HN.out];omega)⟩
    obtain⟨b,o,rfl,ae,hc,_⟩:=hA.ints hx
    have aa:=C.ltN_lt HS.out hx d
    rw[HP.out]at aa
    have m0:(0:Int)≤(((i+j)/2:Nat):Int):=by omega
    have m1:(((i+j)/2:Nat):Int)<n:=by omega
    go_wp2_with fail
    refine (C.lessR_any _ _ _).mono ?_
    rintro e w1 ⟨rfl,rfl⟩
    by_cases hd:x<d
    · have hk:=aa.1 hd
      have hdd:decide (x<d)=true:=Zn hd
      clear aa
      go_wp2
      exact⟨⟨(i+j)/2+1,j,by omega,by omega,by omega,by go_num,by go_num⟩,by simp[intOf];omega⟩
    · have hk:¬(i+j)/2<P:=fun h=>hd (aa.2 h)
      have hdd:decide (x<d)=false:=Zo hd
      clear aa
      go_wp2
      exact⟨⟨i,(i+j)/2,by omega,by omega,by omega,by go_num,by go_num⟩,by simp[intOf];omega⟩
  · obtain rfl:i=P:=by omega
    obtain rfl:i=j:=by omega
    by_cases hin:(i:Int)<n
    · obtain⟨x,hx⟩:∃x,l[i]?=some x:=⟨_,Zc (by rw[HN.out];omega)⟩
      obtain⟨b,o,rfl,ae,hc,_⟩:=hA.ints hx
      have hh:C.hit l d=(x == d):=by unfold C.hit;rw[HP.out,hx];rfl
      have HH:=Za hh
      clear hx hh
      have m0:(0:Int)≤(i:Int):=by omega
      rcases hxd:(x == d) with _|_
      · go_wp2
        go_ret2
        rw[HP.out,HH.out,hxd]
        exact⟨rfl,Zd _ _⟩
      · go_wp2
        go_ret2
        rw[HP.out,HH.out,hxd]
        exact⟨rfl,Zd _ _⟩
    · have hh:C.hit l d=false:=by
       unfold C.hit
       rw[HP.out,Yn (by rw[HN.out];omega)]
       rfl
      have HH:=Za hh
      clear hh
      go_wp2
      go_ret2
      rw[HP.out,HH.out]
      exact⟨rfl,Zd _ _⟩
def C.plc (l:List Int) (d:Int):Nat:=C.ltN l d+(if C.hit l d=true then 1 else 0)
section
set_option maxRecDepth 100000
set_option maxHeartbeats 1000000
theorem C.place_any (A:Option Addr) (c n B:Nat) (l:List Int) (d:Int) (w:World) (hn:l.length=n) (ai:n≤1000000) (hs:C.srt l) (hB:B≤w.heap.size) (hA:Sl w B A (l.map (Value.int .i32))) :
 Calls Tryz.prog 188 #[.agg #[.slice A n c],.int .i32 d] w (fun e w'=>e=.returned (.int .i64 (C.plc l d:Nat))∧Below w.heap.size w w'):=by
 have HF:=Za (C.search_any A c n B l d)
 have HN:=Za hn
 have HS:=Za hs
 have hP:=C.ltN_le l d
 rw[hn]at hP
 have ae:C.plc l d=C.ltN l d+(if C.hit l d=true then 1 else 0):=rfl
 obtain⟨P,hp⟩:∃P,C.ltN l d=P:=⟨_,rfl⟩
 obtain⟨q,hq⟩:∃q,C.hit l d=q:=⟨_,rfl⟩
 rw[hp,hq]at ae
 rw[hp]at hP
 rw[hp,hq]at HF
 have ag:=Za ae
 clear hn hs hp hq ae
 go_enter Tryz.func188,Tryz.ntmps188
 go_wp2_with fail
 have af:Below w.heap.size w (w.alloc (.cells #[.slice A n c] 100)):=(Zd _ _).alloc (Zb _) _
 refine (HF.out _ HN.out ai HS.out (hA.belowN af hB (Zb _))).mono ?_
 rintro e w1 ⟨rfl,aa⟩
 have ah:=af.trans (aa.mono (by simp))
 rcases q with _|_
 · go_wp2
   go_ret
   exact⟨by rw[ag.out];rfl,ah⟩
 · go_wp2
   go_ret
   exact⟨by rw[ag.out];rfl,ah⟩
theorem C.has_any (A:Option Addr) (c n B:Nat) (l:List Int) (d:Int) (w:World) (hn:l.length=n) (af:n≤1000000) (hs:C.srt l) (hB:B≤w.heap.size) (hA:Sl w B A (l.map (Value.int .i32))) :
 Calls Tryz.prog 154 #[.agg #[.slice A n c],.int .i32 d] w (fun e w'=>e=.returned (.bool (C.mem l d))∧Below w.heap.size w w'):=by
 have HF:=Za (C.place_any A c n B l d)
 have hP:=C.ltN_le l d
 rw[hn]at hP
 have HN:=Za hn
 have HS:=Za hs
 have hm:=C.mem_par hs d
 have ah:C.plc l d≤n+1:=by unfold C.plc;split <;> omega
 change C.mem l d=((C.plc l d%2) == 1) at hm
 obtain⟨q,hq⟩:∃q,C.plc l d=q:=⟨_,rfl⟩
 rw[hq]at HF hm ah
 have HM:=Za hm
 have hb:=C.and_one q (by omega)
 clear hn hs hq hm
 go_enter Tryz.func154,Tryz.ntmps154
 go_wp2_with fail
 have ae:Below w.heap.size w (w.alloc (.cells #[.slice A n c] 100)):=(Zd _ _).alloc (Zb _) _
 refine (HF.out _ HN.out af HS.out (by simp <;> omega) (hA.belowN ae hB (Zb _))).mono ?_
 rintro e w1 ⟨rfl,aa⟩
 have ag:=ae.trans (aa.mono (by simp))
 go_wp2
 go_ret
 refine⟨?_,ag⟩
 rw[HM.out]
 refine ret_bool ?_
 rw[Yb]
 simp
 omega
end
structure Fam.Row where
 e:TypeId
 size:Nat
 v:Value
 n:Nat
 xs:List Value
structure Fam {ι:Type} (w:World) (base:Nat) (f:ι→Option Fam.Row):Prop where
 own:∀i r,f i=some r→w.ownsRow base r.e r.size r.v r.n r.xs
 apart:∀i j r q g,i≠j→f i=some r→f j=some q→r.v.ownBlock=some g→q.v.ownBlock≠some g
def Fam.set {ι:Type} [DecidableEq ι] (f:ι→Option Fam.Row) (i:ι) (r:Fam.Row):ι→Option Fam.Row:=fun j=>if j=i then some r else f j
theorem Fam.set_same {ι:Type} [DecidableEq ι] (f:ι→Option Fam.Row) (i:ι) (r:Fam.Row):Fam.set f i r i=some r:=by simp[Fam.set]
theorem Fam.set_other {ι:Type} [DecidableEq ι] (f:ι→Option Fam.Row) {i j:ι} (r:Fam.Row) (h:j≠i):Fam.set f i r j=f j:=by simp[Fam.set,h]
section
variable {ι:Type} {w:World} {base:Nat} {f:ι→Option Fam.Row}
theorem own_at {e:TypeId} {size n:Nat} {v:Value} {xs:List Value} (h:w.ownsRow base e size v n xs) {g:Nat} (hg:v.ownBlock=some g):base≤g∧g<w.heap.size:=by
 rcases h.2 with ⟨rfl,_⟩|⟨k,cap,aa,rfl,hb,hk,_⟩
 · simp[Value.ownBlock]at hg
 · simp only[Value.ownBlock,Zi]at hg
   subst hg
   exact⟨hb,heap_lt hk⟩
theorem Fam.mk' (w:World) (base:Nat):Fam w base (fun _:ι=>none):=⟨fun i r h=>(by cases h),fun i j r q g _ h=>(by cases h)⟩
theorem Fam.below (h:Fam w base f) {w':World} (hb:Below w.heap.size w w'):Fam w' base f :=
 ⟨fun i r hi=>own_below (h.own i r hi) hb (Zb _),h.apart⟩
theorem Fam.other (h:Fam w base f) {w':World} {b:Nat} (hg:w.grownBy w' (some b)) (hb:b<base):Fam w' base f :=
 ⟨fun i r hi=>(h.own i r hi).kept hg (by
  cases hv:r.v.ownBlock with
  | none=>exact .inl rfl
  | some g=>exact .inr fun e=>by cases e;have:=(own_at (h.own i r hi) hv).1;omega),h.apart⟩
theorem Fam.grow [DecidableEq ι] (h:Fam w base f) {w':World} {i:ι} {r:Fam.Row} (hi:f i=some r) (hg:w.grownBy w' r.v.ownBlock) {q:Fam.Row} (hq:w'.ownsRow base q.e q.size q.v q.n q.xs)
 (hl:q.v.ownBlock=r.v.ownBlock∨q.v.ownBlock=some w.heap.size):Fam w' base (Fam.set f i q):=by
 have ae:∀j s g,f j=some s→s.v.ownBlock=some g→g<w.heap.size:=fun j s g hj hs=>(own_at (h.own j s hj) hs).2
 refine⟨fun j s hj=>?_,fun j k s t g aa hj hk hs ht=>?_⟩
 · by_cases e:j=i
   · subst e
     rw[Fam.set_same]at hj
     cases hj
     exact hq
   · rw[Fam.set_other _ _ e]at hj
     refine (h.own j s hj).kept hg ?_
     cases hv:s.v.ownBlock with
     | none=>exact .inl rfl
     | some g=>exact .inr fun e'=>h.apart j i s r g e hj hi hv e'.symm
 · by_cases e1:j=i
   · subst e1
     rw[Fam.set_same]at hj
     cases hj
     rw[Fam.set_other _ _ (Z8 aa)]at hk
     rcases hl with hl|hl
     · rw[hl]at hs
       exact h.apart j k r t g aa hi hk hs ht
     · rw[hl]at hs
       cases hs
       have:=ae k t _ hk ht
       omega
   · rw[Fam.set_other _ _ e1]at hj
     by_cases e2:k=i
     · subst e2
       rw[Fam.set_same]at hk
       cases hk
       rcases hl with hl|hl
       · rw[hl]at ht
         exact h.apart j k s r g aa hj hi hs ht
       · rw[hl]at ht
         cases ht
         have:=ae j s _ hj hs
         omega
     · rw[Fam.set_other _ _ e2]at hk
       exact h.apart j k s t g aa hj hk hs ht
theorem Fam.new [DecidableEq ι] (h:Fam w base f) {w':World} (hb:Below w.heap.size w w') (i:ι) {q:Fam.Row} (hq:w'.ownsRow base q.e q.size q.v q.n q.xs) (hl:∀g,q.v.ownBlock=some g→w.heap.size≤g):Fam w' base (Fam.set f i q):=by
 have aa:∀j s g,f j=some s→s.v.ownBlock=some g→g<w.heap.size:=fun j s g hj hs=>(own_at (h.own j s hj) hs).2
 refine⟨fun j s hj=>?_,fun j k s t g ae hj hk hs ht=>?_⟩
 · by_cases e:j=i
   · subst e
     rw[Fam.set_same]at hj
     cases hj
     exact hq
   · rw[Fam.set_other _ _ e]at hj
     exact own_below (h.own j s hj) hb (Zb _)
 · by_cases e1:j=i
   · subst e1
     rw[Fam.set_same]at hj
     cases hj
     rw[Fam.set_other _ _ (Z8 ae)]at hk
     have h1:=hl g hs
     have h2:=aa k t g hk ht
     omega
   · rw[Fam.set_other _ _ e1]at hj
     by_cases e2:k=i
     · subst e2
       rw[Fam.set_same]at hk
       cases hk
       have h1:=hl g ht
       have h2:=aa j s g hj hs
       omega
     · rw[Fam.set_other _ _ e2]at hk
       exact h.apart j k s t g ae hj hk hs ht
end
theorem run_appendAt {P:Program} (w:World) (t ty:TypeId)
 (base:Nat) (e:TypeId) (i:TypeInfo) (z:Value) (size bytes:Nat) (ht:P.underlying t=some (.slice e)) (hi:P.info? e=some i) (hz:i.zero=some z)
 (ag:i.size=size) (ak:i.bytes=bytes) (ai:z.cells.size=size) (ah:0<size)
 (v:Value) (n:Nat) (xs:List Value) (aa:w.ownsRow base e size v n xs)
 (B:Nat) (A:Option Addr) (m c:Nat) (news:List Value) (hl:news.length=m*size) (hA:Sl w B A news) (h1:∀u∈news,u.oneCell'=true)
 (aj:n+m≤maxLen) (af:(n+m)*bytes≤140737488355328) (ae:base≤w.heap.size) :
 ∃v' w',(Builtin.append_ #[t,t] ty #[v,.slice A m c]).run P w=.ok v' w'∧w'.ownsRow base e size v' (n+m) (xs++news)∧Below base w w'∧w.grownBy w' v.ownBlock∧(v'.ownBlock=v.ownBlock∨v'.ownBlock=some w.heap.size):=by
 rcases A with _|ad
 · have hn:news=[]:=by
    rcases news with _|⟨u,r⟩
    · rfl
    · obtain⟨b,o,hA,_⟩:=hA (by simp)
      cases hA
   subst hn
   have hm:m=0:=by
    rcases Yz m with h|h
    · exact h
    · have:=Nat.mul_pos h ah
      simp at hl
      omega
   subst hm
   exact⟨v,w,run_append_empty (P:=P) w base t ty e i size ht hi v n xs aa c,by simpa using aa,Below.refl _ _,World.grownBy.refl w _,.inl rfl⟩
 · obtain⟨v',w',hr,h2,h3,_,h5⟩:=run_append_own_at (P:=P) w base t ty e i z size bytes ht hi hz ag ak ai ah v n xs aa ad m c news hl (by
    intro j q hq
    have hj:j<news.length:=(List.getElem?_eq_some_iff.1 hq).1
    obtain⟨b,o,hA,_,hc⟩:=hA (by omega)
    simp only[Zi]at hA
    subst hA
    rw[Addr.add_lit,hc j hj,hq]) h1 aj af ae
   refine⟨v',w',hr,h2,?_,h3,h5⟩
   refine (Zd _ _).grown h3 ae ?_
   intro k hk
   exact (aa.lt k hk).1
theorem Fam.wp_append {P:Program} {ι:Type} [DecidableEq ι] {o:Oper} {a:Act} {K:Act→World→Prop} {Q:Exit→Act→World→Prop} (w:World) (s x:Operand) (t:TypeId)
 (ho:o.op=.call { callee:=.builtin .append,args := #[s,x],argTypes := #[t,t] })
 {base:Nat} {f:ι→Option Fam.Row} (hF:Fam w base f) (j:ι) (r:Fam.Row) (hj:f j=some r)
 (i:TypeInfo) (z:Value) (bytes:Nat) (ht:P.underlying t=some (.slice r.e)) (hi:P.info? r.e=some i) (hz:i.zero=some z)
 (ae:i.size=r.size) (ai:i.bytes=bytes) (ag:z.cells.size=r.size) (aj:0<r.size) (hs:a.eval s=r.v)
 (B:Nat) (A:Option Addr) (m c:Nat) (news:List Value) (hx:a.eval x=.slice A m c) (hl:news.length=m*r.size) (hA:Sl w B A news) (h1:∀u∈news,u.oneCell'=true)
 (ah:r.n+m≤maxLen) (aa:(r.n+m)*bytes≤140737488355328) (af:base≤w.heap.size)
 (h:∀v' w',Fam w' base (Fam.set f j ⟨r.e,r.size,v',r.n+m,r.xs++news⟩)→Below base w w'→w.grownBy w' r.v.ownBlock→K (a.put o.dst v') w') :
 o.wp P a w K Q:=by
 obtain⟨v',w',hr,h2,h3,h4,h5⟩:=run_appendAt (P:=P) w t o.type base r.e i z r.size bytes ht hi hz ae ai ag aj r.v r.n r.xs (hF.own j r hj) B A m c news hl hA h1 ah aa af
 unfold Oper.wp execOp
 simp only[ho,resolve,invoke,builtin,YA,Yq,Yr,Y4,ZT,Ys,hs,hx,hr]
 exact h v' w' (hF.grow hj h4 (q:=⟨r.e,r.size,v',r.n+m,r.xs++news⟩) h2 h5) h3 h4
theorem Fam.wpList_append {P:Program} {ι:Type} [DecidableEq ι] {ops:Array Oper} {rest:List Oper} {o:Oper} {a:Act} {Q:Exit→Act→World→Prop} (w:World) (ak:o.guard=none) (s x:Operand) (t:TypeId)
 (ho:o.op=.call { callee:=.builtin .append,args := #[s,x],argTypes := #[t,t] })
 {base:Nat} {f:ι→Option Fam.Row} (hF:Fam w base f) (j:ι) (r:Fam.Row) (hj:f j=some r)
 (i:TypeInfo) (z:Value) (bytes:Nat) (ht:P.underlying t=some (.slice r.e)) (hi:P.info? r.e=some i) (hz:i.zero=some z)
 (ae:i.size=r.size) (ai:i.bytes=bytes) (ag:z.cells.size=r.size) (aj:0<r.size) (hs:a.eval s=r.v)
 (B:Nat) (A:Option Addr) (m c:Nat) (news:List Value) (hx:a.eval x=.slice A m c) (hl:news.length=m*r.size) (hA:Sl w B A news) (h1:∀u∈news,u.oneCell'=true)
 (ah:r.n+m≤maxLen) (aa:(r.n+m)*bytes≤140737488355328) (af:base≤w.heap.size)
 (h:∀v' w',Fam w' base (Fam.set f j ⟨r.e,r.size,v',r.n+m,r.xs++news⟩)→Below base w w'→w.grownBy w' r.v.ownBlock→wpList P ops Q rest (a.put o.dst v') w') :
 wpList P ops Q (o::rest) a w :=
 wpList_plain ak fun _ hK=>Fam.wp_append w s x t ho hF j r hj i z bytes ht hi hz ae ai ag aj hs B A m c news hx hl hA h1 ah aa af fun v' w' h2 h3 h4=>hK _ _ (h v' w' h2 h3 h4)
theorem own_cell {w:World} {base:Nat} {e:TypeId} {size n c g:Nat} {xs:List Value} (h:w.ownsRow base e size (.slice (some ⟨g,0,none⟩) n c) n xs) {i:Nat} {u:Value} (hi:xs[i]?=some u):w.cell? ⟨g,i,none⟩=some u:=by
 have aa:=(List.getElem?_eq_some_iff.1 hi).1
 obtain⟨b,o,hA,_,hc⟩:=Sl.of_own h (by omega)
 simp only[Zi,YO,YH]at hA
 obtain⟨rfl,rfl⟩:=hA
 have:=hc i aa
 rw[Z1]at this
 rw[this,hi]
theorem own_mono {w:World} {base aa:Nat} {e:TypeId} {size n:Nat} {v:Value} {xs:List Value} (h:w.ownsRow base e size v n xs) (hb:aa≤base):w.ownsRow aa e size v n xs:=by
 refine⟨h.1,?_⟩
 rcases h.2 with hn|⟨g,cap,ae,h1,h2,h3⟩
 · exact .inl hn
 · exact .inr ⟨g,cap,ae,h1,by omega,h3⟩
section
variable {ι:Type} {w:World} {base:Nat} {f:ι→Option Fam.Row}
theorem Fam.ne (h:Fam w base f) {i j:ι} (hij:i≠j) {r q:Fam.Row} (hi:f i=some r) (hj:f j=some q) {b:Nat} (hb:q.v.ownBlock=some b):r.v.ownBlock≠some b:=fun e=>h.apart i j r q b hij hi hj e hb
theorem Fam.low (h:Fam w base f) {i:ι} {r:Fam.Row} (hi:f i=some r) {b:Nat} (hb:b<base):r.v.ownBlock≠some b:=fun e=>by have:=(own_at (h.own i r hi) e).1;omega
theorem Fam.box [DecidableEq ι] (h:Fam w base f) (hb:base≤w.heap.size) (i:ι) (cs:List Value) (e:TypeId) (n size:Nat) (hs:cs.length=n*size) (hn:n≤maxLen):Fam (w.alloc (.cells cs.toArray e)) base (Fam.set f i ⟨e,size,.slice (some ⟨w.heap.size,0,none⟩) n n,n,cs⟩) :=
 h.new ((Below.refl _ _).alloc (Nat.le_refl _) _) i (World.ownsRow_lit w cs.toArray n hb hn (by simpa using hs)) (fun g hg=>by simp only[Value.ownBlock,Option.some.injEq]at hg;omega)
end
theorem own_of_at {w:World} {base b:Nat} {t:TypeId} {cs:List Value} (h:Rw.At w b t cs) (hb:base≤b) (n size:Nat) (hs:cs.length=n*size) (hn:n≤maxLen):w.ownsRow base t size (.slice (some ⟨b,0,none⟩) n n) n cs :=
 ⟨hs,.inr ⟨b,n,cs.toArray,rfl,hb,h,Nat.le_refl _,hn,by simpa using hs,by rw[List.take_of_length_le (by simp;omega)]⟩⟩
theorem Fam.store {ι:Type} [DecidableEq ι] {w w':World} {base:Nat} {f:ι→Option Fam.Row} (h:Fam w base f) {i:ι} {e:TypeId} {size n b:Nat} {cs cs':List Value} (hi:f i=some ⟨e,size,.slice (some ⟨b,0,none⟩) n n,n,cs⟩) (hg:w.grownBy w' (some b)) (aa:Rw.At w' b e cs') (hs:cs'.length=n*size) (hn:n≤maxLen) :
 Fam w' base (Fam.set f i ⟨e,size,.slice (some ⟨b,0,none⟩) n n,n,cs'⟩) :=
 h.grow hi hg (own_of_at aa (own_at (h.own _ _ hi) (g:=b) rfl).1 n size hs hn) (.inl rfl)
theorem grown_belowB {w w':World} {B b:Nat} (hg:w.grownBy w' (some b)) (hB:B≤w.heap.size) (hb:B≤b):Below B w w' :=
 Below.grown (Zd _ _) hg hB (by intro k hk;simp only[Zi]at hk;omega)
theorem some_ne {q b:Nat} (h:q<b):some q≠some b:=by simp only[X3,Zi];omega
theorem own_tail {w:World} {base:Nat} {e:TypeId} {n c b:Nat} {xs:List Value} (h:w.ownsRow base e 1 (.slice (some ⟨b,0,none⟩) n c) n xs):Sl w w.heap.size (some ⟨b,1,none⟩) (xs.drop 1):=by
 intro hx
 rw[ZK]at hx
 refine⟨b,1,rfl,(own_at h (g:=b) rfl).2,fun q hq=>?_⟩
 rw[ZK]at hq
 rw[Xf]
 exact (own_cell h (Zc (by omega))).trans (Zc (by omega)).symm
theorem own_cap {w:World} {base:Nat} {e:TypeId} {size n c b:Nat} {xs:List Value} (h:w.ownsRow base e size (.slice (some ⟨b,0,none⟩) n c) n xs):n≤c:=by
 rcases h.2 with ⟨hv,_⟩|⟨g,cap,ae,hv,_,_,aa,_⟩
 · cases hv
 · simp only[Z3]at hv;omega
theorem Mp.Is.same {P:Program} {k:TypeId} {w w':World} {b:Nat} {F:Value→Option Value} (h:Mp.Is P k w b F) (hs:w'.heap[b]?=w.heap[b]?):Mp.Is P k w' b F:=by
 obtain⟨es,c,hb,r⟩:=h
 exact⟨es,c,hs.trans hb,r⟩
theorem Mp.Is.notcells {P:Program} {k:TypeId} {w:World} {b:Nat} {F:Value→Option Value} (h:Mp.Is P k w b F) {cs:Array Value} {t:TypeId} {z:Nat × Nat}:w.heap[b]?≠some (.cells cs t z):=fun e=>by
 obtain⟨es,c,hb,r⟩:=h
 rw[hb]at e
 cases e
abbrev Ud.Ix:=Nat × Int
def Ud.rowOf (A:Option Addr) (c:Nat) (l:List Int):Fam.Row:=⟨21,1,.slice A l.length c,l.length,Ud.ints l⟩
def Ud.rowV (v:Value) (l:List Int):Fam.Row:=⟨21,1,v,l.length,Ud.ints l⟩
def Ud.clK (K:List Rw.Row):List (Int × Int):=K.map fun r=>(r.1,r.2.1)
def Ud.innM (T M:List Rw.Row):List Int:=M.flatMap fun r=>(Ud.full T r.1).drop 1
def Ud.mpdM (M:List Rw.Row):List Int:=M.map (·.1)
def Ud.prsM (T:List Rw.Row) (X:Int→Bool) (M:List Rw.Row):List Rw.Row:=M.filter fun r=>Md.prim T X r.1
def Ud.secM (T:List Rw.Row) (X:Int→Bool) (M:List Rw.Row):List Int:=(Ud.prsM T X M).map fun r=>r.2.2.getD 1 0
def Ud.begM (T M:List Rw.Row) (c:Int):List Int:=(M.filter fun r=>decide ((Ud.full T r.1).headD 0=c)).map (·.1)
def Ud.joiM (T:List Rw.Row) (X:Int→Bool) (M:List Rw.Row) (a b:Int):Option Int:=(Ud.prsM T X M).foldl (fun o r=>if r.2.2.getD 0 0=a∧r.2.2.getD 1 0=b then some r.1 else o) none
structure Ud.Rows (T:List Rw.Row) (X:Int→Bool) (K M:List Rw.Row) (f:Ud.Ix→Option Fam.Row) (vT vc vp ve vi vs vm:Value) (ads:List (Option Addr × Nat)) (es:List Ud.At):Prop where
 la:ads.length=K.length
 le:es.length=M.length
 t:f (0,0)=some ⟨113,3,vT,K.length,Rw.fl K ads⟩
 c:f (0,1)=some ⟨166,2,vc,K.length,Pg.fl (Ud.clK K)⟩
 p:f (0,2)=some ⟨166,2,vp,M.length,Pg.fl (Ud.plG 0 M)⟩
 e:f (0,3)=some ⟨79,3,ve,M.length,Ud.flE T X M es⟩
 i:f (0,4)=some (Ud.rowV vi (Ud.innM T M))
 s:f (0,5)=some (Ud.rowV vs (Ud.secM T X M))
 m:f (0,6)=some (Ud.rowV vm (Ud.mpdM M))
 rm:∀(j:Nat) r a,K[j]?=some r→ads[j]?=some a→f (2,(j:Int))=some (Ud.rowOf a.1 a.2 r.2.2)
 em:∀(j:Nat) r a,M[j]?=some r→es[j]?=some a→f (3,(j:Int))=some (Ud.rowOf a.m a.mc r.2.2)∧f (4,(j:Int))=some (Ud.rowOf a.f a.fc (Ud.full T r.1))
def Ud.BegI (T M:List Rw.Row) (f:Ud.Ix→Option Fam.Row) (G:Value→Option Value):Prop :=
 ∀c:Int,(Ud.begM T M c=[]∧G (.int .i32 c)=none)∨∃v,G (.int .i32 c)=some v∧f (1,c)=some (Ud.rowV v (Ud.begM T M c))
def Ud.JoiI (T:List Rw.Row) (X:Int→Bool) (M:List Rw.Row) (J:Value→Option Value):Prop:=∀a c:Int,J (.agg #[.int .i32 a,.int .i32 c])=(Ud.joiM T X M a c).map (Value.int .i32)
def Ud.cells (vT:Value) (XA:Option Addr) (xn xc:Nat) (ve:Value) (mb jb:Nat):List Value:=[vT,.slice XA xn xc,.pointer none,.pointer none,ve,.map (some mb),.map (some jb),.slice none 0 0,.slice none 0 0,.slice none 0 0]
def Ud.Inv (T:List Rw.Row) (X:Int→Bool) (K M:List Rw.Row) (w:World) (base D mb jb:Nat) (XA:Option Addr) (xn xc:Nat) (vc vp vi vs vm:Value):Prop :=
 ∃f vT ve ads es G J,Fam w base f∧Rw.At w D 135 (Ud.cells vT XA xn xc ve mb jb)∧Mp.Is Tryz.prog 21 w mb G∧Mp.Is Tryz.prog 168 w jb J∧base≤w.heap.size ∧
  Ud.Rows T X K M f vT vc vp ve vi vs vm ads es∧Ud.BegI T M f G∧Ud.JoiI T X M J
section
variable {T:List Rw.Row} {X:Int→Bool} {K M:List Rw.Row} {f f':Ud.Ix→Option Fam.Row} {vT vc vp ve vi vs vm:Value} {ads:List (Option Addr × Nat)} {es:List Ud.At}
theorem Ud.get_app {α:Type} {l:List α} {a:α} {j:Nat} {x:α} (h:(l++[a])[j]?=some x):(l[j]?=some x∧j<l.length)∨(j=l.length∧a=x):=by
 rcases ZX j l.length with hl|hl
 · rw[ZW hl]at h
   exact .inl ⟨h,hl⟩
 · rw[ZL hl]at h
   have:j-l.length=0:=by
    rcases Yz (j-l.length) with h0|h0
    · exact h0
    · rw[Yn (by simp;omega)]at h;cases h
   rw[this]at h
   exact .inr ⟨by omega,by simpa using h⟩
theorem Ud.Rows.addK (h:Ud.Rows T X K M f vT vc vp ve vi vs vm ads es) {r:Rw.Row} {a:Option Addr × Nat} {aa ae:Value}
 (h0:f' (0,0)=some ⟨113,3,aa,K.length+1,Rw.fl K ads++[.int .i32 r.1,.int .i64 r.2.1,.slice a.1 r.2.2.length a.2]⟩) (h1:f' (0,1)=some ⟨166,2,ae,K.length+1,Pg.fl (Ud.clK K)++[.int .i32 r.1,.int .u16 r.2.1]⟩)
 (h2:f' (2,(K.length:Int))=some (Ud.rowOf a.1 a.2 r.2.2)) (ho:∀ix:Ud.Ix,ix.1≤5→ix≠(0,0)→ix≠(0,1)→ix≠(2,(K.length:Int))→f' ix=f ix) :
 Ud.Rows T X (K++[r]) M f' aa ae vp ve vi vs vm (ads++[a]) es:=by
 have same:∀i:Int,2≤i→f' (0,i)=f (0,i):=fun i hi=>ho _ (ZE _) (by intro e;cases e;omega) (by intro e;cases e;omega) (by intro e;cases e)
 refine⟨by simp[h.la],h.le,?_,?_,(same 2 (by decide)).trans h.p,(same 3 (by decide)).trans h.e,(same 4 (by decide)).trans h.i,(same 5 (by decide)).trans h.s,(same 6 (by decide)).trans h.m,fun j q b hj hb=>?_,fun j q b hj hb=>?_⟩
 · rw[h0,Rw.fl_app _ _ r a h.la,Ze];rfl
 · rw[h1]
   unfold Ud.clK
   rw[ZM,Pg.fl_app,Ze];rfl
 · rcases Ud.get_app hj with ⟨af,hl⟩|⟨rfl,rfl⟩
   · rcases Ud.get_app hb with ⟨ag,_⟩|⟨e,_⟩
     · rw[ho _ (by show (2:Nat)≤5;decide) (by intro e;cases e) (by intro e;cases e) (by intro e;simp only[Yy,X0]at e;omega)]
       exact h.rm j q b af ag
     · have:=h.la;omega
   · rcases Ud.get_app hb with ⟨_,hl⟩|⟨_,rfl⟩
     · have:=h.la;omega
     · exact h2
 · rw[ho _ (by show (3:Nat)≤5;decide) (by intro e;cases e) (by intro e;cases e) (by intro e;cases e),ho _ (by show (4:Nat)≤5;decide) (by intro e;cases e) (by intro e;cases e) (by intro e;cases e)]
   exact h.em j q b hj hb
theorem Ud.Rows.addM (h:Ud.Rows T X K M f vT vc vp ve vi vs vm ads es) {r:Rw.Row} {a:Ud.At} {ag aa ah af ae:Value}
 (h0:f' (0,2)=some ⟨166,2,ag,M.length+1,Pg.fl (Ud.plG 0 M)++[.int .i32 r.1,.int .u16 ((M.length:Int)+1)]⟩)
 (h1:f' (0,3)=some ⟨79,3,aa,M.length+1,Ud.flE T X M es++[.slice a.m r.2.2.length a.mc,.slice a.f (Ud.full T r.1).length a.fc,.bool (Md.prim T X r.1)]⟩)
 (h2:f' (0,4)=some (Ud.rowV ah (Ud.innM T M++(Ud.full T r.1).drop 1))) (h3:f' (0,6)=some (Ud.rowV ae (Ud.mpdM M++[r.1])))
 (h4:f' (0,5)=some (Ud.rowV af (Ud.secM T X (M++[r])))) (h5:f' (3,(M.length:Int))=some (Ud.rowOf a.m a.mc r.2.2)) (h6:f' (4,(M.length:Int))=some (Ud.rowOf a.f a.fc (Ud.full T r.1)))
 (ht:f' (0,0)=f (0,0)) (hc:f' (0,1)=f (0,1)) (hr:∀j:Int,f' (2,j)=f (2,j)) (aj:∀j:Int,j≠M.length→f' (3,j)=f (3,j)) (ai:∀j:Int,j≠M.length→f' (4,j)=f (4,j)) :
 Ud.Rows T X K (M++[r]) f' vT vc ag aa ah af ae ads (es++[a]):=by
 refine⟨h.la,by simp[h.le],ht.trans h.t,hc.trans h.c,?_,?_,?_,h4,?_,fun j q b hj hb=>(hr _).trans (h.rm j q b hj hb),fun j q b hj hb=>?_⟩
 · rw[h0,Ud.plG_app,Pg.fl_app,Ze,Z1];rfl
 · rw[h1,Ud.flE_app T X M es r a h.le,Ze];rfl
 · rw[h2]
   unfold Ud.innM
   rw[Y3]
   simp
 · rw[h3]
   unfold Ud.mpdM
   rw[ZM];rfl
 · rcases Ud.get_app hj with ⟨ak,hl⟩|⟨rfl,rfl⟩
   · rcases Ud.get_app hb with ⟨ao,_⟩|⟨e,_⟩
     · rw[aj _ (by omega),ai _ (by omega)]
       exact h.em j q b ak ao
     · have:=h.le;omega
   · rcases Ud.get_app hb with ⟨_,hl⟩|⟨_,rfl⟩
     · have:=h.le;omega
     · exact⟨h5,h6⟩
theorem Ud.BegI.keep {G:Value→Option Value} (h:Ud.BegI T M f G) (ho:∀c:Int,f' (1,c)=f (1,c)):Ud.BegI T M f' G:=by
 intro c
 rw[ho c]
 exact h c
theorem Ud.begM_app (r:Rw.Row) (c:Int):Ud.begM T (M++[r]) c=if (Ud.full T r.1).headD 0=c then Ud.begM T M c++[r.1] else Ud.begM T M c:=by
 unfold Ud.begM
 rw[Yj,ZM]
 by_cases hc:(Ud.full T r.1).headD 0=c
 · rw[Zp hc,Yo,Zp (Zn hc)];rfl
 · rw[if_neg hc,List.filter_cons,if_neg (by simpa using hc)];simp
theorem Ud.BegI.add {G G':Value→Option Value} (h:Ud.BegI T M f G) {r:Rw.Row} {v:Value} (hG:G' (.int .i32 ((Ud.full T r.1).headD 0))=some v) (aa:∀y,y≠.int .i32 ((Ud.full T r.1).headD 0)→G' y=G y)
 (hv:f' (1,(Ud.full T r.1).headD 0)=some (Ud.rowV v (Ud.begM T M ((Ud.full T r.1).headD 0)++[r.1]))) (ho:∀c:Int,c≠(Ud.full T r.1).headD 0→f' (1,c)=f (1,c)):Ud.BegI T (M++[r]) f' G':=by
 intro c
 rw[Ud.begM_app]
 by_cases hc:(Ud.full T r.1).headD 0=c
 · subst hc
   rw[Zp rfl]
   exact .inr ⟨v,hG,hv⟩
 · rw[Zl hc,aa _ (by intro e;cases e;exact hc rfl),ho c (Z8 hc)]
   exact h c
theorem Ud.prsM_app (r:Rw.Row):Ud.prsM T X (M++[r])=if Md.prim T X r.1=true then Ud.prsM T X M++[r] else Ud.prsM T X M:=by
 unfold Ud.prsM
 rw[Yj,Yo]
 cases Md.prim T X r.1 <;> simp
theorem Ud.secM_app (r:Rw.Row):Ud.secM T X (M++[r])=if Md.prim T X r.1=true then Ud.secM T X M++[r.2.2.getD 1 0] else Ud.secM T X M:=by
 unfold Ud.secM
 rw[Ud.prsM_app]
 cases Md.prim T X r.1 <;> simp
theorem Ud.JoiI.no {J:Value→Option Value} (h:Ud.JoiI T X M J) {r:Rw.Row} (hp:Md.prim T X r.1=false):Ud.JoiI T X (M++[r]) J:=by
 intro a c
 unfold Ud.joiM
 rw[Ud.prsM_app,Zl (by rw[hp];simp)]
 exact h a c
theorem Ud.JoiI.add {J J':Value→Option Value} (h:Ud.JoiI T X M J) {r:Rw.Row} (hp:Md.prim T X r.1=true) (hJ:J' (.agg #[.int .i32 (r.2.2.getD 0 0),.int .i32 (r.2.2.getD 1 0)])=some (.int .i32 r.1))
 (aa:∀y,y≠.agg #[.int .i32 (r.2.2.getD 0 0),.int .i32 (r.2.2.getD 1 0)]→J' y=J y):Ud.JoiI T X (M++[r]) J':=by
 intro a c
 unfold Ud.joiM
 rw[Ud.prsM_app,Zp hp,Y8,Y9,List.foldl_nil]
 by_cases hc:r.2.2.getD 0 0=a∧r.2.2.getD 1 0=c
 · rw[Zp hc]
   obtain⟨rfl,rfl⟩:=hc
   exact hJ
 · rw[Zl hc,aa _ (by intro e;simp only[XE,XY,Yd,Value.int.injEq,X0,YH]at e;exact hc ⟨e.1.symm,e.2.symm⟩)]
   exact h a c
end
theorem Ud.inn_len {T:List Rw.Row} (h:∀c,(Ud.full T c).length≤32):∀M:List Rw.Row,(Ud.innM T M).length≤31*M.length
 | []=>by simp[Ud.innM]
 | r::M=>by
   have h1:=Ud.inn_len h M
   have h2:=h r.1
   unfold Ud.innM at h1 ⊢
   rw[Xn,Ze,ZK,ZI]
   omega
theorem Ud.full_le {T:List Rw.Row} (c:Int):(Ud.full T c).length≤32:=by
 unfold Ud.full
 cases h:Md.full T c with
 | none=>simp
 | some l=>exact (Md.full_none h).2.2.1
end Go.Proofs.YtikiplbhlohmdaaGreatDoor
