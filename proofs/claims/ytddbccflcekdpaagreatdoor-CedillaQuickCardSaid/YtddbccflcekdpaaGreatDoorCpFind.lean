/- The layer cpset in plain Lean, more: range by range. -/
import Derived.Test.YtddbccflcekdpaaGreatDoorCpRngs
import Derived.Lib.SlicesCompact
set_option maxRecDepth 100000
set_option maxHeartbeats 2000000
set_option linter.unusedVariables false
set_option linter.unusedSimpArgs false
namespace Go.Proofs.YtddbccflcekdpaaGreatDoor
open Go.Proofs.Tryz
def C.part:List Int→Nat→Int
 | _,0=>0
 | x::y::t,i+1=>y-x+C.part t i
 | _,_=>0
theorem zRW (l:List Int):C.part l 0=0:=by unfold C.part;rfl
theorem zGk {x y:Int} {t:List Int} (h:C.ok (x::y::t)):C.ok t :=
 ⟨zAF (zAF h.1),fun z hz=>h.2.1 z (by simp[hz]),by have:=h.2.2;simp at this;omega⟩
theorem zIH:∀{l:List Int} {i:Nat} {r:Int × Int},C.ok l→(zAL l)[i]?=some r→C.part l (i+1)=C.part l i+(r.2-r.1+1)
 | [],i,r,_,h=>by simp[zAL]at h
 | [x],i,r,_,h=>by simp[zAL]at h
 | x::y::t,0,r,_,h=>by
   simp[zAL]at h;subst h;show y-x+C.part t 0=0+(y-1-x+1);rw[show C.part t 0=0 by cases t <;> rfl];omega
 | x::y::t,i+1,r,hk,h=>by
   have:=zIH (zGk hk) (show (zAL t)[i]?=some r from h);show y-x+C.part t (i+1)=y-x+C.part t i+_;rw[this];omega
theorem zLT:∀{l:List Int} (_:C.ok l) (i:Nat),0≤C.part l i∧C.part l i≤C.count l
 | [],_,i=>by cases i <;> exact⟨Yq _,Yq _⟩
 | [x],h,_=>by have:=h.2.2;simp at this
 | x::y::t,h,0=>⟨Yq _,(zJZ h).1⟩
 | x::y::t,h,i+1=>by
   have aa:=zBA h.1 y (by simp);have:=zLT (zGk h) i;show 0≤y-x+C.part t i∧y-x+C.part t i≤y-x+C.count t;omega
theorem zKN:∀{l:List Int} {i:Nat} {r:Int × Int},C.ok l→(zAL l)[i]?=some r→0≤r.1∧r.1≤r.2∧r.2≤1114111∧r.1≤1114111
 | [],i,r,_,h=>by simp[zAL]at h
 | [x],i,r,_,h=>by simp[zAL]at h
 | x::y::t,0,r,hk,h=>by
   simp[zAL]at h;subst h;have aa:=zBA hk.1 y (by simp);have h1:=hk.2.1 x (by simp);have h2:=hk.2.1 y (by simp);dsimp only;omega
 | x::y::t,i+1,r,hk,h=>zKN (zGk hk) (show (zAL t)[i]?=some r from h)
def C.at (l:List Int) (q:Int):Int × Bool:=if q<0 then (0,false) else zRS l q
theorem C.at_pos (l:List Int) {q:Int} (h:¬q<0):C.at l q=zRS l q:=Zl h
section
open Go.RowKit
theorem Sl.pair {w:World} {B:Nat} {A:Option Addr} {k:IntKind} {rs:List (Int × Int)} (h:Sl w B A (C.fl k rs)) {i:Nat} {r:Int × Int} (hr:rs[i]?=some r) :
 ∃b o,A=some ⟨b,o,none⟩∧b<B∧w.cell? ⟨b,o+i*2,none⟩=some (.int k r.1)∧w.cell? ⟨b,o+i*2+1,none⟩=some (.int k r.2):=by
 have hi:i<rs.length:=(List.getElem?_eq_some_iff.1 hr).1;obtain⟨b,o,hA,hb,hc⟩:=h (by rw[C.fl_len];omega);obtain⟨h0,h1⟩:=C.fl_get k rs i r hr;refine⟨b,o,hA,hb,?_,?_⟩
 · rw[Je,hc _ (by rw[C.fl_len];omega),h0]
 rw[Je,Yk,hc _ (by rw[C.fl_len];omega),h1]
theorem zDN {P:Program} {fn:Func} {p u:Tmp} {ty:TypeId} (h:fn.results = #[.cell p ty,.tmp u]) (tmps:Array Value) (w:World) (g:Nat) (t:TypeId) (cs:Array Value) (fr:Nat × Nat) (d:TypeDesc)
 (hp:tmps.getD p undef=.pointer (some ⟨g,0,none⟩)) (hg:w.heap[g]?=some (.cells cs t fr))
 (hu:P.underlying ty=some d) (hd:(match d with | .struct _ | .array _ _=>true|_=>false)=true) (hi:(P.info? ty).map (·.size)=some cs.size) :
 (results fn tmps).run P w=.ok (.tuple #[.agg cs,tmps.getD u undef]) w:=by
 have aa:tmps[p]?.getD undef=.pointer (some ⟨g,0,none⟩):=by simpa using hp
 simp[results,h,aa,asAddr,X6 w g t ty cs fr d hg hu hd hi]
def C.good (rs:List (Int × Int)):Bool:=rs.all fun r=>decide (0≤r.1)&&decide (r.2≤1114111)&&decide (r.1≤r.2)
theorem Sl.take {w:World} {B:Nat} {A:Option Addr} {xs:List Value} (h:Sl w B A xs) (m:Nat):Sl w B A (xs.take m):=by
 intro hx;rw[Zq]at hx;obtain⟨b,o,hA,hb,hc⟩:=h (by omega);refine⟨b,o,hA,hb,fun i hi=>?_⟩;rw[Zq]at hi;rw[hc i (by omega),Ym,Zo (by omega)]
theorem C.fl_one (k:IntKind):∀rs,∀u∈C.fl k rs,u.oneCell'=true
 | [],u,h=>by cases h
 | (x,y)::t,u,h=>by
  rcases List.mem_cons.1 h with rfl|h
  · rfl
  rcases List.mem_cons.1 h with rfl|h
  · rfl
  exact C.fl_one k t u h
end
def zQe (rs:List (Int × Int)) (c:Int):Bool:=rs.any fun r=>decide (r.1≤c∧c≤r.2)
theorem zGX:∀(l:List Int),C.ok l→∀c,zQe (zAL l) c=C.mem l c
 | [],_,c=>rfl
 | [x],h,c=>by have:=h.2.2;simp at this
 | x::y::t,h,c=>by
   have ih:=zGX t (zGk h) c;have aa:=zBA h.1 y (by simp);show (decide (x≤c∧c≤y-1)||zQe (zAL t) c)=_;rw[ih,C.mem_cons,C.mem_cons]
   by_cases h1:x≤c
   · by_cases h2:y≤c
     · rw[Zu (by omega),Zr h1,Zr h2];simp
     have hm:C.mem t c=false:=zBi (zAF h.1) (by omega);rw[Zr (show x≤c∧c≤y-1 by omega),Zr h1,Zu h2,hm];rfl
   have hm:C.mem t c=false:=zBi (zAF h.1) (by omega);rw[Zu (by omega),Zu h1,hm];rfl
section
variable {S:List Int} (hS:C.ok S) (hC:∀c,C.mem S c=true→C.isC c=true) {d:Int} (h0:0≤d) (h1:d≤1114111)
include hS hC h0 h1
end
section
open Go.RowKit
theorem C.ris_any (c:Int) (w:World):Calls prog 70 #[.int .i64 c] w fun e w'=>e=.returned (.bool (C.isC c))∧w=w':=by
 obtain⟨q,hq⟩:∃q,C.isC c=q:=⟨_,rfl⟩;rw[hq];have HQ:=hy' hq;clear hq;go_enter func70,ntmps70
 by_cases h0:0≤c
 · by_cases h1:c≤1114111
   · by_cases h2:c<55296
     · go_wp2;go_ret;exact⟨by rw[←HQ.o];exact zBb (by unfold C.isC;symm;exact decide_eq_true (by omega)),rfl⟩
     by_cases h3:57343<c
     · go_wp2;go_ret;exact⟨by rw[←HQ.o];exact zBb (by unfold C.isC;symm;exact decide_eq_true (by omega)),rfl⟩
     go_wp2;go_ret;exact⟨by rw[←HQ.o];exact zBb (by unfold C.isC;symm;exact decide_eq_false (by omega)),rfl⟩
   go_wp2;go_ret;exact⟨by rw[←HQ.o];exact zBb (by unfold C.isC;symm;exact decide_eq_false (by omega)),rfl⟩
 go_wp2;go_ret;exact⟨by rw[←HQ.o];exact zBb (by unfold C.isC;symm;exact decide_eq_false (by omega)),rfl⟩
def C.ins (x:Int):List Int→List Int
 | []=>[x]
 | y::t=>if x<y then x::y::t else if x=y then y::t else y::C.ins x t
end
theorem zDO:∀(l:List Int) (x c:Int),C.srt (l++[x])→C.mem (l++[x]) c=(C.mem l c ^^ decide (x≤c))
 | [],x,c,_=>by simp[C.mem]
 | y::t,x,c,h=>by
   have ih:=zDO t x c (zAF h);have aa:=zBA h x (by simp);rw[Zx,C.mem_cons,ih,C.mem_cons]
   by_cases hy:y≤c
   · rw[Zr hy];cases C.mem t c <;> cases decide (x≤c) <;> rfl
   rw[Zu hy,Zu (by omega)];rfl
theorem zFi {l:List Int} {x:Int} (h:C.srt l) (hx:∀y∈l,y<x):C.srt (l++[x]):=by
 unfold C.srt;rw[Jv];exact⟨h,List.pairwise_singleton _ _,fun a ha b hb=>by simp at hb;subst hb;exact hx a ha⟩
def C.step (p:Int→Bool) (acc:List Int) (a b:Int):List Int :=
 if p a=true then (if acc.getLast?=some a then acc.dropLast++[b] else acc++[a,b]) else acc
def zHt (p:Int→Bool) (acc:List Int) (a:Int):Prop :=
 C.srt acc∧acc.length%2=0∧(∀x∈acc,x≤a)∧∀c,C.mem acc c=(p c&&decide (c<a))
theorem zNj {p:Int→Bool} {acc:List Int} {a b:Int} (h:zHt p acc a) (ak:a<b) (hp:∀c,a≤c→c<b→p c=p a):zHt p (C.step p acc a b) b:=by
 obtain⟨h1,h2,h3,h4⟩:=h;unfold C.step
 have key:∀c,p a=true→((p c&&decide (c<a)) ^^ decide (a≤c) ^^ decide (b≤c))=(p c&&decide (c<b)):=by
  intro c ae
  by_cases ha:a≤c
  · by_cases hb:b≤c
    · rw[Zr ha,Zr hb,Zu (show ¬c<a by omega),Zu (show ¬c<b by omega)];simp
    rw[Zr ha,Zu hb,Zu (show ¬c<a by omega),Zr (show c<b by omega),hp c ha (by omega),ae];rfl
  rw[Zu ha,Zu (show ¬b≤c by omega),Zr (show c<a by omega),Zr (show c<b by omega)];simp
 split
 rotate_left
 · rename_i ae;refine⟨h1,h2,fun x hx=>by have:=h3 x hx;omega,fun c=>?_⟩;rw[h4 c]
   by_cases ha:c<a
   · rw[Zr ha,Zr (by omega)]
   by_cases hb:c<b
   · have hf:p a=false:=by cases h:p a <;> simp_all
     rw[hp c (by omega) hb,hf];rfl
   rw[Zu ha,Zu hb]
 rename_i ae;split
 · rename_i hl
   obtain⟨l,rfl⟩:∃l,acc=l++[a]:=by
    obtain⟨l,aj⟩:=List.getLast?_eq_some_iff.1 hl;exact⟨l,aj⟩
   rw[Jy];have ah:C.srt l:=(List.pairwise_append.1 h1).1;have aa:∀y∈l,y<a:=fun y hy=>(List.pairwise_append.1 h1).2.2 y hy a (by simp)
   have af:=zFi ah (x:=b) (fun y hy=>by have:=aa y hy;omega);refine⟨af,by simpa using h2,?_,?_⟩
   · intro x hx;rcases List.mem_append.1 hx with hx|hx
     · have:=aa x hx;omega
     simp at hx;omega
   intro c;rw[zDO _ _ _ af,←key c ae,←h4 c,zDO _ _ _ h1];cases C.mem l c <;> cases decide (a≤c) <;> cases decide (b≤c) <;> rfl
 rename_i hl
 have aa:∀y∈acc,y<a:=by
  intro y hy;rcases Jf y a with h'|h'
  · exact h'
  exfalso;have ai:y=a:=by have:=h3 y hy;omega
  subst ai;rcases YY acc with rfl|⟨l,z,rfl⟩
  · cases hy
  rw[YZ]at *;have hz:=h3 z (by simp);rcases List.mem_append.1 hy with hy|hy
  · have:=(List.pairwise_append.1 h1).2.2 y hy z (by simp);omega
  simp at hy;subst hy;exact hl (by simp)
 have ag:=zFi h1 aa
 have af:=zFi ag (x:=b) (fun y hy=>by
  rcases List.mem_append.1 hy with hy|hy
  · have:=aa y hy;omega
  simp at hy;omega)
 have e:acc++[a,b]=(acc++[a])++[b]:=by simp
 rw[e];refine⟨af,by simp;omega,?_,?_⟩
 · intro x hx;simp at hx;rcases hx with hx|hx|hx
   · have:=aa x hx;omega
   · omega
   omega
 intro c;rw[zDO _ _ _ af,zDO _ _ _ ag,h4 c,key c ae]
theorem zK6 {p:Int→Bool} {acc:List Int} {a b:Int} (hp:p a=true) (h:acc.getLast?≠some a):C.step p acc a b=acc++[a,b]:=by
 unfold C.step;rw[Zo hp,Zl h]
theorem zLU {p:Int→Bool} {acc:List Int} {a b:Int} (hp:p a=false):C.step p acc a b=acc:=by
 unfold C.step;rw[Zl (by simp[hp])]
theorem zP4 {p:Int→Bool} {acc:List Int} {a b x:Int} (h:x∈C.step p acc a b):x∈acc∨x=a∨x=b:=by
 unfold C.step at h;split at h
 rotate_left
 · exact .inl h
 split at h
 · rcases List.mem_append.1 h with h|h
   · exact .inl (List.dropLast_subset _ h)
   simp at h;exact .inr (.inr h)
 rcases List.mem_append.1 h with h|h
 · exact .inl h
 simp at h;rcases h with h|h
 · exact .inr (.inl h)
 exact .inr (.inr h)
theorem zNk {p:Int→Bool} {acc:List Int} {a c:Int} (h:zHt p acc a) (aa:a≤c) (hp:∀d,a≤d→d<c→p d=false):zHt p acc c:=by
 obtain⟨h1,h2,h3,h4⟩:=h;refine⟨h1,h2,fun x hx=>by have:=h3 x hx;omega,fun d=>?_⟩;rw[h4 d]
 by_cases h:d<a
 · rw[Zr h,Zr (by omega)]
 by_cases h':d<c
 · rw[hp d (by omega) h'];rfl
 rw[Zu h,Zu h']
theorem zP5 {p:Int→Bool} {acc:List Int} {c b:Int} (h:p c=C.isC c):C.step p acc c b=C.step C.isC acc c b:=by
 unfold C.step;rw[h]
theorem C.step_bd {acc:List Int} {c:Int} (h:∀x∈acc,0≤x∧x≤1114112):∀x∈C.step C.isC acc c (c+1),0≤x∧x≤1114112:=by
 intro x hx;cases hc:C.isC c
 · rw[zLU hc]at hx;exact h x hx
 have hb:0≤c∧c≤1114111:=by simp[C.isC]at hc;omega
 rcases zP4 hx with hx|rfl|rfl
 · exact h x hx
 · omega
 omega
def zEK (cs acc:List Int):List Int:=cs.foldl (fun o c=>C.step C.isC o c (c+1)) acc
theorem zQf {p:Int→Bool}:∀(cs acc:List Int) (a:Int),C.srt cs→(∀c∈cs,a≤c)→(∀d,a≤d→p d=(decide (d∈cs)&&C.isC d))→(∀x∈acc,0≤x∧x≤1114112)→zHt p acc a →
 (∀x∈zEK cs acc,0≤x∧x≤1114112)∧∃b,zHt p (zEK cs acc) b∧∀d,b≤d→p d=false
 | [],acc,a,_,_,hp,hb,h=>⟨hb,a,h,fun d hd=>by rw[hp d hd];simp⟩
 | c::t,acc,a,hs,hc,hp,hb,h=>by
   have aa:=hc c (by simp);have ae:∀z∈t,c<z:=zBA hs
   have h1:=zNk h aa (fun d d1 d2=>by
    rw[hp d d1]
    have:d∉c::t:=by
     intro hm;rcases List.mem_cons.1 hm with rfl|hm
     · omega
     have:=ae d hm;omega
    rw[Zu this];rfl)
   have af:p c=C.isC c:=by rw[hp c aa,Zr (by simp)];rfl
   have h2:=zNj h1 (show c<c+1 by omega) (fun d d1 d2=>by rw[show d=c by omega]);rw[zP5 af]at h2;show (∀x∈zEK t (C.step C.isC acc c (c+1)),0≤x∧x≤1114112)∧∃b,zHt p (zEK t (C.step C.isC acc c (c+1))) b∧∀d,b≤d→p d=false;refine zQf t _ (c+1) (zAF hs) (fun z hz=>by have:=ae z hz;omega) (fun d hd=>?_) (C.step_bd hb) h2;rw[hp d (by omega)];congr 1;rw[Kc];constructor
   · intro hm;rcases List.mem_cons.1 hm with rfl|hm
     · omega
     exact hm
   intro hm;simp[hm]
theorem zQg (cs:List Int) (hs:C.srt cs):C.ok (zEK cs [])∧∀d,C.mem (zEK cs []) d=(decide (d∈cs)&&C.isC d):=by
 obtain⟨a,ha⟩:∃a:Int,∀c∈cs,a≤c:=by
  cases cs with
  | nil=>exact⟨0,by simp⟩
  | cons c t=>exact⟨c,fun z hz=>by
     rcases List.mem_cons.1 hz with rfl|hz
     · exact Yq _
     have:=zBA hs z hz;omega⟩
 have h0:zHt (fun d=>decide (d∈cs)&&C.isC d) [] a:=by
  refine⟨List.Pairwise.nil,rfl,by simp,fun d=>?_⟩
  by_cases hd:d<a
  · have:d∉cs:=fun hm=>by have:=ha d hm;omega
    show false=((decide (d∈cs)&&C.isC d)&&decide (d<a));rw[Zu this];rfl
  show false=((decide (d∈cs)&&C.isC d)&&decide (d<a));rw[Zu hd,Jz]
 obtain⟨hb,b,⟨u1,u2,u3,u4⟩,hz⟩:=zQf cs [] a hs ha (fun d _=>rfl) (by simp) h0;refine⟨⟨u1,hb,u2⟩,fun d=>?_⟩;rw[u4 d]
 by_cases hd:d<b
 · rw[Zr hd,JP]
 have:=hz d (by omega);rw[this];show ((decide (d∈cs)&&C.isC d)&&decide (d<b))=false;rw[this];rfl
theorem zII {l:List Int} {j:Nat} (h:j<l.length):l.toArray[j]! = l[j]:=by
 rw[getElem!_pos l.toArray j (by simpa using h)];simp
theorem zQh {l:List Int} (hs:l.Pairwise (· ≤ ·)) {i j:Nat} (hij:i≤j) (hj:j<l.length):l[i]'(by omega)≤l[j]:=by
 rcases ZY i j with h|h
 · exact List.pairwise_iff_getElem.1 hs i j (by omega) hj h
 obtain rfl:i=j:=by omega
 exact Yq _
theorem zK7 (l:List Int) (hs:l.Pairwise (· ≤ ·)):∀m,m≤l.length→C.srt (Lib.compactUpTo l.toArray m)∧∀z,z∈Lib.compactUpTo l.toArray m↔z∈l.take m
 | 0,_=>⟨by simp[Lib.compactUpTo,C.srt],by simp[Lib.compactUpTo]⟩
 | m+1,hm=>by
   obtain⟨h1,h2⟩:=zK7 l hs m (by omega);have aa:m<l.length:=by omega
   have et:l.take (m+1)=l.take m++[l[m]]:=by rw[YM aa]
   have eg:=zII aa;rw[Lib.compactUpTo_succ]
   by_cases hk:m=0∨l[m]≠l[m-1]'(by omega)
   · have ae:Lib.keeps l.toArray m=true:=by
      unfold Lib.keeps;rw[ZW,eg,zII (show m-1<l.length by omega)];exact hk
     rw[Zo ae,eg];refine⟨zFi h1 fun y hy=>?_,fun z=>by rw[YS,h2,et,YS]⟩;obtain⟨j,hj,rfl⟩:=Xs ((h2 y).1 hy);have af:j<m:=by rw[Zq]at hj;omega
     rw[J6];rcases hk with rfl|hk
     · omega
     have a1:=zQh hs (i:=j) (j:=m-1) (by omega) (by omega);have a2:=zQh hs (i:=m-1) (j:=m) (by omega) aa;omega
   have h0:m≠0:=fun h=>hk (.inl h)
   have he:l[m]=l[m-1]'(by omega):=by
    rcases Int.decEq l[m] (l[m-1]'(by omega)) with h|h
    · exact absurd (.inr h) hk
    exact h
   have ae:Lib.keeps l.toArray m=false:=by
    unfold Lib.keeps;rw[Z0,eg,zII (show m-1<l.length by omega)];exact hk
   rw[ae];refine⟨by simpa using h1,fun z=>?_⟩;rw[et];simp only[ZN,Yg,Z4];rw[h2,YS];constructor
   · exact .inl
   rintro (h|h)
   · exact h
   rw[Zw]at h;subst h;rw[he];have:l[m-1]'(by omega)=(l.take m)[m-1]'(by rw[Zq];omega):=by rw[J6]
   rw[this];exact Qt _
def zEL (l:List Int):List Int:=Lib.compactUpTo (l.mergeSort fun x y=>decide (x≤y)).toArray l.length
theorem zIJ (l:List Int):C.srt (zEL l)∧∀z,z∈zEL l↔z∈l:=by
 have hs:(l.mergeSort fun x y=>decide (x≤y)).Pairwise (· ≤ ·):=by
  have h:=List.pairwise_mergeSort (le:=fun x y:Int=>decide (x≤y)) (by intro a b c h1 h2;simp at *;omega) (by intro a b;simp;omega) l;exact h.imp (by intro a b h;simpa using h)
 obtain⟨h1,h2⟩:=zK7 _ hs l.length (by simp);refine⟨h1,fun z=>?_⟩;unfold zEL;rw[h2,Zm (by simp)];exact (List.mergeSort_perm l _).mem_iff
def C.chars (l:List Int):List Int:=zEK (zEL l) []
theorem zC5 (l:List Int):C.ok (C.chars l)∧∀d,C.mem (C.chars l) d=(decide (d∈l)&&C.isC d):=by
 obtain⟨h1,h2⟩:=zIJ l;obtain⟨h3,h4⟩:=zQg (zEL l) h1;refine⟨h3,fun d=>?_⟩;show C.mem (zEK (zEL l) []) d=_;rw[h4 d];congr 1;rw[Kc];exact h2 d
section
open Go.RowKit
structure Ud.At where
 m:Option Addr
 mc:Nat
 f:Option Addr
 fc:Nat
def zBz (T:List Rw.Row) (X:Int→Bool):List Rw.Row→List Ud.At→List Value
 | r::l,a::es=>.slice a.m r.2.2.length a.mc::.slice a.f (Ud.full T r.1).length a.fc::.bool (zAr T X r.1)::zBz T X l es
 | _,_=>[]
theorem zGY (T:List Rw.Row) (X:Int→Bool):∀(l:List Rw.Row) (es:List Ud.At),es.length=l.length→(zBz T X l es).length=l.length*3
 | [],_,_=>by simp[zBz]
 | r::l,[],h=>by simp at h
 | r::l,a::es,h=>by simp[zBz,zGY T X l es (by simpa using h)];omega
theorem zK8 (T:List Rw.Row) (X:Int→Bool):∀(l:List Rw.Row) (es:List Ud.At) (r:Rw.Row) (a:Ud.At),es.length=l.length→zBz T X (l++[r]) (es++[a])=zBz T X l es++[.slice a.m r.2.2.length a.mc,.slice a.f (Ud.full T r.1).length a.fc,.bool (zAr T X r.1)]
 | [],[],r,a,_=>rfl
 | [],_::_,_,_,h=>by simp at h
 | _::_,[],_,_,h=>by simp at h
 | q::l,b::es,r,a,h=>by simp[zBz,zK8 T X l es r a (by simpa using h)]
theorem zK9 (T:List Rw.Row) (X:Int→Bool):∀(l:List Rw.Row) (es:List Ud.At) (i:Nat) (r:Rw.Row) (a:Ud.At),l[i]?=some r→es[i]?=some a →
 (zBz T X l es)[i*3]?=some (.slice a.m r.2.2.length a.mc)∧(zBz T X l es)[i*3+1]?=some (.slice a.f (Ud.full T r.1).length a.fc)∧(zBz T X l es)[i*3+2]?=some (.bool (zAr T X r.1))
 | [],_,_,_,_,h,_=>by simp at h
 | _::_,[],_,_,_,_,h=>by simp at h
 | q::l,b::es,0,r,a,h1,h2=>by
   simp at h1 h2;subst h1;subst h2;simp[zBz]
 | q::l,b::es,i+1,r,a,h1,h2=>by
   have:=zK9 T X l es i r a (by simpa using h1) (by simpa using h2);rw[show (i+1)*3=i*3+3 by omega];simpa [zBz] using this
def Ud.ints (l:List Int):List Value:=l.map (Value.int .i32)
def Ud.Ents (w:World) (T:List Rw.Row) (X:Int→Bool) (A:Option Addr) (es:List Ud.At):Prop :=
 es.length=(zAD T).length∧Sl w w.heap.size A (zBz T X (zAD T) es)∧∀(i:Nat) r a,(zAD T)[i]?=some r→es[i]?=some a→Sl w w.heap.size a.m (Ud.ints r.2.2)∧Sl w w.heap.size a.f (Ud.ints (Ud.full T r.1))
theorem Ud.Ents.below {w w':World} {T:List Rw.Row} {X:Int→Bool} {A:Option Addr} {es:List Ud.At} (h:Ud.Ents w T X A es) (hb:Below w.heap.size w w'):Ud.Ents w' T X A es :=
 ⟨h.1,h.2.1.below hb hb.size,fun i r a h1 h2=>⟨(h.2.2 i r a h1 h2).1.below hb hb.size,(h.2.2 i r a h1 h2).2.below hb hb.size⟩⟩
def Ud.Beg (w:World) (T:List Rw.Row) (b:Nat):Prop:=∃F:Value→Option Value,Mp.Is prog 21 w b F ∧
 ∀c:Int,(zOy T T c=[]∧F (.int .i32 c)=none)∨∃A cap,F (.int .i32 c)=some (.slice A (zOy T T c).length cap)∧Sl w w.heap.size A (Ud.ints (zOy T T c))
def Ud.Joi (w:World) (T:List Rw.Row) (X:Int→Bool) (b:Nat):Prop:=∃F:Value→Option Value,Mp.Is prog 202 w b F∧∀a c:Int,F (.agg #[.int .i32 a,.int .i32 c])=(zCk T X T a c).map (Value.int .i32)
structure Ud.Is (w:World) (v:Value) (T:List Rw.Row) (S:List Int):Prop where
 is:∃b A0 c0 XA xc pc pp A3 c3 mb jb A4 c4 A5 c5 A6 c6 es,
  v=.pointer (some ⟨b,0,none⟩) ∧
  Rw.At w b 97 [.slice A0 (Ud.keep T).length c0,.slice XA S.length xc,pc,pp,.slice A3 (zAD T).length c3,.map (some mb),.map (some jb),.slice A4 (C.chars (Ud.inn T T)).length c4,.slice A5 (C.chars (Ud.sec T (C.mem S) T)).length c5,.slice A6 (C.chars (zQ8 T)).length c6] ∧
  Rw.Sees w A0 (Ud.keep T)∧Sl w w.heap.size XA (Ud.ints S)∧Pg.Of w pc (Pg.last (Ud.cl T))∧Pg.Of w pp (Pg.last (zGU T))∧Ud.Ents w T (C.mem S) A3 es∧Ud.Beg w T mb∧Ud.Joi w T (C.mem S) jb ∧
  Sl w w.heap.size A4 (Ud.ints (C.chars (Ud.inn T T)))∧Sl w w.heap.size A5 (Ud.ints (C.chars (Ud.sec T (C.mem S) T)))∧Sl w w.heap.size A6 (Ud.ints (C.chars (zQ8 T)))
theorem Ud.Beg.below {w w':World} {T:List Rw.Row} {b:Nat} (h:Ud.Beg w T b) (hb:Below w.heap.size w w'):Ud.Beg w' T b:=by
 obtain⟨F,h1,h2⟩:=h;refine⟨F,h1.below hb,fun c=>?_⟩;rcases h2 c with h|⟨A,cap,h3,h4⟩
 · exact .inl h
 exact .inr ⟨A,cap,h3,h4.below hb hb.size⟩
theorem Ud.Joi.below {w w':World} {T:List Rw.Row} {X:Int→Bool} {b:Nat} (h:Ud.Joi w T X b) (hb:Below w.heap.size w w'):Ud.Joi w' T X b:=by
 obtain⟨F,h1,h2⟩:=h;exact⟨F,h1.below hb,h2⟩
theorem Ud.Is.below {w w':World} {v:Value} {T:List Rw.Row} {S:List Int} (h:Ud.Is w v T S) (hb:Below w.heap.size w w'):Ud.Is w' v T S:=by
 obtain⟨b,A0,c0,XA,xc,pc,pp,A3,c3,mb,jb,A4,c4,A5,c5,A6,c6,es,h1,h2,h3,h4,h5,h6,h7,h8,h9,af,ae,aa⟩:=h.is;exact⟨b,A0,c0,XA,xc,pc,pp,A3,c3,mb,jb,A4,c4,A5,c5,A6,c6,es,h1,h2.below hb,h3.below hb,h4.below hb hb.size,h5.below hb,h6.below hb,h7.below hb,h8.below hb,h9.below hb,af.below hb hb.size,ae.below hb hb.size,aa.below hb hb.size⟩
structure Ud.Ok (T:List Rw.Row) (S:List Int):Prop where
 chk:Md.chk T (C.mem S)=0
 srt:C.srt S
 len:T.length≤10000
 slen:S.length≤1000000
theorem Ud.Ok.good {T:List Rw.Row} {S:List Int} (h:Ud.Ok T S):∀r∈T,Md.good r:=(zE9 h.chk).1
theorem Ud.Ok.rises {T:List Rw.Row} {S:List Int} (h:Ud.Ok T S):Md.rises T:=(zE9 h.chk).2.1
theorem Ud.Is.form {w:World} {v:Value} {T:List Rw.Row} {S:List Int} (h:Ud.Is w v T S):∃b,v=.pointer (some ⟨b,0,none⟩)∧b<w.heap.size:=by
 obtain⟨b,A0,c0,XA,xc,pc,pp,A3,c3,mb,jb,A4,c4,A5,c5,A6,c6,es,h1,h2,_⟩:=h.is;exact⟨b,h1,h2.lt⟩
end
theorem zFj {r:Rw.Row} (h:Md.good r):0≤r.1∧r.1≤1114111:=by
 have:=h.1;unfold C.isC at this;simp only[Zp]at this;exact⟨this.1,this.2.1⟩
theorem Ud.Ok.bd {T:List Rw.Row} {S:List Int} (h:Ud.Ok T S):Md.bd T:=by
 intro r hr;have hg:=h.good r hr;have h1:=zFj hg;refine⟨by omega,fun c hc=>?_⟩;have:=(hg.2.2.2.2.2 c hc).1;unfold C.isC at this;simp only[Zp]at this;omega
theorem zP6 {T:List Rw.Row} {S:List Int} (h:Ud.Ok T S) (c:Int):Pg.get (Pg.last (Ud.cl T)) c=Md.cls T c:=by
 unfold Pg.get;rw[zNf h.rises (fun r hr=>(h.good r hr).2.1)];split
 · rfl
 rename_i hc;unfold Md.cls;cases hf:Md.find T c with
 | none=>rfl
 | some r =>
   obtain⟨h1,h2⟩:=zAp hf;have:=zFj (h.good r h1);omega
theorem zDP {T:List Rw.Row} {S:List Int} (h:Ud.Ok T S) (c:Int):0≤Md.cls T c∧Md.cls T c≤254:=by
 unfold Md.cls;cases hf:Md.find T c with
 | none=>simp
 | some r =>
   have:=h.good r (zAp hf).1;exact⟨this.2.1,this.2.2.1⟩
theorem zQi {T:List Rw.Row} {S:List Int} (h:Ud.Ok T S) (c:Int):(∃(i:Nat) (r:Rw.Row),(zAD T)[i]?=some r∧r.1=c∧Md.find T c=some r∧0<r.2.2.length∧Pg.get (Pg.last (zGU T)) c=(i:Int)+1)∨(Pg.get (Pg.last (zGU T)) c=0∧zAM T c=[]):=by
 rcases zP0 h.rises c with ⟨i,r,h1,h2,h3,h4⟩|⟨h1,h2⟩
 · refine .inl ⟨i,r,h1,h2,h3,h4,?_⟩;have hb:=zFj (h.good r (zAp h3).1);unfold Pg.get;rw[Zo (by omega),←h2,zNg h.rises h1]
 refine .inr ⟨?_,h2⟩;unfold Pg.get;rw[zNh h1];simp
theorem zNl {T:List Rw.Row} {c:Int} (hr:zAM T c=[]) (hk:zA3 c<4):Ud.full T c=[c]:=by
 unfold Ud.full;rw[(zP1 hr hk).2];rfl
theorem zKO {T:List Rw.Row} {S:List Int} (h:Ud.Ok T S) {c:Int} (hs:zA9 c≠[]):Ud.full T c=zA9 c:=by
 have hk:zA3 c=4∨zA3 c=5:=by
  unfold zA9 at hs
  by_cases h4:zA3 c=4
  · exact .inl h4
  by_cases h5:zA3 c=5
  · exact .inr h5
  rw[Zl h4,Zl h5]at hs;exact absurd rfl hs
 unfold Ud.full;rw[zNi h.good hk];rfl
theorem zKP {c:Int} (hs:zA9 c=[]):zA3 c<4:=by
 have:=zCT c;unfold zA9 at hs
 by_cases h4:zA3 c=4
 · rw[Zo h4]at hs;cases hs
 by_cases h5:zA3 c=5
 · rw[Zl h4,Zo h5]at hs;cases hs
 omega
theorem zNm {T:List Rw.Row} (c:Int):(zAM T c=[]∧zA3 c<4)↔Md.mp T c=[]:=by
 have hk:=zCT c;unfold Md.mp;rw[zC4]
 by_cases h4:4≤zA3 c
 · rw[Zr h4,Zo rfl];simp;omega
 rw[Zu h4,Zl (by simp)];constructor
 · exact fun h=>h.1
 exact fun h=>⟨h,by omega⟩
theorem Ud.isC_bd {c:Int} (h:C.isC c=true):0≤c∧c≤1114111:=by
 unfold C.isC at h;simp only[Zp]at h;exact⟨h.1,h.2.1⟩
def zDQ:List Int→Int→Nat
 | [],_=>0
 | x::t,d=>if x<d then zDQ t d+1 else 0
def C.hit (l:List Int) (d:Int):Bool:=l[zDQ l d]? == some d
theorem zIf:∀(l:List Int) (d:Int),zDQ l d≤l.length
 | [],_=>Za _
 | x::t,d=>by
   show (if x<d then zDQ t d+1 else 0)≤t.length+1;have:=zIf t d;split <;> omega
theorem zOA:∀{l:List Int} (_:C.srt l) {k:Nat} {x:Int},l[k]?=some x→∀d,(x<d↔k<zDQ l d)
 | [],_,k,x,h,d=>by simp at h
 | y::t,hs,0,x,h,d=>by
   simp at h;subst h;show _↔0<(if y<d then zDQ t d+1 else 0);split <;> simp_all
 | y::t,hs,k+1,x,h,d=>by
   have h':t[k]?=some x:=by simpa using h
   have:=zOA (zAF hs) h' d;have hy:=zBA hs x (Zn h');show _↔k+1<(if y<d then zDQ t d+1 else 0);split
   · rw[this];omega
   constructor
   · intro hx;omega
   intro hx;omega
theorem zLV:∀{l:List Int} (_:C.srt l) (d:Int),C.mem l d=(((zDQ l d+(if C.hit l d=true then 1 else 0))%2) == 1)
 | [],_,d=>rfl
 | x::t,hs,d=>by
   have ih:=zLV (zAF hs) d;rw[C.mem_cons];rcases J3 x d with h|h|h
   · have e1:zDQ (x::t) d=zDQ t d+1:=by show (if x<d then _ else _)=_;rw[Zo h]
     have e2:C.hit (x::t) d=C.hit t d:=by unfold C.hit;rw[e1];simp
     rw[Zr (by omega),e1,e2,ih];generalize (if C.hit t d=true then 1 else 0)=q;rcases Nat.mod_two_eq_zero_or_one (zDQ t d+q) with h0|h0
     · rw[h0,show (zDQ t d+1+q)%2=1 by omega];rfl
     rw[h0,show (zDQ t d+1+q)%2=0 by omega];rfl
   · subst h;have e1:zDQ (x::t) x=0:=by show (if x<x then _ else _)=_;rw[Zl (by omega)]
     have e2:C.hit (x::t) x=true:=by unfold C.hit;rw[e1];simp
     rw[Zr (by omega),zBi hs (by omega),e1,e2];rfl
   have e1:zDQ (x::t) d=0:=by show (if x<d then _ else _)=_;rw[Zl (by omega)]
   have e2:C.hit (x::t) d=false:=by unfold C.hit;rw[e1];simp;omega
   rw[Zu (by omega),e1,e2];rfl
section
open Go.RowKit
theorem zP7 (x:Int) (w:World):Calls prog 169 #[.int .i32 x] w fun e w'=>e=.returned (.bool false)∧w=w':=by
 go_enter func169,ntmps169;go_wp2;go_ret;exact⟨by simp,rfl⟩
theorem zNn (x y:Int) (w:World):Calls prog 138 #[.int .i32 x,.int .i32 y] w fun e w'=>e=.returned (.bool (decide (x<y)))∧w=w':=by
 go_enter func138,ntmps138;go_wp2_with fail;refine (zP7 _ _).mono ?_;rintro e w1 ⟨rfl,rfl⟩;go_wp2;go_ret;exact⟨rfl,rfl⟩
theorem C.search_any (A:Option Addr) (c n B:Nat) (l:List Int) (d:Int) (w:World) (hn:l.length=n) (ag:n≤1000000) (hs:C.srt l) (hA:Sl w B A (l.map (Value.int .i32))) :
 Calls prog 114 #[.slice A n c,.int .i32 d] w (fun e w'=>e=.returned (.tuple #[.int .i64 (zDQ l d:Nat),.bool (C.hit l d)])∧Below w.heap.size w w'):=by
 have HN:=hy' hn;have HS:=hy' hs;have hP:=zIf l d;rw[hn]at hP;obtain⟨P,hp⟩:∃P,zDQ l d=P:=⟨_,rfl⟩;rw[hp]at hP;have HP:=hy' hp;clear hn hs hp;go_enter func114,ntmps114;go_wp2;go_loop [7,8] (fun vi vj=>∃i j:Nat,i≤P∧P≤j∧j≤n∧vi=.int .i64 i∧vj=.int .i64 j) (fun vi vj=>(intOf vj).toNat-(intOf vi).toNat)
 case atStart=>exact⟨0,n,by omega,hP,Za _,rfl,rfl⟩
 obtain⟨i,j,hi,hj,af,rfl,rfl⟩:=hrel
 by_cases hlt:(i:Int)<j
 · obtain⟨x,hx⟩:∃x,l[(i+j)/2]?=some x:=⟨_,Zb (by rw[HN.o];omega)⟩;obtain⟨b,o,rfl,ae,hc,_⟩:=hA.ints hx;have aa:=zOA HS.o hx d;rw[HP.o]at aa;have m0:(0:Int)≤(((i+j)/2:Nat):Int):=by omega
   have m1:(((i+j)/2:Nat):Int)<n:=by omega
   go_wp2_with fail;refine (zNn _ _ _).mono ?_;rintro e w1 ⟨rfl,rfl⟩
   by_cases hd:x<d
   · have hk:=aa.1 hd;have hdd:decide (x<d)=true:=Zr hd;clear aa;go_wp2;exact⟨⟨(i+j)/2+1,j,by omega,by omega,by omega,by go_num,by go_num⟩,by simp[intOf];omega⟩
   have hk:¬(i+j)/2<P:=fun h=>hd (aa.2 h)
   have hdd:decide (x<d)=false:=Zu hd;clear aa;go_wp2;exact⟨⟨i,(i+j)/2,by omega,by omega,by omega,by go_num,by go_num⟩,by simp[intOf];omega⟩
 obtain rfl:i=P:=by omega
 obtain rfl:i=j:=by omega
 by_cases hin:(i:Int)<n
 · obtain⟨x,hx⟩:∃x,l[i]?=some x:=⟨_,Zb (by rw[HN.o];omega)⟩;obtain⟨b,o,rfl,ae,hc,_⟩:=hA.ints hx;have hh:C.hit l d=(x == d):=by unfold C.hit;rw[HP.o,hx];rfl
   have HH:=hy' hh;clear hx hh;have m0:(0:Int)≤(i:Int):=by omega
   rcases hxd:(x == d) with _|_
   · go_wp2;go_ret2;rw[HP.o,HH.o,hxd];exact⟨rfl,Zc _ _⟩
   go_wp2;go_ret2;rw[HP.o,HH.o,hxd];exact⟨rfl,Zc _ _⟩
 have hh:C.hit l d=false:=by
  unfold C.hit;rw[HP.o,Yp (by rw[HN.o];omega)];rfl
 have HH:=hy' hh;clear hh;go_wp2;go_ret2;rw[HP.o,HH.o];exact⟨rfl,Zc _ _⟩
def zP8 (l:List Int) (d:Int):Nat:=zDQ l d+(if C.hit l d=true then 1 else 0)
theorem zNo (A:Option Addr) (c n B:Nat) (l:List Int) (d:Int) (w:World) (hn:l.length=n) (ai:n≤1000000) (hs:C.srt l) (hB:B≤w.heap.size) (hA:Sl w B A (l.map (Value.int .i32))) :
 Calls prog 83 #[.agg #[.slice A n c],.int .i32 d] w (fun e w'=>e=.returned (.int .i64 (zP8 l d:Nat))∧Below w.heap.size w w'):=by
 have HF:=hy' (C.search_any A c n B l d);have HN:=hy' hn;have HS:=hy' hs;have hP:=zIf l d;rw[hn]at hP;have aa:zP8 l d=zDQ l d+(if C.hit l d=true then 1 else 0):=rfl;obtain⟨P,hp⟩:∃P,zDQ l d=P:=⟨_,rfl⟩;obtain⟨q,hq⟩:∃q,C.hit l d=q:=⟨_,rfl⟩;rw[hp,hq]at aa;rw[hp]at hP;rw[hp,hq]at HF;have ag:=hy' aa;clear hn hs hp hq aa;go_enter func83,ntmps83;go_wp2_with fail;have ah:Below w.heap.size w (w.alloc (.cells #[.slice A n c] 89)):=(Zc _ _).alloc (Za _) _;refine (HF.o _ HN.o ai HS.o (hA.belowN ah hB (Za _))).mono ?_;rintro e w1 ⟨rfl,ae⟩;have af:=ah.trans (ae.mono (by simp));rcases q with _|_
 · go_wp2;go_ret;exact⟨by rw[ag.o];rfl,af⟩
 go_wp2;go_ret;exact⟨by rw[ag.o];rfl,af⟩
theorem zLW (A:Option Addr) (c n B:Nat) (l:List Int) (d:Int) (w:World) (hn:l.length=n) (ah:n≤1000000) (hs:C.srt l) (hB:B≤w.heap.size) (hA:Sl w B A (l.map (Value.int .i32))) :
 Calls prog 56 #[.agg #[.slice A n c],.int .i32 d] w (fun e w'=>e=.returned (.bool (C.mem l d))∧Below w.heap.size w w'):=by
 have HF:=hy' (zNo A c n B l d);have hP:=zIf l d;rw[hn]at hP;have HN:=hy' hn;have HS:=hy' hs;have hm:=zLV hs d;have ag:zP8 l d≤n+1:=by unfold zP8;split <;> omega
 change C.mem l d=((zP8 l d%2) == 1) at hm;obtain⟨q,hq⟩:∃q,zP8 l d=q:=⟨_,rfl⟩;rw[hq]at HF hm ag;have HM:=hy' hm;have hb:=zQc q (by omega);clear hn hs hq hm;go_enter func56,ntmps56;go_wp2_with fail;have ae:Below w.heap.size w (w.alloc (.cells #[.slice A n c] 89)):=(Zc _ _).alloc (Za _) _;refine (HF.o _ HN.o ah HS.o (by simp <;> omega) (hA.belowN ae hB (Za _))).mono ?_;rintro e w1 ⟨rfl,aa⟩;have af:=ae.trans (aa.mono (by simp));go_wp2;go_ret;refine⟨?_,af⟩;rw[HM.o];refine zBb ?_;rw[Z9];simp;omega
end
end Go.Proofs.YtddbccflcekdpaaGreatDoor
