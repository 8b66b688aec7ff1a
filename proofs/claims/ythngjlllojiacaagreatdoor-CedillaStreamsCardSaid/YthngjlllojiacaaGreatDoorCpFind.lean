/- The layer cpset in plain Lean, more: range by range. -/
import Derived.Test.YthngjlllojiacaaGreatDoorCpRngs
import Derived.Lib.SlicesCompact
set_option maxRecDepth 100000
set_option maxHeartbeats 2000000
set_option linter.unusedVariables false
set_option linter.unusedSimpArgs false
namespace Go.Proofs.YthngjlllojiacaaGreatDoor
open Go.Proofs.Tryz
def C.part:List Int→Nat→Int
 | _,0=>0
 | x::y::t,i+1=>y-x+C.part t i
 | _,_=>0
theorem zRr (l:List Int):C.part l 0=0:=by unfold C.part;rfl
theorem zG9 {x y:Int} {t:List Int} (h:C.ok (x::y::t)):C.ok t :=
 ⟨zAC (zAC h.1),fun z hz=>h.2.1 z (by simp[hz]),by have:=h.2.2;simp at this;omega⟩
theorem zIe:∀{l:List Int} {i:Nat} {r:Int × Int},C.ok l→(zAH l)[i]?=some r→C.part l (i+1)=C.part l i+(r.2-r.1+1)
 | [],i,r,_,h=>by simp[zAH]at h
 | [x],i,r,_,h=>by simp[zAH]at h
 | x::y::t,0,r,_,h=>by
   simp[zAH]at h;subst h;show y-x+C.part t 0=0+(y-1-x+1);rw[show C.part t 0=0 by cases t <;> rfl];omega
 | x::y::t,i+1,r,hk,h=>by
   have:=zIe (zG9 hk) (show (zAH t)[i]?=some r from h);show y-x+C.part t (i+1)=y-x+C.part t i+_;rw[this];omega
theorem zLs:∀{l:List Int} (_:C.ok l) (i:Nat),0≤C.part l i∧C.part l i≤C.count l
 | [],_,i=>by cases i <;> exact⟨YC _,YC _⟩
 | [x],h,_=>by have:=h.2.2;simp at this
 | x::y::t,h,0=>⟨YC _,(zJs h).1⟩
 | x::y::t,h,i+1=>by
   have aa:=zBx h.1 y (by simp);have:=zLs (zG9 h) i;show 0≤y-x+C.part t i∧y-x+C.part t i≤y-x+C.count t;omega
theorem zKg:∀{l:List Int} {i:Nat} {r:Int × Int},C.ok l→(zAH l)[i]?=some r→0≤r.1∧r.1≤r.2∧r.2≤1114111∧r.1≤1114111
 | [],i,r,_,h=>by simp[zAH]at h
 | [x],i,r,_,h=>by simp[zAH]at h
 | x::y::t,0,r,hk,h=>by
   simp[zAH]at h;subst h;have aa:=zBx hk.1 y (by simp);have h1:=hk.2.1 x (by simp);have h2:=hk.2.1 y (by simp);dsimp only;omega
 | x::y::t,i+1,r,hk,h=>zKg (zG9 hk) (show (zAH t)[i]?=some r from h)
section
open Go.RowKit
theorem Sl.pair {w:World} {B:Nat} {A:Option Addr} {k:IntKind} {rs:List (Int × Int)} (h:Sl w B A (C.fl k rs)) {i:Nat} {r:Int × Int} (hr:rs[i]?=some r) :
 ∃b o,A=some ⟨b,o,none⟩∧b<B∧w.cell? ⟨b,o+i*2,none⟩=some (.int k r.1)∧w.cell? ⟨b,o+i*2+1,none⟩=some (.int k r.2):=by
 have hi:i<rs.length:=(List.getElem?_eq_some_iff.1 hr).1;obtain⟨b,o,hA,hb,hc⟩:=h (by rw[C.fl_len];omega);obtain⟨h0,h1⟩:=C.fl_get k rs i r hr;refine⟨b,o,hA,hb,?_,?_⟩
 · rw[Q0,hc _ (by rw[C.fl_len];omega),h0]
 rw[Q0,Yi,hc _ (by rw[C.fl_len];omega),h1]
theorem zDC {P:Program} {fn:Func} {p u:Tmp} {ty:TypeId} (h:fn.results = #[.cell p ty,.tmp u]) (tmps:Array Value) (w:World) (g:Nat) (t:TypeId) (cs:Array Value) (fr:Nat × Nat) (d:TypeDesc)
 (hp:tmps.getD p undef=.pointer (some ⟨g,0,none⟩)) (hg:w.heap[g]?=some (.cells cs t fr))
 (hu:P.underlying ty=some d) (hd:(match d with | .struct _ | .array _ _=>true|_=>false)=true) (hi:(P.info? ty).map (·.size)=some cs.size) :
 (results fn tmps).run P w=.ok (.tuple #[.agg cs,tmps.getD u undef]) w:=by
 have aa:tmps[p]?.getD undef=.pointer (some ⟨g,0,none⟩):=by simpa using hp
 simp[results,h,aa,asAddr,X3 w g t ty cs fr d hg hu hd hi]
def C.good (rs:List (Int × Int)):Bool:=rs.all fun r=>decide (0≤r.1)&&decide (r.2≤1114111)&&decide (r.1≤r.2)
theorem Sl.take {w:World} {B:Nat} {A:Option Addr} {xs:List Value} (h:Sl w B A xs) (m:Nat):Sl w B A (xs.take m):=by
 intro hx;rw[Zr]at hx;obtain⟨b,o,hA,hb,hc⟩:=h (by omega);refine⟨b,o,hA,hb,fun i hi=>?_⟩;rw[Zr]at hi;rw[hc i (by omega),Yk,Zl (by omega)]
theorem C.fl_one (k:IntKind):∀rs,∀u∈C.fl k rs,u.oneCell'=true
 | [],u,h=>by cases h
 | (x,y)::t,u,h=>by
  rcases List.mem_cons.1 h with rfl|h
  · rfl
  rcases List.mem_cons.1 h with rfl|h
  · rfl
  exact C.fl_one k t u h
end
def zPT (rs:List (Int × Int)) (c:Int):Bool:=rs.any fun r=>decide (r.1≤c∧c≤r.2)
theorem zGF:∀(l:List Int),C.ok l→∀c,zPT (zAH l) c=C.mem l c
 | [],_,c=>rfl
 | [x],h,c=>by have:=h.2.2;simp at this
 | x::y::t,h,c=>by
   have ih:=zGF t (zG9 h) c;have aa:=zBx h.1 y (by simp);show (decide (x≤c∧c≤y-1)||zPT (zAH t) c)=_;rw[ih,C.mem_cons,C.mem_cons]
   by_cases h1:x≤c
   · by_cases h2:y≤c
     · rw[Zt (by omega),Zu h1,Zu h2];simp
     have hm:C.mem t c=false:=zBe (zAC h.1) (by omega);rw[Zu (show x≤c∧c≤y-1 by omega),Zu h1,Zt h2,hm];rfl
   have hm:C.mem t c=false:=zBe (zAC h.1) (by omega);rw[Zt (by omega),Zt h1,hm];rfl
section
variable {S:List Int} (hS:C.ok S) (hC:∀c,C.mem S c=true→C.isC c=true) {d:Int} (h0:0≤d) (h1:d≤1114111)
include hS hC h0 h1
end
section
open Go.RowKit
theorem C.ris_any (c:Int) (w:World):Calls prog 69 #[.int .i64 c] w fun e w'=>e=.returned (.bool (C.isC c))∧w=w':=by
 obtain⟨q,hq⟩:∃q,C.isC c=q:=⟨_,rfl⟩;rw[hq];have HQ:=hy' hq;clear hq;go_enter func69,ntmps69
 by_cases h0:0≤c
 · by_cases h1:c≤1114111
   · by_cases h2:c<55296
     · go_wp2;go_ret;exact⟨by rw[←HQ.o];exact zB5 (by unfold C.isC;symm;exact decide_eq_true (by omega)),rfl⟩
     by_cases h3:57343<c
     · go_wp2;go_ret;exact⟨by rw[←HQ.o];exact zB5 (by unfold C.isC;symm;exact decide_eq_true (by omega)),rfl⟩
     go_wp2;go_ret;exact⟨by rw[←HQ.o];exact zB5 (by unfold C.isC;symm;exact decide_eq_false (by omega)),rfl⟩
   go_wp2;go_ret;exact⟨by rw[←HQ.o];exact zB5 (by unfold C.isC;symm;exact decide_eq_false (by omega)),rfl⟩
 go_wp2;go_ret;exact⟨by rw[←HQ.o];exact zB5 (by unfold C.isC;symm;exact decide_eq_false (by omega)),rfl⟩
def C.ins (x:Int):List Int→List Int
 | []=>[x]
 | y::t=>if x<y then x::y::t else if x=y then y::t else y::C.ins x t
end
theorem zDD:∀(l:List Int) (x c:Int),C.srt (l++[x])→C.mem (l++[x]) c=(C.mem l c ^^ decide (x≤c))
 | [],x,c,_=>by simp[C.mem]
 | y::t,x,c,h=>by
   have ih:=zDD t x c (zAC h);have aa:=zBx h x (by simp);rw[Zo,C.mem_cons,ih,C.mem_cons]
   by_cases hy:y≤c
   · rw[Zu hy];cases C.mem t c <;> cases decide (x≤c) <;> rfl
   rw[Zt hy,Zt (by omega)];rfl
theorem zF5 {l:List Int} {x:Int} (h:C.srt l) (hx:∀y∈l,y<x):C.srt (l++[x]):=by
 unfold C.srt;rw[Jj];exact⟨h,List.pairwise_singleton _ _,fun a ha b hb=>by simp at hb;subst hb;exact hx a ha⟩
def C.step (p:Int→Bool) (acc:List Int) (a b:Int):List Int :=
 if p a=true then (if acc.getLast?=some a then acc.dropLast++[b] else acc++[a,b]) else acc
def zH7 (p:Int→Bool) (acc:List Int) (a:Int):Prop :=
 C.srt acc∧acc.length%2=0∧(∀x∈acc,x≤a)∧∀c,C.mem acc c=(p c&&decide (c<a))
theorem zMP {p:Int→Bool} {acc:List Int} {a b:Int} (h:zH7 p acc a) (ak:a<b) (hp:∀c,a≤c→c<b→p c=p a):zH7 p (C.step p acc a b) b:=by
 obtain⟨h1,h2,h3,h4⟩:=h;unfold C.step
 have key:∀c,p a=true→((p c&&decide (c<a)) ^^ decide (a≤c) ^^ decide (b≤c))=(p c&&decide (c<b)):=by
  intro c ae
  by_cases ha:a≤c
  · by_cases hb:b≤c
    · rw[Zu ha,Zu hb,Zt (show ¬c<a by omega),Zt (show ¬c<b by omega)];simp
    rw[Zu ha,Zt hb,Zt (show ¬c<a by omega),Zu (show c<b by omega),hp c ha (by omega),ae];rfl
  rw[Zt ha,Zt (show ¬b≤c by omega),Zu (show c<a by omega),Zu (show c<b by omega)];simp
 split
 rotate_left
 · rename_i ae;refine⟨h1,h2,fun x hx=>by have:=h3 x hx;omega,fun c=>?_⟩;rw[h4 c]
   by_cases ha:c<a
   · rw[Zu ha,Zu (by omega)]
   by_cases hb:c<b
   · have hf:p a=false:=by cases h:p a <;> simp_all
     rw[hp c (by omega) hb,hf];rfl
   rw[Zt ha,Zt hb]
 rename_i ae;split
 · rename_i hl
   obtain⟨l,rfl⟩:∃l,acc=l++[a]:=by
    obtain⟨l,ai⟩:=List.getLast?_eq_some_iff.1 hl;exact⟨l,ai⟩
   rw[Jl];have aj:C.srt l:=(List.pairwise_append.1 h1).1;have aa:∀y∈l,y<a:=fun y hy=>(List.pairwise_append.1 h1).2.2 y hy a (by simp)
   have af:=zF5 aj (x:=b) (fun y hy=>by have:=aa y hy;omega);refine⟨af,by simpa using h2,?_,?_⟩
   · intro x hx;rcases List.mem_append.1 hx with hx|hx
     · have:=aa x hx;omega
     simp at hx;omega
   intro c;rw[zDD _ _ _ af,←key c ae,←h4 c,zDD _ _ _ h1];cases C.mem l c <;> cases decide (a≤c) <;> cases decide (b≤c) <;> rfl
 rename_i hl
 have aa:∀y∈acc,y<a:=by
  intro y hy;rcases Q2 y a with h'|h'
  · exact h'
  exfalso;have ah:y=a:=by have:=h3 y hy;omega
  subst ah;rcases YZ acc with rfl|⟨l,z,rfl⟩
  · cases hy
  rw[Y0]at *;have hz:=h3 z (by simp);rcases List.mem_append.1 hy with hy|hy
  · have:=(List.pairwise_append.1 h1).2.2 y hy z (by simp);omega
  simp at hy;subst hy;exact hl (by simp)
 have ag:=zF5 h1 aa
 have af:=zF5 ag (x:=b) (fun y hy=>by
  rcases List.mem_append.1 hy with hy|hy
  · have:=aa y hy;omega
  simp at hy;omega)
 have e:acc++[a,b]=(acc++[a])++[b]:=by simp
 rw[e];refine⟨af,by simp;omega,?_,?_⟩
 · intro x hx;simp at hx;rcases hx with hx|hx|hx
   · have:=aa x hx;omega
   · omega
   omega
 intro c;rw[zDD _ _ _ af,zDD _ _ _ ag,h4 c,key c ae]
theorem zJz {p:Int→Bool} {acc:List Int} {a b:Int} (hp:p a=true) (h:acc.getLast?≠some a):C.step p acc a b=acc++[a,b]:=by
 unfold C.step;rw[Zl hp,Zj h]
theorem zLt {p:Int→Bool} {acc:List Int} {a b:Int} (hp:p a=false):C.step p acc a b=acc:=by
 unfold C.step;rw[Zj (by simp[hp])]
theorem zOE {p:Int→Bool} {acc:List Int} {a b x:Int} (h:x∈C.step p acc a b):x∈acc∨x=a∨x=b:=by
 unfold C.step at h;split at h
 rotate_left
 · exact .inl h
 split at h
 · rcases List.mem_append.1 h with h|h
   · exact .inl (List.dropLast_subset _ h)
   simp at h;exact .inr (.inr h)
 rcases List.mem_append.1 h with h|h
 · exact .inl h
 simp at h;rcases h with h|h
 · exact .inr (.inl h)
 exact .inr (.inr h)
theorem zMQ {p:Int→Bool} {acc:List Int} {a c:Int} (h:zH7 p acc a) (aa:a≤c) (hp:∀d,a≤d→d<c→p d=false):zH7 p acc c:=by
 obtain⟨h1,h2,h3,h4⟩:=h;refine⟨h1,h2,fun x hx=>by have:=h3 x hx;omega,fun d=>?_⟩;rw[h4 d]
 by_cases h:d<a
 · rw[Zu h,Zu (by omega)]
 by_cases h':d<c
 · rw[hp d (by omega) h'];rfl
 rw[Zt h,Zt h']
theorem zOF {p:Int→Bool} {acc:List Int} {c b:Int} (h:p c=C.isC c):C.step p acc c b=C.step C.isC acc c b:=by
 unfold C.step;rw[h]
theorem C.step_bd {acc:List Int} {c:Int} (h:∀x∈acc,0≤x∧x≤1114112):∀x∈C.step C.isC acc c (c+1),0≤x∧x≤1114112:=by
 intro x hx;cases hc:C.isC c
 · rw[zLt hc]at hx;exact h x hx
 have hb:0≤c∧c≤1114111:=by simp[C.isC]at hc;omega
 rcases zOE hx with hx|rfl|rfl
 · exact h x hx
 · omega
 omega
def zEx (cs acc:List Int):List Int:=cs.foldl (fun o c=>C.step C.isC o c (c+1)) acc
theorem zPU {p:Int→Bool}:∀(cs acc:List Int) (a:Int),C.srt cs→(∀c∈cs,a≤c)→(∀d,a≤d→p d=(decide (d∈cs)&&C.isC d))→(∀x∈acc,0≤x∧x≤1114112)→zH7 p acc a →
 (∀x∈zEx cs acc,0≤x∧x≤1114112)∧∃b,zH7 p (zEx cs acc) b∧∀d,b≤d→p d=false
 | [],acc,a,_,_,hp,hb,h=>⟨hb,a,h,fun d hd=>by rw[hp d hd];simp⟩
 | c::t,acc,a,hs,hc,hp,hb,h=>by
   have aa:=hc c (by simp);have ae:∀z∈t,c<z:=zBx hs
   have h1:=zMQ h aa (fun d d1 d2=>by
    rw[hp d d1]
    have:d∉c::t:=by
     intro hm;rcases List.mem_cons.1 hm with rfl|hm
     · omega
     have:=ae d hm;omega
    rw[Zt this];rfl)
   have af:p c=C.isC c:=by rw[hp c aa,Zu (by simp)];rfl
   have h2:=zMP h1 (show c<c+1 by omega) (fun d d1 d2=>by rw[show d=c by omega]);rw[zOF af]at h2;show (∀x∈zEx t (C.step C.isC acc c (c+1)),0≤x∧x≤1114112)∧∃b,zH7 p (zEx t (C.step C.isC acc c (c+1))) b∧∀d,b≤d→p d=false;refine zPU t _ (c+1) (zAC hs) (fun z hz=>by have:=ae z hz;omega) (fun d hd=>?_) (C.step_bd hb) h2;rw[hp d (by omega)];congr 1;rw[JZ];constructor
   · intro hm;rcases List.mem_cons.1 hm with rfl|hm
     · omega
     exact hm
   intro hm;simp[hm]
theorem zPV (cs:List Int) (hs:C.srt cs):C.ok (zEx cs [])∧∀d,C.mem (zEx cs []) d=(decide (d∈cs)&&C.isC d):=by
 obtain⟨a,ha⟩:∃a:Int,∀c∈cs,a≤c:=by
  cases cs with
  | nil=>exact⟨0,by simp⟩
  | cons c t=>exact⟨c,fun z hz=>by
     rcases List.mem_cons.1 hz with rfl|hz
     · exact YC _
     have:=zBx hs z hz;omega⟩
 have h0:zH7 (fun d=>decide (d∈cs)&&C.isC d) [] a:=by
  refine⟨List.Pairwise.nil,rfl,by simp,fun d=>?_⟩
  by_cases hd:d<a
  · have:d∉cs:=fun hm=>by have:=ha d hm;omega
    show false=((decide (d∈cs)&&C.isC d)&&decide (d<a));rw[Zt this];rfl
  show false=((decide (d∈cs)&&C.isC d)&&decide (d<a));rw[Zt hd,Kd]
 obtain⟨hb,b,⟨u1,u2,u3,u4⟩,hz⟩:=zPU cs [] a hs ha (fun d _=>rfl) (by simp) h0;refine⟨⟨u1,hb,u2⟩,fun d=>?_⟩;rw[u4 d]
 by_cases hd:d<b
 · rw[Zu hd,Ki]
 have:=hz d (by omega);rw[this];show ((decide (d∈cs)&&C.isC d)&&decide (d<b))=false;rw[this];rfl
theorem zIf {l:List Int} {j:Nat} (h:j<l.length):l.toArray[j]! = l[j]:=by
 rw[getElem!_pos l.toArray j (by simpa using h)];simp
theorem zPW {l:List Int} (hs:l.Pairwise (· ≤ ·)) {i j:Nat} (hij:i≤j) (hj:j<l.length):l[i]'(by omega)≤l[j]:=by
 rcases ZZ i j with h|h
 · exact List.pairwise_iff_getElem.1 hs i j (by omega) hj h
 obtain rfl:i=j:=by omega
 exact YC _
theorem zJA (l:List Int) (hs:l.Pairwise (· ≤ ·)):∀m,m≤l.length→C.srt (Lib.compactUpTo l.toArray m)∧∀z,z∈Lib.compactUpTo l.toArray m↔z∈l.take m
 | 0,_=>⟨by simp[Lib.compactUpTo,C.srt],by simp[Lib.compactUpTo]⟩
 | m+1,hm=>by
   obtain⟨h1,h2⟩:=zJA l hs m (by omega);have ae:m<l.length:=by omega
   have et:l.take (m+1)=l.take m++[l[m]]:=by rw[YK ae]
   have eg:=zIf ae;rw[Lib.compactUpTo_succ]
   by_cases hk:m=0∨l[m]≠l[m-1]'(by omega)
   · have aa:Lib.keeps l.toArray m=true:=by
      unfold Lib.keeps;rw[Yu,eg,zIf (show m-1<l.length by omega)];exact hk
     rw[Zl aa,eg];refine⟨zF5 h1 fun y hy=>?_,fun z=>by rw[Xb,h2,et,Xb]⟩;obtain⟨j,hj,rfl⟩:=Xr ((h2 y).1 hy);have af:j<m:=by rw[Zr]at hj;omega
     rw[JT];rcases hk with rfl|hk
     · omega
     have a1:=zPW hs (i:=j) (j:=m-1) (by omega) (by omega);have a2:=zPW hs (i:=m-1) (j:=m) (by omega) ae;omega
   have h0:m≠0:=fun h=>hk (.inl h)
   have he:l[m]=l[m-1]'(by omega):=by
    rcases Int.decEq l[m] (l[m-1]'(by omega)) with h|h
    · exact absurd (.inr h) hk
    exact h
   have aa:Lib.keeps l.toArray m=false:=by
    unfold Lib.keeps;rw[ZY,eg,zIf (show m-1<l.length by omega)];exact hk
   rw[aa];refine⟨by simpa using h1,fun z=>?_⟩;rw[et];simp only[ZL,Yc,Z3];rw[h2,Xb];constructor
   · exact .inl
   rintro (h|h)
   · exact h
   rw[Zp]at h;subst h;rw[he];have:l[m-1]'(by omega)=(l.take m)[m-1]'(by rw[Zr];omega):=by rw[JT]
   rw[this];exact XT _
def zEy (l:List Int):List Int:=Lib.compactUpTo (l.mergeSort fun x y=>decide (x≤y)).toArray l.length
theorem zIg (l:List Int):C.srt (zEy l)∧∀z,z∈zEy l↔z∈l:=by
 have hs:(l.mergeSort fun x y=>decide (x≤y)).Pairwise (· ≤ ·):=by
  have h:=List.pairwise_mergeSort (le:=fun x y:Int=>decide (x≤y)) (by intro a b c h1 h2;simp at *;omega) (by intro a b;simp;omega) l;exact h.imp (by intro a b h;simpa using h)
 obtain⟨h1,h2⟩:=zJA _ hs l.length (by simp);refine⟨h1,fun z=>?_⟩;unfold zEy;rw[h2,Zi (by simp)];exact (List.mergeSort_perm l _).mem_iff
def C.chars (l:List Int):List Int:=zEx (zEy l) []
theorem zC0 (l:List Int):C.ok (C.chars l)∧∀d,C.mem (C.chars l) d=(decide (d∈l)&&C.isC d):=by
 obtain⟨h1,h2⟩:=zIg l;obtain⟨h3,h4⟩:=zPV (zEy l) h1;refine⟨h3,fun d=>?_⟩;show C.mem (zEx (zEy l) []) d=_;rw[h4 d];congr 1;rw[JZ];exact h2 d
section
open Go.RowKit
structure Ud.At where
 m:Option Addr
 mc:Nat
 f:Option Addr
 fc:Nat
def zBw (T:List Rw.Row) (X:Int→Bool):List Rw.Row→List Ud.At→List Value
 | r::l,a::es=>.slice a.m r.2.2.length a.mc::.slice a.f (Ud.full T r.1).length a.fc::.bool (zAo T X r.1)::zBw T X l es
 | _,_=>[]
theorem zGG (T:List Rw.Row) (X:Int→Bool):∀(l:List Rw.Row) (es:List Ud.At),es.length=l.length→(zBw T X l es).length=l.length*3
 | [],_,_=>by simp[zBw]
 | r::l,[],h=>by simp at h
 | r::l,a::es,h=>by simp[zBw,zGG T X l es (by simpa using h)];omega
theorem zJB (T:List Rw.Row) (X:Int→Bool):∀(l:List Rw.Row) (es:List Ud.At) (r:Rw.Row) (a:Ud.At),es.length=l.length→zBw T X (l++[r]) (es++[a])=zBw T X l es++[.slice a.m r.2.2.length a.mc,.slice a.f (Ud.full T r.1).length a.fc,.bool (zAo T X r.1)]
 | [],[],r,a,_=>rfl
 | [],_::_,_,_,h=>by simp at h
 | _::_,[],_,_,h=>by simp at h
 | q::l,b::es,r,a,h=>by simp[zBw,zJB T X l es r a (by simpa using h)]
theorem zJC (T:List Rw.Row) (X:Int→Bool):∀(l:List Rw.Row) (es:List Ud.At) (i:Nat) (r:Rw.Row) (a:Ud.At),l[i]?=some r→es[i]?=some a →
 (zBw T X l es)[i*3]?=some (.slice a.m r.2.2.length a.mc)∧(zBw T X l es)[i*3+1]?=some (.slice a.f (Ud.full T r.1).length a.fc)∧(zBw T X l es)[i*3+2]?=some (.bool (zAo T X r.1))
 | [],_,_,_,_,h,_=>by simp at h
 | _::_,[],_,_,_,_,h=>by simp at h
 | q::l,b::es,0,r,a,h1,h2=>by
   simp at h1 h2;subst h1;subst h2;simp[zBw]
 | q::l,b::es,i+1,r,a,h1,h2=>by
   have:=zJC T X l es i r a (by simpa using h1) (by simpa using h2);rw[show (i+1)*3=i*3+3 by omega];simpa [zBw] using this
def Ud.ints (l:List Int):List Value:=l.map (Value.int .i32)
def Ud.Ents (w:World) (T:List Rw.Row) (X:Int→Bool) (A:Option Addr) (es:List Ud.At):Prop :=
 es.length=(zAB T).length∧Sl w w.heap.size A (zBw T X (zAB T) es)∧∀(i:Nat) r a,(zAB T)[i]?=some r→es[i]?=some a→Sl w w.heap.size a.m (Ud.ints r.2.2)∧Sl w w.heap.size a.f (Ud.ints (Ud.full T r.1))
theorem Ud.Ents.below {w w':World} {T:List Rw.Row} {X:Int→Bool} {A:Option Addr} {es:List Ud.At} (h:Ud.Ents w T X A es) (hb:Below w.heap.size w w'):Ud.Ents w' T X A es :=
 ⟨h.1,h.2.1.below hb hb.size,fun i r a h1 h2=>⟨(h.2.2 i r a h1 h2).1.below hb hb.size,(h.2.2 i r a h1 h2).2.below hb hb.size⟩⟩
def Ud.Beg (w:World) (T:List Rw.Row) (b:Nat):Prop:=∃F:Value→Option Value,Mp.Is prog 21 w b F ∧
 ∀c:Int,(zO2 T T c=[]∧F (.int .i32 c)=none)∨∃A cap,F (.int .i32 c)=some (.slice A (zO2 T T c).length cap)∧Sl w w.heap.size A (Ud.ints (zO2 T T c))
def Ud.Joi (w:World) (T:List Rw.Row) (X:Int→Bool) (b:Nat):Prop:=∃F:Value→Option Value,Mp.Is prog 173 w b F∧∀a c:Int,F (.agg #[.int .i32 a,.int .i32 c])=(zCb T X T a c).map (Value.int .i32)
structure Ud.Is (w:World) (v:Value) (T:List Rw.Row) (S:List Int):Prop where
 is:∃b A0 c0 XA xc pc pp A3 c3 mb jb A4 c4 A5 c5 A6 c6 es,
  v=.pointer (some ⟨b,0,none⟩) ∧
  Rw.At w b 144 [.slice A0 (Ud.keep T).length c0,.slice XA S.length xc,pc,pp,.slice A3 (zAB T).length c3,.map (some mb),.map (some jb),.slice A4 (C.chars (Ud.inn T T)).length c4,.slice A5 (C.chars (Ud.sec T (C.mem S) T)).length c5,.slice A6 (C.chars (zPN T)).length c6] ∧
  Rw.Sees w A0 (Ud.keep T)∧Sl w w.heap.size XA (Ud.ints S)∧Pg.Of w pc (Pg.last (zLo T))∧Pg.Of w pp (Pg.last (zGC T))∧Ud.Ents w T (C.mem S) A3 es∧Ud.Beg w T mb∧Ud.Joi w T (C.mem S) jb ∧
  Sl w w.heap.size A4 (Ud.ints (C.chars (Ud.inn T T)))∧Sl w w.heap.size A5 (Ud.ints (C.chars (Ud.sec T (C.mem S) T)))∧Sl w w.heap.size A6 (Ud.ints (C.chars (zPN T)))
theorem Ud.Beg.below {w w':World} {T:List Rw.Row} {b:Nat} (h:Ud.Beg w T b) (hb:Below w.heap.size w w'):Ud.Beg w' T b:=by
 obtain⟨F,h1,h2⟩:=h;refine⟨F,h1.below hb,fun c=>?_⟩;rcases h2 c with h|⟨A,cap,h3,h4⟩
 · exact .inl h
 exact .inr ⟨A,cap,h3,h4.below hb hb.size⟩
theorem Ud.Joi.below {w w':World} {T:List Rw.Row} {X:Int→Bool} {b:Nat} (h:Ud.Joi w T X b) (hb:Below w.heap.size w w'):Ud.Joi w' T X b:=by
 obtain⟨F,h1,h2⟩:=h;exact⟨F,h1.below hb,h2⟩
theorem Ud.Is.below {w w':World} {v:Value} {T:List Rw.Row} {S:List Int} (h:Ud.Is w v T S) (hb:Below w.heap.size w w'):Ud.Is w' v T S:=by
 obtain⟨b,A0,c0,XA,xc,pc,pp,A3,c3,mb,jb,A4,c4,A5,c5,A6,c6,es,h1,h2,h3,h4,h5,h6,h7,h8,h9,af,aa,ae⟩:=h.is;exact⟨b,A0,c0,XA,xc,pc,pp,A3,c3,mb,jb,A4,c4,A5,c5,A6,c6,es,h1,h2.below hb,h3.below hb,h4.below hb hb.size,h5.below hb,h6.below hb,h7.below hb,h8.below hb,h9.below hb,af.below hb hb.size,aa.below hb hb.size,ae.below hb hb.size⟩
structure Ud.Ok (T:List Rw.Row) (S:List Int):Prop where
 chk:Md.chk T (C.mem S)=0
 srt:C.srt S
 len:T.length≤10000
 slen:S.length≤1000000
theorem Ud.Ok.good {T:List Rw.Row} {S:List Int} (h:Ud.Ok T S):∀r∈T,Md.good r:=(zDX h.chk).1
theorem Ud.Ok.rises {T:List Rw.Row} {S:List Int} (h:Ud.Ok T S):Md.rises T:=(zDX h.chk).2.1
theorem Ud.Is.form {w:World} {v:Value} {T:List Rw.Row} {S:List Int} (h:Ud.Is w v T S):∃b,v=.pointer (some ⟨b,0,none⟩)∧b<w.heap.size:=by
 obtain⟨b,A0,c0,XA,xc,pc,pp,A3,c3,mb,jb,A4,c4,A5,c5,A6,c6,es,h1,h2,_⟩:=h.is;exact⟨b,h1,h2.lt⟩
end
theorem zF6 {r:Rw.Row} (h:Md.good r):0≤r.1∧r.1≤1114111:=by
 have:=h.1;unfold C.isC at this;simp only[Zm]at this;exact⟨this.1,this.2.1⟩
theorem Ud.Ok.bd {T:List Rw.Row} {S:List Int} (h:Ud.Ok T S):Md.bd T:=by
 intro r hr;have hg:=h.good r hr;have h1:=zF6 hg;refine⟨by omega,fun c hc=>?_⟩;have:=(hg.2.2.2.2.2 c hc).1;unfold C.isC at this;simp only[Zm]at this;omega
theorem zOG {T:List Rw.Row} {S:List Int} (h:Ud.Ok T S) (c:Int):Pg.get (Pg.last (zLo T)) c=Md.cls T c:=by
 unfold Pg.get;rw[zML h.rises (fun r hr=>(h.good r hr).2.1)];split
 · rfl
 rename_i hc;unfold Md.cls;cases hf:Md.find T c with
 | none=>rfl
 | some r =>
   obtain⟨h1,h2⟩:=zAq hf;have:=zF6 (h.good r h1);omega
theorem zDE {T:List Rw.Row} {S:List Int} (h:Ud.Ok T S) (c:Int):0≤Md.cls T c∧Md.cls T c≤254:=by
 unfold Md.cls;cases hf:Md.find T c with
 | none=>simp
 | some r =>
   have:=h.good r (zAq hf).1;exact⟨this.2.1,this.2.2.1⟩
theorem zPX {T:List Rw.Row} {S:List Int} (h:Ud.Ok T S) (c:Int):(∃(i:Nat) (r:Rw.Row),(zAB T)[i]?=some r∧r.1=c∧Md.find T c=some r∧0<r.2.2.length∧Pg.get (Pg.last (zGC T)) c=(i:Int)+1)∨(Pg.get (Pg.last (zGC T)) c=0∧zAS T c=[]):=by
 rcases zOA h.rises c with ⟨i,r,h1,h2,h3,h4⟩|⟨h1,h2⟩
 · refine .inl ⟨i,r,h1,h2,h3,h4,?_⟩;have hb:=zF6 (h.good r (zAq h3).1);unfold Pg.get;rw[Zl (by omega),←h2,zMM h.rises h1]
 refine .inr ⟨?_,h2⟩;unfold Pg.get;rw[zMN h1];simp
theorem zMR {T:List Rw.Row} {c:Int} (hr:zAS T c=[]) (hk:zA2 c<4):Ud.full T c=[c]:=by
 unfold Ud.full;rw[(zOB hr hk).2];rfl
theorem zKh {T:List Rw.Row} {S:List Int} (h:Ud.Ok T S) {c:Int} (hs:zA6 c≠[]):Ud.full T c=zA6 c:=by
 have hk:zA2 c=4∨zA2 c=5:=by
  unfold zA6 at hs
  by_cases h4:zA2 c=4
  · exact .inl h4
  by_cases h5:zA2 c=5
  · exact .inr h5
  rw[Zj h4,Zj h5]at hs;exact absurd rfl hs
 unfold Ud.full;rw[zMO h.good hk];rfl
theorem zKi {c:Int} (hs:zA6 c=[]):zA2 c<4:=by
 have:=zF3 c;unfold zA6 at hs
 by_cases h4:zA2 c=4
 · rw[Zl h4]at hs;cases hs
 by_cases h5:zA2 c=5
 · rw[Zj h4,Zl h5]at hs;cases hs
 omega
theorem Ud.isC_bd {c:Int} (h:C.isC c=true):0≤c∧c≤1114111:=by
 unfold C.isC at h;simp only[Zm]at h;exact⟨h.1,h.2.1⟩
def zDF:List Int→Int→Nat
 | [],_=>0
 | x::t,d=>if x<d then zDF t d+1 else 0
def C.hit (l:List Int) (d:Int):Bool:=l[zDF l d]? == some d
theorem zHQ:∀(l:List Int) (d:Int),zDF l d≤l.length
 | [],_=>Za _
 | x::t,d=>by
   show (if x<d then zDF t d+1 else 0)≤t.length+1;have:=zHQ t d;split <;> omega
theorem zO4:∀{l:List Int} (_:C.srt l) {k:Nat} {x:Int},l[k]?=some x→∀d,(x<d↔k<zDF l d)
 | [],_,k,x,h,d=>by simp at h
 | y::t,hs,0,x,h,d=>by
   simp at h;subst h;show _↔0<(if y<d then zDF t d+1 else 0);split <;> simp_all
 | y::t,hs,k+1,x,h,d=>by
   have h':t[k]?=some x:=by simpa using h
   have:=zO4 (zAC hs) h' d;have hy:=zBx hs x (Zk h');show _↔k+1<(if y<d then zDF t d+1 else 0);split
   · rw[this];omega
   constructor
   · intro hx;omega
   intro hx;omega
theorem zLu:∀{l:List Int} (_:C.srt l) (d:Int),C.mem l d=(((zDF l d+(if C.hit l d=true then 1 else 0))%2) == 1)
 | [],_,d=>rfl
 | x::t,hs,d=>by
   have ih:=zLu (zAC hs) d;rw[C.mem_cons];rcases JQ x d with h|h|h
   · have e1:zDF (x::t) d=zDF t d+1:=by show (if x<d then _ else _)=_;rw[Zl h]
     have e2:C.hit (x::t) d=C.hit t d:=by unfold C.hit;rw[e1];simp
     rw[Zu (by omega),e1,e2,ih];generalize (if C.hit t d=true then 1 else 0)=q;rcases Nat.mod_two_eq_zero_or_one (zDF t d+q) with h0|h0
     · rw[h0,show (zDF t d+1+q)%2=1 by omega];rfl
     rw[h0,show (zDF t d+1+q)%2=0 by omega];rfl
   · subst h;have e1:zDF (x::t) x=0:=by show (if x<x then _ else _)=_;rw[Zj (by omega)]
     have e2:C.hit (x::t) x=true:=by unfold C.hit;rw[e1];simp
     rw[Zu (by omega),zBe hs (by omega),e1,e2];rfl
   have e1:zDF (x::t) d=0:=by show (if x<d then _ else _)=_;rw[Zj (by omega)]
   have e2:C.hit (x::t) d=false:=by unfold C.hit;rw[e1];simp;omega
   rw[Zt (by omega),e1,e2];rfl
section
open Go.RowKit
theorem zOH (x:Int) (w:World):Calls prog 220 #[.int .i32 x] w fun e w'=>e=.returned (.bool false)∧w=w':=by
 go_enter func220,ntmps220;go_wp2;go_ret;exact⟨by simp,rfl⟩
theorem zMS (x y:Int) (w:World):Calls prog 183 #[.int .i32 x,.int .i32 y] w fun e w'=>e=.returned (.bool (decide (x<y)))∧w=w':=by
 go_enter func183,ntmps183;go_wp2_with fail;refine (zOH _ _).mono ?_;rintro e w1 ⟨rfl,rfl⟩;go_wp2;go_ret;exact⟨rfl,rfl⟩
theorem C.search_any (A:Option Addr) (c n B:Nat) (l:List Int) (d:Int) (w:World) (hn:l.length=n) (ag:n≤1000000) (hs:C.srt l) (hA:Sl w B A (l.map (Value.int .i32))) :
 Calls prog 147 #[.slice A n c,.int .i32 d] w (fun e w'=>e=.returned (.tuple #[.int .i64 (zDF l d:Nat),.bool (C.hit l d)])∧Below w.heap.size w w'):=by
 have HN:=hy' hn;have HS:=hy' hs;have hP:=zHQ l d;rw[hn]at hP;obtain⟨P,hp⟩:∃P,zDF l d=P:=⟨_,rfl⟩;rw[hp]at hP;have HP:=hy' hp;clear hn hs hp;go_enter func147,ntmps147;go_wp2;go_loop [7,8] (fun vi vj=>∃i j:Nat,i≤P∧P≤j∧j≤n∧vi=.int .i64 i∧vj=.int .i64 j) (fun vi vj=>(intOf vj).toNat-(intOf vi).toNat)
 case atStart=>exact⟨0,n,by omega,hP,Za _,rfl,rfl⟩
 obtain⟨i,j,hi,hj,af,rfl,rfl⟩:=hrel
 by_cases hlt:(i:Int)<j
 · obtain⟨x,hx⟩:∃x,l[(i+j)/2]?=some x:=⟨_,Zb (by rw[HN.o];omega)⟩;obtain⟨b,o,rfl,ae,hc,_⟩:=hA.ints hx;have aa:=zO4 HS.o hx d;rw[HP.o]at aa;have m0:(0:Int)≤(((i+j)/2:Nat):Int):=by omega
   have m1:(((i+j)/2:Nat):Int)<n:=by omega
   go_wp2_with fail;refine (zMS _ _ _).mono ?_;rintro e w1 ⟨rfl,rfl⟩
   by_cases hd:x<d
   · have hk:=aa.1 hd;have hdd:decide (x<d)=true:=Zu hd;clear aa;go_wp2;exact⟨⟨(i+j)/2+1,j,by omega,by omega,by omega,by go_num,by go_num⟩,by simp[intOf];omega⟩
   have hk:¬(i+j)/2<P:=fun h=>hd (aa.2 h)
   have hdd:decide (x<d)=false:=Zt hd;clear aa;go_wp2;exact⟨⟨i,(i+j)/2,by omega,by omega,by omega,by go_num,by go_num⟩,by simp[intOf];omega⟩
 obtain rfl:i=P:=by omega
 obtain rfl:i=j:=by omega
 by_cases hin:(i:Int)<n
 · obtain⟨x,hx⟩:∃x,l[i]?=some x:=⟨_,Zb (by rw[HN.o];omega)⟩;obtain⟨b,o,rfl,ae,hc,_⟩:=hA.ints hx;have hh:C.hit l d=(x == d):=by unfold C.hit;rw[HP.o,hx];rfl
   have HH:=hy' hh;clear hx hh;have m0:(0:Int)≤(i:Int):=by omega
   rcases hxd:(x == d) with _|_
   · go_wp2;go_ret2;rw[HP.o,HH.o,hxd];exact⟨rfl,Zc _ _⟩
   go_wp2;go_ret2;rw[HP.o,HH.o,hxd];exact⟨rfl,Zc _ _⟩
 have hh:C.hit l d=false:=by
  unfold C.hit;rw[HP.o,Yn (by rw[HN.o];omega)];rfl
 have HH:=hy' hh;clear hh;go_wp2;go_ret2;rw[HP.o,HH.o];exact⟨rfl,Zc _ _⟩
def zOI (l:List Int) (d:Int):Nat:=zDF l d+(if C.hit l d=true then 1 else 0)
theorem zMT (A:Option Addr) (c n B:Nat) (l:List Int) (d:Int) (w:World) (hn:l.length=n) (ai:n≤1000000) (hs:C.srt l) (hB:B≤w.heap.size) (hA:Sl w B A (l.map (Value.int .i32))) :
 Calls prog 113 #[.agg #[.slice A n c],.int .i32 d] w (fun e w'=>e=.returned (.int .i64 (zOI l d:Nat))∧Below w.heap.size w w'):=by
 have HF:=hy' (C.search_any A c n B l d);have HN:=hy' hn;have HS:=hy' hs;have hP:=zHQ l d;rw[hn]at hP;have aa:zOI l d=zDF l d+(if C.hit l d=true then 1 else 0):=rfl;obtain⟨P,hp⟩:∃P,zDF l d=P:=⟨_,rfl⟩;obtain⟨q,hq⟩:∃q,C.hit l d=q:=⟨_,rfl⟩;rw[hp,hq]at aa;rw[hp]at hP;rw[hp,hq]at HF;have ag:=hy' aa;clear hn hs hp hq aa;go_enter func113,ntmps113;go_wp2_with fail;have af:Below w.heap.size w (w.alloc (.cells #[.slice A n c] 96)):=(Zc _ _).alloc (Za _) _;refine (HF.o _ HN.o ai HS.o (hA.belowN af hB (Za _))).mono ?_;rintro e w1 ⟨rfl,ae⟩;have ah:=af.trans (ae.mono (by simp));rcases q with _|_
 · go_wp2;go_ret;exact⟨by rw[ag.o];rfl,ah⟩
 go_wp2;go_ret;exact⟨by rw[ag.o];rfl,ah⟩
theorem zLv (A:Option Addr) (c n B:Nat) (l:List Int) (d:Int) (w:World) (hn:l.length=n) (af:n≤1000000) (hs:C.srt l) (hB:B≤w.heap.size) (hA:Sl w B A (l.map (Value.int .i32))) :
 Calls prog 78 #[.agg #[.slice A n c],.int .i32 d] w (fun e w'=>e=.returned (.bool (C.mem l d))∧Below w.heap.size w w'):=by
 have HF:=hy' (zMT A c n B l d);have hP:=zHQ l d;rw[hn]at hP;have HN:=hy' hn;have HS:=hy' hs;have hm:=zLu hs d;have ag:zOI l d≤n+1:=by unfold zOI;split <;> omega
 change C.mem l d=((zOI l d%2) == 1) at hm;obtain⟨q,hq⟩:∃q,zOI l d=q:=⟨_,rfl⟩;rw[hq]at HF hm ag;have HM:=hy' hm;have hb:=zPR q (by omega);clear hn hs hq hm;go_enter func78,ntmps78;go_wp2_with fail;have ae:Below w.heap.size w (w.alloc (.cells #[.slice A n c] 96)):=(Zc _ _).alloc (Za _) _;refine (HF.o _ HN.o af HS.o (by simp <;> omega) (hA.belowN ae hB (Za _))).mono ?_;rintro e w1 ⟨rfl,aa⟩;have ah:=ae.trans (aa.mono (by simp));go_wp2;go_ret;refine⟨?_,ah⟩;rw[HM.o];refine zB5 ?_;rw[Yg];simp;omega
end
end Go.Proofs.YthngjlllojiacaaGreatDoor
