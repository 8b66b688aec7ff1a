/- An append of a whole slice onto a row of the call's own, whatever the size of an element. -/
import Derived.Test.YtjakbblocbicjaaGreatDoorLib3
import Derived.RangeFuncRecord
import Derived.Deep.DeepCutAuto
set_option maxRecDepth 100000
set_option maxHeartbeats 2000000
set_option linter.unusedVariables false
set_option linter.unusedSimpArgs false
namespace Go.Proofs.YtjakbblocbicjaaGreatDoor
open Go.Proofs.Tryz
section
open Go.RowKit
section
variable {P:Program}
theorem zEt (w:World) (base:Nat) (t ty e:TypeId) (i:TypeInfo) (size:Nat) (ht:P.underlying t=some (.slice e)) (hi:P.info? e=some i)
 (v:Value) (n:Nat) (xs:List Value) (aa:w.ownsRow base e size v n xs) (c:Nat):(Builtin.append_ #[t,t] ty #[v,.slice none 0 c]).run P w=.ok v w:=by
 rcases aa.2 with ⟨rfl,rfl⟩|⟨g,cap,af,rfl,_,_,ae,_⟩
 · simp[Builtin.append_,Xl ht,sizeOf,typeInfo,hi,Builtin.lenOf,Builtin.firstCells]
 simp[Builtin.append_,Xl ht,sizeOf,typeInfo,hi,Builtin.lenOf,Builtin.firstCells,ae,storeCells]
theorem zFM {o:Oper} {a:Act} {K:Act→World→Prop} {Q:Exit→Act→World→Prop} (w:World) (s x:Operand) (t:TypeId)
 (ho:o.op=.call { callee:=.builtin .append,args := #[s,x],argTypes := #[t,t] })
 (base:Nat) (e:TypeId) (i:TypeInfo) (z:Value) (size bytes:Nat) (ht:P.underlying t=some (.slice e)) (hi:P.info? e=some i) (hz:i.zero=some z)
 (ag:i.size=size) (aj:i.bytes=bytes) (ak:z.cells.size=size) (ai:0<size)
 (v:Value) (n:Nat) (xs:List Value) (hs:a.eval s=v) (aa:w.ownsRow base e size v n xs)
 (B:Nat) (A:Option Addr) (m c:Nat) (news:List Value) (hx:a.eval x=.slice A m c) (hl:news.length=m*size) (hA:Sl w B A news) (h1:∀u∈news,u.oneCell'=true)
 (ao:n+m≤maxLen) (af:(n+m)*bytes≤140737488355328) (ae:base≤w.heap.size)
 (h:∀v' w',w'.ownsRow base e size v' (n+m) (xs++news)→Below base w w'→w.grownBy w' v.ownBlock→K (a.put o.dst v') w') :
 o.wp P a w K Q:=by
 rcases A with _|ad
 rotate_left
 · refine wp_append_own (P:=P) w s x t ho base e i z size bytes ht hi hz ag aj ak ai v n xs hs aa ad m c news hx hl ?_ h1 ao af ae ?_
   · intro j q hq;have hj:j<news.length:=(List.getElem?_eq_some_iff.1 hq).1;obtain⟨b,o,hA,_,hc⟩:=hA (by omega);simp only[Zg]at hA;subst hA;rw[Addr.add_lit,hc j hj,hq]
   intro v' w' h2 h3 _;refine h v' w' h2 ?_ h3;refine (Zc _ _).grown h3 ae ?_;intro k hk;exact (aa.lt k hk).1
 have hn:news=[]:=by
  rcases news with _|⟨u,r⟩
  · rfl
  obtain⟨b,o,hA,_⟩:=hA (by simp);cases hA
 subst hn
 have hm:m=0:=by
  rcases YF m with h|h
  · exact h
  have:=Nat.mul_pos h ai;simp at hl;omega
 subst hm;have ah:=zEt (P:=P) w base t o.type e i size ht hi v n xs aa c;unfold Oper.wp execOp;simp only[ho,resolve,invoke,builtin,YG,Yv,Yw,Xd,ZV,Yr,hs,hx,ah];exact h v w (by simpa using aa) (Below.refl _ _) (World.grownBy.refl w _)
theorem zAe {ops:Array Oper} {rest:List Oper} {o:Oper} {a:Act} {Q:Exit→Act→World→Prop} (w:World) (ao:o.guard=none) (s x:Operand) (t:TypeId)
 (ho:o.op=.call { callee:=.builtin .append,args := #[s,x],argTypes := #[t,t] })
 (base:Nat) (e:TypeId) (i:TypeInfo) (z:Value) (size bytes:Nat) (ht:P.underlying t=some (.slice e)) (hi:P.info? e=some i) (hz:i.zero=some z)
 (ae:i.size=size) (ah:i.bytes=bytes) (ai:z.cells.size=size) (aj:0<size)
 (v:Value) (n:Nat) (xs:List Value) (hs:a.eval s=v) (ag:w.ownsRow base e size v n xs)
 (B:Nat) (A:Option Addr) (m c:Nat) (news:List Value) (hx:a.eval x=.slice A m c) (hl:news.length=m*size) (hA:Sl w B A news) (h1:∀u∈news,u.oneCell'=true)
 (ak:n+m≤maxLen) (aa:(n+m)*bytes≤140737488355328) (af:base≤w.heap.size)
 (h:∀v' w',w'.ownsRow base e size v' (n+m) (xs++news)→Below base w w'→w.grownBy w' v.ownBlock→wpList P ops Q rest (a.put o.dst v') w') :
 wpList P ops Q (o::rest) a w :=
 Q4 ao fun _ hK=>zFM w s x t ho base e i z size bytes ht hi hz ae ah ai aj v n xs hs ag B A m c news hx hl hA h1 ak aa af fun v' w' h2 h3 h4=>hK _ _ (h v' w' h2 h3 h4)
theorem zGj {ops:Array Oper} {o:Oper} {a:Act} {K:Act→World→Prop} {Q:Exit→Act→World→Prop} {E:Prop} (w:World) (ao:o.guard=none) (s x:Operand) (t:TypeId)
 (ho:o.op=.call { callee:=.builtin .append,args := #[s,x],argTypes := #[t,t] })
 (base:Nat) (e:TypeId) (i:TypeInfo) (z:Value) (size bytes:Nat) (ht:P.underlying t=some (.slice e)) (hi:P.info? e=some i) (hz:i.zero=some z)
 (ae:i.size=size) (ah:i.bytes=bytes) (ai:z.cells.size=size) (aj:0<size)
 (v:Value) (n:Nat) (xs:List Value) (hs:a.eval s=v) (ag:w.ownsRow base e size v n xs)
 (B:Nat) (A:Option Addr) (m c:Nat) (news:List Value) (hx:a.eval x=.slice A m c) (hl:news.length=m*size) (hA:Sl w B A news) (h1:∀u∈news,u.oneCell'=true)
 (ak:n+m≤maxLen) (aa:(n+m)*bytes≤140737488355328) (af:base≤w.heap.size)
 (h:∀v' w',w'.ownsRow base e size v' (n+m) (xs++news)→Below base w w'→w.grownBy w' v.ownBlock→K (a.put o.dst v') w') :
 if Region.wanted o (yielded ops a.tmps)=true then Oper.wp P o a w K Q else E:=by
 have hw:Region.wanted o (yielded ops a.tmps)=true:=by simp[Region.wanted,ao]
 rw[Zm hw];exact zFM w s x t ho base e i z size bytes ht hi hz ae ah ai aj v n xs hs ag B A m c news hx hl hA h1 ak aa af h
end
theorem zF8 (k:IntKind) (l:List Int):∀u∈l.map (Value.int k),u.oneCell'=true:=ints_oneCell k l
end
def Pg.last (L:List (Int × Int)) (c:Int):Int:=L.foldl (fun a x=>if x.1=c then x.2 else a) 0
def zA9 (f:Int→Int) (n:Nat):List Int:=(List.range 256).map fun i:Nat=>f (256*(n:Int)+(i:Int))
def zAj:List Int:=List.replicate 256 0
def Pg.add (bl:List (List Int)) (b:List Int):List (List Int):=if b∈bl then bl else bl++[b]
def zAm (f:Int→Int):Nat→List (List Int)
 | 0=>[zAj]
 | m+1=>Pg.add (zAm f m) (zA9 f m)
def Pg.at (bl:List (List Int)) (b:List Int):Nat:=bl.idxOf b
theorem zBj (f:Int→Int) (n:Nat):(zA9 f n).length=256:=by unfold zA9;simp
theorem zGN (f:Int→Int) (n:Nat) {i:Nat} (hi:i<256):(zA9 f n)[i]?=some (f (256*(n:Int)+(i:Int))):=by
 unfold zA9;rw[Zo,XU hi];rfl
theorem zF9 {bl:List (List Int)} {b x:List Int}:x∈Pg.add bl b↔x∈bl∨x=b:=by
 unfold Pg.add;split
 · rename_i h;constructor
   · exact Or.inl
   rintro (h'|rfl)
   · exact h'
   exact h
 simp
theorem zLI {bl:List (List Int)} {b x:List Int} (h:x∈bl):Pg.at (Pg.add bl b) x=Pg.at bl x:=by
 unfold Pg.add Pg.at;split
 · rfl
 rw[JX,Zm h]
theorem zDB (f:Int→Int):∀(m:Nat) (x:List Int),x∈zAm f m↔x=zAj∨∃n,n<m∧x=zA9 f n
 | 0,x=>by simp[zAm]
 | m+1,x=>by
   rw[zAm,zF9,zDB f m x];constructor
   · rintro ((h|⟨n,hn,h⟩)|h)
     · exact .inl h
     · exact .inr ⟨n,by omega,h⟩
     exact .inr ⟨m,by omega,h⟩
   rintro (h|⟨n,hn,h⟩)
   · exact .inl (.inl h)
   by_cases hm:n=m
   · subst hm;exact .inr h
   exact .inl (.inr ⟨n,by omega,h⟩)
theorem zE0 (f:Int→Int) (m:Nat):∀b∈zAm f m,b.length=256:=by
 intro b hb;rcases (zDB f m b).1 hb with rfl|⟨n,_,rfl⟩
 · unfold zAj;exact List.length_replicate
 exact zBj f n
theorem zGO (f:Int→Int):∀m,(zAm f m).length≤m+1
 | 0=>by simp[zAm]
 | m+1=>by
   have:=zGO f m;rw[zAm];unfold Pg.add;split
   · omega
   simp;omega
def Pg.idx (f:Int→Int) (m:Nat):List Int:=(List.range m).map fun n=>(Pg.at (zAm f m) (zA9 f n):Int)
theorem zCe (f:Int→Int) (m:Nat):(Pg.idx f m).length=m:=by unfold Pg.idx;simp
theorem zOX (f:Int→Int) (m:Nat) {n:Nat} (hn:n<m):(Pg.idx f m)[n]?=some (Pg.at (zAm f m) (zA9 f n):Int):=by
 unfold Pg.idx;rw[Zo,XU hn];rfl
theorem zOu {bl:List (List Int)} {b:List Int} (h:b∈bl):Pg.at bl b<bl.length:=QD h
theorem zQ7 {bl:List (List Int)} {b:List Int} (h:b∈bl):bl[Pg.at bl b]?=some b:=by
 unfold Pg.at;rw[Zb (QD h),List.getElem_idxOf]
theorem zN5 (f:Int→Int) (m:Nat):Pg.idx f (m+1)=Pg.idx f m++[(Pg.at (zAm f (m+1)) (zA9 f m):Int)]:=by
 unfold Pg.idx;rw[List.range_succ,ZL];congr 1;refine YU fun n hn=>?_
 have hn:=List.mem_range.1 hn;rw[zAm,zLI ((zDB f m _).2 (.inr ⟨n,hn,rfl⟩))]
theorem zIq:∀(bl:List (List Int)) (k i:Nat) (b:List Int),(∀b∈bl,b.length=256)→bl[k]?=some b→i<256→bl.flatten[k*256+i]?=b[i]?
 | [],k,i,b,_,h,_=>by simp at h
 | x::l,0,i,b,hl,h,hi=>by
   simp at h;subst h;rw[Xo,JU,Z1,ZS (by rw[hl x (by simp)];exact hi)]
 | x::l,k+1,i,b,hl,h,hi=>by
   simp at h;have hx:=hl x (by simp);rw[Xo,ZH (by rw[hx];omega),hx];rw[show (k+1)*256+i-256=k*256+i by omega];exact zIq l k i b (fun b hb=>hl b (by simp[hb])) h hi
theorem zFN:∀(bl:List (List Int)),(∀b∈bl,b.length=256)→bl.flatten.length=bl.length*256
 | [],_=>rfl
 | x::l,h=>by
   rw[Xo,Zd,h x (by simp),zFN l (fun b hb=>h b (by simp[hb])),ZB];omega
theorem zIr (f:Int→Int):∀m,(zAm f m)[0]?=some zAj
 | 0=>rfl
 | m+1=>by
   have:=zIr f m;rw[zAm];unfold Pg.add;split
   · exact this
   rw[ZS (List.getElem?_eq_some_iff.1 this).1];exact this
def Pg.fl:List (Int × Int)→List Value
 | []=>[]
 | r::l=>.int .i32 r.1::.int .u16 r.2::Pg.fl l
theorem Pg.fl_app:∀(a b:List (Int × Int)),Pg.fl (a++b)=Pg.fl a++Pg.fl b
 | [],b=>rfl
 | r::a,b=>by simp[Pg.fl,Pg.fl_app a b]
theorem Pg.fl_len:∀(a:List (Int × Int)),(Pg.fl a).length=a.length*2
 | []=>rfl
 | r::a=>by simp[Pg.fl,Pg.fl_len a];omega
theorem Pg.fl_get:∀(a:List (Int × Int)) (i:Nat) (r:Int × Int),a[i]?=some r→(Pg.fl a)[i*2]?=some (.int .i32 r.1)∧(Pg.fl a)[i*2+1]?=some (.int .u16 r.2)
 | [],i,r,h=>by simp at h
 | q::a,0,r,h=>by simp at h;subst h;exact⟨rfl,rfl⟩
 | q::a,i+1,r,h=>by
   have:=Pg.fl_get a i r (by simpa using h);rw[show (i+1)*2=i*2+2 by omega,show i*2+2+1=i*2+1+2 by omega];exact this
def zCy (r:Rw.Row):Bool:=decide (0<r.2.1)||decide (0<r.2.2.length)
def Ud.keep (R:List Rw.Row):List Rw.Row:=R.filter zCy
def zAC (R:List Rw.Row):List Rw.Row:=R.filter fun r=>decide (0<r.2.2.length)
def Ud.full (T:List Rw.Row) (c:Int):List Int:=(Md.full T c).getD []
def Ud.cl (R:List Rw.Row):List (Int × Int):=(Ud.keep R).map fun r=>(r.1,r.2.1)
def zBk:Nat→List Rw.Row→List (Int × Int)
 | _,[]=>[]
 | k,r::l=>(r.1,(k:Int)+1)::zBk (k+1) l
def zGP (R:List Rw.Row):List (Int × Int):=zBk 0 (zAC R)
def Ud.inn (T R:List Rw.Row):List Int:=(zAC R).flatMap fun r=>(Ud.full T r.1).drop 1
def zQ8 (R:List Rw.Row):List Int:=(zAC R).map (·.1)
def zJP (T:List Rw.Row) (X:Int→Bool) (R:List Rw.Row):List Rw.Row:=(zAC R).filter fun r=>zAo T X r.1
def Ud.sec (T:List Rw.Row) (X:Int→Bool) (R:List Rw.Row):List Int:=(zJP T X R).map fun r=>r.2.2.getD 1 0
def zOv (T R:List Rw.Row) (c:Int):List Int:=((zAC R).filter fun r=>decide ((Ud.full T r.1).headD 0=c)).map (·.1)
def zCc (T:List Rw.Row) (X:Int→Bool) (R:List Rw.Row) (a b:Int):Option Int:=(zJP T X R).foldl (fun o r=>if r.2.2.getD 0 0=a∧r.2.2.getD 1 0=b then some r.1 else o) none
theorem zOY (l:List Rw.Row) (r:Rw.Row):∀k,zBk k (l++[r])=zBk k l++[(r.1,((k+l.length:Nat):Int)+1)]:=by
 induction l with
 | nil=>intro k;simp[zBk]
 | cons q l ih =>
   intro k;rw[Zx];unfold zBk;rw[ih (k+1),Zx];congr 3;simp;omega
theorem zN6 {T R:List Rw.Row} {X:Int→Bool} {r:Rw.Row} (h:zCy r=false):Ud.keep (R++[r])=Ud.keep R∧zAC (R++[r])=zAC R:=by
 have h2:¬0<r.2.2.length:=by
  unfold zCy at h;simp only[XL,ZX]at h;exact h.2
 constructor
 · unfold Ud.keep;rw[Yk,Yt,Zk (by rw[h];simp),List.filter_nil,Z3]
 unfold zAC;rw[List.filter_append,List.filter_cons,if_neg (by simpa using h2),List.filter_nil,List.append_nil]
theorem zN7 {R:List Rw.Row} {r:Rw.Row} (h:zCy r=true):Ud.keep (R++[r])=Ud.keep R++[r]:=by
 unfold Ud.keep;simp[Yk,h]
theorem Ud.add_plain {R:List Rw.Row} {r:Rw.Row} (h:r.2.2=[]):zAC (R++[r])=zAC R:=by
 unfold zAC;simp[Yk,h]
theorem zOZ {R:List Rw.Row} {r:Rw.Row} (h:0<r.2.2.length):zAC (R++[r])=zAC R++[r]:=by
 unfold zAC;rw[Yk,Yt,Zm (Zp h)];rfl
theorem zGQ (c:Int):∀(L:List (Int × Int)) (a:Int),(L.Pairwise fun x y=>x.1≠y.1)→L.foldl (fun a x=>if x.1=c then x.2 else a) a=((L.find? fun x=>decide (x.1=c)).map (·.2)).getD a
 | [],a,_=>rfl
 | x::L,a,h=>by
   rw[Xy]at h;rw[YD,Jd,zGQ c L _ h.2]
   by_cases hx:x.1=c
   · rw[Zm hx,Zp hx]
     have:(L.find? fun x=>decide (x.1=c))=none:=by
      rw[JK];intro y hy;have:=h.1 y hy;simp only[Zn];omega
     rw[this];rfl
   rw[Zk hx,Zq hx]
theorem zKD {T:List Rw.Row} (h:Md.rises T):Md.rises (Ud.keep T):=Jg JC h
theorem zN8 {T:List Rw.Row} (h:Md.rises T):Md.rises (zAC T):=Jg JC h
theorem zCV {T:List Rw.Row} {r:Rw.Row}:r∈zAC T↔r∈T∧0<r.2.2.length:=by unfold zAC;rw[List.mem_filter,decide_eq_true_eq]
theorem zFO {T:List Rw.Row} {r:Rw.Row}:r∈Ud.keep T↔r∈T∧zCy r=true:=by unfold Ud.keep;rw[List.mem_filter]
theorem zN9 {T:List Rw.Row} (h:Md.rises T) (h0:∀r∈T,0≤r.2.1) (c:Int):Pg.last (Ud.cl T) c=Md.cls T c:=by
 have hp:(Ud.cl T).Pairwise fun x y=>x.1≠y.1:=by
  unfold Ud.cl;rw[List.pairwise_map];exact (zKD h).imp fun ae=>by omega
 unfold Pg.last;rw[zGQ c _ _ hp];cases hf:(Ud.cl T).find? fun x=>decide (x.1=c) with
 | some x =>
   have h1:=XT hf;have h2:=Je hf;simp only[Zn]at h2;unfold Ud.cl at h1;obtain⟨r,hr,rfl⟩:=List.mem_map.1 h1;have aa:=(zFO.1 hr).1;unfold Md.cls;rw[←h2,zBG h aa];rfl
 | none =>
   have hn:=List.find?_eq_none.1 hf;unfold Md.cls;cases hm:Md.find T c with
   | none=>rfl
   | some r =>
     obtain⟨h1,h2⟩:=zAq hm
     have hs:zCy r=false:=by
      cases hs:zCy r with
      | false=>rfl
      | true =>
        have:=hn (r.1,r.2.1) (List.mem_map.2 ⟨r,zFO.2 ⟨h1,hs⟩,rfl⟩);simp only[Zn]at this;exact absurd h2 this
     unfold zCy at hs;simp only[XL,ZX]at hs;have:=h0 r h1;simp;omega
theorem zFa:∀(l:List Rw.Row) (k i:Nat),(zBk k l)[i]?=(l[i]?).map fun r=>(r.1,((k+i:Nat):Int)+1)
 | [],k,i=>by simp[zBk]
 | r::l,k,i=>by
   unfold zBk;cases i with
   | zero=>simp
   | succ i =>
     rw[YN,YN,zFa l (k+1) i];rw[show k+1+i=k+(i+1) by omega]
theorem zJQ {T:List Rw.Row} (h:Md.rises T):(zGP T).Pairwise fun x y=>x.1≠y.1:=by
 rw[QL];intro i j hi hj hij;have e1:=Zb hi;have e2:=Zb hj;unfold zGP at e1 e2;rw[zFa]at e1 e2;cases hr:(zAC T)[i]? with
 | none=>rw[hr]at e1;cases e1
 | some r =>
   cases hq:(zAC T)[j]? with
   | none=>rw[hq]at e2;cases e2
   | some q =>
     rw[hr,Zz,Zg]at e1;rw[hq,Zz,Zg]at e2;have:=zDc (zN8 h) hr hq hij;unfold zGP;rw[←e1,←e2];simp only;omega
theorem zNa {T:List Rw.Row} (h:Md.rises T) {i:Nat} {r:Rw.Row} (hr:(zAC T)[i]?=some r):Pg.last (zGP T) r.1=(i:Int)+1:=by
 unfold Pg.last;rw[zGQ _ _ _ (zJQ h)]
 have hi:(zGP T)[i]?=some (r.1,(i:Int)+1):=by
  unfold zGP;rw[zFa,hr,Zz,Z1]
 have hf:((zGP T).find? fun x=>decide (x.1=r.1))=some (r.1,(i:Int)+1):=by
  cases hf:(zGP T).find? fun x=>decide (x.1=r.1) with
  | none =>
    have:=List.find?_eq_none.1 hf _ (Zj hi);simp at this
  | some x =>
    have h1:=XT hf;have h2:=Je hf;simp only[Zn]at h2;obtain⟨j,hj⟩:=List.mem_iff_getElem?.1 h1
    have hij:i=j:=by
     obtain⟨a1,b1⟩:=List.getElem?_eq_some_iff.1 hi;obtain⟨a2,b2⟩:=List.getElem?_eq_some_iff.1 hj;have hp:=List.pairwise_iff_getElem.1 (zJQ h);rcases XI i j with hl|hl|hl
     · have:=hp i j a1 a2 hl;rw[b1,b2]at this;exact absurd h2.symm this
     · exact hl
     have:=hp j i a2 a1 hl;rw[b1,b2]at this;exact absurd h2 this
    rw[←hij,hi]at hj;exact hj.symm
 rw[hf];rfl
theorem zNb {T:List Rw.Row} {c:Int} (h:∀r∈zAC T,r.1≠c):Pg.last (zGP T) c=0:=by
 have:∀(l:List Rw.Row) (k:Nat),(∀r∈l,r.1≠c)→(zBk k l).foldl (fun (a:Int) x=>if x.1=c then x.2 else a) 0=0:=by
  intro l
  induction l with
  | nil=>intro k _;rfl
  | cons r l ih =>
    intro k hl;unfold zBk;rw[YD,Zk (hl r Zu)];exact ih (k+1) fun q hq=>hl q (Zy _ hq)
 exact this _ 0 h
theorem zP0 {T:List Rw.Row} (h:Md.rises T) (c:Int):(∃(i:Nat) (r:Rw.Row),(zAC T)[i]?=some r∧r.1=c∧Md.find T c=some r∧0<r.2.2.length)∨((∀r∈zAC T,r.1≠c)∧zAV T c=[]):=by
 cases hf:Md.find T c with
 | none =>
   refine .inr ⟨fun r hr e=>?_,by unfold zAV;rw[hf];rfl⟩;have:=zBG h (zCV.1 hr).1;rw[e,hf]at this;cases this
 | some r =>
   obtain⟨h1,h2⟩:=zAq hf
   by_cases hl:0<r.2.2.length
   · obtain⟨i,hi⟩:=List.mem_iff_getElem?.1 (zCV.2 ⟨h1,hl⟩);exact .inl ⟨i,r,hi,h2,rfl,hl⟩
   refine .inr ⟨fun q hq e=>?_,?_⟩
   · obtain⟨g1,g2⟩:=zCV.1 hq;have:=zBG h g1;rw[e,hf]at this;cases this
     exact hl g2
   unfold zAV;rw[hf];have:r.2.2=[]:=ZG (by omega);simpa using this
theorem zNc {T:List Rw.Row} (hg:∀r∈T,Md.good r) {a:Int} (h:zA2 a=4∨zA2 a=5):Md.full T a=some (zA6 a):=by
 unfold Md.full zA6;rcases h with h4|h5
 · have hs:=zAt a (.inl h4)
   have hm:Md.mp T a=[4352+(a-44032)/588,4449+(a-44032)%588/28]:=by
    unfold Md.mp;rw[zAO a h4];simp
   have hl:zA2 (4352+(a-44032)/588)=1:=by unfold zA2;grind
   have hv:zA2 (4449+(a-44032)%588/28)=2:=by unfold zA2;grind
   rw[Zm h4,zBx _ _ _ _ (by simp),show T.length+3=(T.length+2)+1 from rfl,zGi _ _ hm (zBA hg (by omega)) (zBA hg (by omega))];rfl
 have hs:=zAt a (.inr h5)
 have hm:Md.mp T a=[a-(a-44032)%28,4519+(a-44032)%28]:=by
  unfold Md.mp;rw[zAW a h5];simp
 have aa:Md.mp T (a-(a-44032)%28)=[4352+(a-44032)/588,4449+(a-44032)%588/28]:=by
  unfold Md.mp;rw[zIj a hs.1 hs.2];simp
 have ae:(a-44032)%28≠0:=fun e=>by rw[zCT a hs.1 hs.2 e]at h5;omega
 have hl:zA2 (4352+(a-44032)/588)=1:=by unfold zA2;grind
 have hv:zA2 (4449+(a-44032)%588/28)=2:=by unfold zA2;grind
 have ht:zA2 (4519+(a-44032)%28)=3:=by unfold zA2;grind
 rw[Zk (by omega),Zm h5,zBx _ _ _ _ (by simp),show T.length+3=(T.length+2)+1 from rfl]
 have e1:Md.lv (Md.mp T) (T.length+2+1) a=some [4352+(a-44032)/588,4449+(a-44032)%588/28,4519+(a-44032)%28]:=by
  unfold Md.lv;rw[Zk (by rw[hm];simp),hm];simp[zAp,zBr _ (T.length+2) (zBA hg (.inr (.inr ht))),show T.length+2=(T.length+1)+1 from rfl,zGi _ (T.length+1) aa (zBA hg (.inl hl)) (zBA hg (.inr (.inl hv)))]
 rw[e1];rfl
theorem zCr (c:Int):(zAh c).2.2=decide (4≤zA2 c):=by
 by_cases h4:zA2 c=4
 · rw[zAO c h4,h4];rfl
 by_cases h5:zA2 c=5
 · rw[zAW c h5,h5];rfl
 rw[zBM c h4 h5];have:¬4≤zA2 c:=by unfold zA2 at *;grind
 rw[Zq this]
theorem zFb (c:Int):0≤zA2 c∧zA2 c≤5:=by unfold zA2;grind
theorem zP1 {T:List Rw.Row} {c:Int} (hr:zAV T c=[]) (hk:zA2 c<4):Md.mp T c=[]∧Md.full T c=some [c]:=by
 have hm:Md.mp T c=[]:=by
  unfold Md.mp;rw[zCr,Zq (by omega)];simpa using hr
 exact⟨hm,zEA _ hm⟩
theorem zIs {T:List Rw.Row} {X:Int→Bool} {r:Rw.Row} (hg:Md.good r) (hr:Md.rises T) (hm:r∈T) (hp:zAo T X r.1=true):∃a b,r.2.2=[a,b]:=by
 unfold zAo at hp;rw[zCr,hg.2.2.2.2.1,zBG hr hm]at hp;simp only[show ¬((4:Int)≤0) by decide,decide_false,Y5,Zz,J2]at hp;unfold zAc at hp;simp only[Zw,Zn]at hp;have h2:=hp.2.1
 match h:r.2.2,h2 with
 | [a,b],_=>exact⟨a,b,rfl⟩
section
open Go.RowKit
def Slt (w:World) (t:TypeId) (A:Option Addr) (xs:List Value):Prop :=
 0<xs.length→∃b o cs,A=some ⟨b,o,none⟩∧w.heap[b]?=some (.cells cs t (0,0))∧∀i,i<xs.length→cs[o+i]?=xs[i]?
theorem Slt.nil (w:World) (t:TypeId) (A:Option Addr):Slt w t A []:=fun h=>absurd h (by simp)
theorem Slt.sl {w:World} {t:TypeId} {A:Option Addr} {xs:List Value} (h:Slt w t A xs):Sl w w.heap.size A xs:=by
 intro hx;obtain⟨b,o,cs,hA,hb,hc⟩:=h hx;exact⟨b,o,hA,zDt hb,fun i hi=>by rw[←hc i hi];simp[World.cell?,hb]⟩
theorem Slt.frozen {w:World} {t:TypeId} {b o:Nat} {xs:List Value} (h:Slt w t (some ⟨b,o,none⟩) xs) (hx:0<xs.length) (i:Nat):w.frozen? ⟨b,i,none⟩=false:=by
 obtain⟨b',o',cs,hA,hb,_⟩:=h hx;simp only[Zg,YZ]at hA;obtain⟨rfl,rfl,_⟩:=hA;simp[World.frozen?,hb]
theorem Slt.grown {w w':World} {t:TypeId} {A:Option Addr} {xs:List Value} {row:Option Nat} (h:Slt w t A xs) (hg:w.grownBy w' row) (hr:∀k,row=some k→∀cs z,w.heap[k]?≠some (.cells cs t z)):Slt w' t A xs:=by
 intro hx;obtain⟨b,o,cs,hA,hb,hc⟩:=h hx;exact⟨b,o,cs,hA,(hg.block b (zDt hb) fun e=>hr b e.symm cs (0,0) hb).trans hb,hc⟩
theorem Slt.below {w w':World} {t:TypeId} {A:Option Addr} {xs:List Value} (h:Slt w t A xs) (hb:Below w.heap.size w w'):Slt w' t A xs:=by
 intro hx;obtain⟨b,o,cs,hA,hh,hc⟩:=h hx;exact⟨b,o,cs,hA,(hb.block b (zDt hh)).trans hh,hc⟩
theorem Slt.of_own {w:World} {base:Nat} {e:TypeId} {size n c:Nat} {A:Option Addr} {xs:List Value} (h:w.ownsRow base e size (.slice A n c) n xs):Slt w e A xs:=by
 intro hx;obtain⟨hl,h⟩:=h;rcases h with ⟨hv,hn⟩|⟨g,cap,ae,hv,_,hg,_,_,_,aa⟩
 · subst hn;simp at hl;rw[hl]at hx;simp at hx
 simp only[ZZ]at hv;obtain⟨hA,_,_⟩:=hv;refine⟨g,0,ae,hA,hg,fun i hi=>?_⟩;rw[←aa];simp[Yp,←hl,hi]
def Rw.fl:List Rw.Row→List (Option Addr × Nat)→List Value
 | r::rs,a::ads=>.int .i32 r.1::.int .i64 r.2.1::.slice a.1 r.2.2.length a.2::Rw.fl rs ads
 | _,_=>[]
theorem Rw.fl_len:∀(rs:List Rw.Row) (ads:List (Option Addr × Nat)),ads.length=rs.length→(Rw.fl rs ads).length=rs.length*3
 | [],_,_=>by simp[Rw.fl]
 | r::rs,[],h=>by simp at h
 | r::rs,a::ads,h=>by simp[Rw.fl,Rw.fl_len rs ads (by simpa using h)];omega
theorem Rw.fl_app:∀(rs:List Rw.Row) (ads:List (Option Addr × Nat)) (r:Rw.Row) (a:Option Addr × Nat),ads.length=rs.length →
 Rw.fl (rs++[r]) (ads++[a])=Rw.fl rs ads++[.int .i32 r.1,.int .i64 r.2.1,.slice a.1 r.2.2.length a.2]
 | [],[],r,a,_=>rfl
 | [],_::_,_,_,h=>by simp at h
 | q::rs,[],r,a,h=>by simp at h
 | q::rs,b::ads,r,a,h=>by
   simp only[Zx,Rw.fl];rw[Rw.fl_app rs ads r a (by simpa using h)]
def Rw.Maps (w:World) (rs:List Rw.Row) (ads:List (Option Addr × Nat)):Prop:=∀(i:Nat) (r:Rw.Row) (a:Option Addr × Nat),rs[i]?=some r→ads[i]?=some a→Slt w 21 a.1 (r.2.2.map (Value.int .i32))
theorem Rw.Maps.app {w:World} {rs:List Rw.Row} {ads:List (Option Addr × Nat)} (h:Rw.Maps w rs ads) (hl:ads.length=rs.length) {r:Rw.Row} {a:Option Addr × Nat} (hr:Slt w 21 a.1 (r.2.2.map (Value.int .i32))):Rw.Maps w (rs++[r]) (ads++[a]):=by
 intro i q x hq hx;rcases Z0 i rs.length with hi|hi
 · rw[ZS hi]at hq;rw[ZS (by omega)]at hx;exact h i q x hq hx
 rw[ZH hi]at hq;rw[ZH (by omega)]at hx;obtain⟨j,hj⟩:∃j,i-rs.length=j:=⟨_,rfl⟩;rw[hl,hj]at hx;rw[hj]at hq;rcases j with _|j
 · simp at hq hx;subst hq hx;exact hr
 simp at hq
theorem Rw.Maps.below {w w':World} {rs:List Rw.Row} {ads:List (Option Addr × Nat)} (h:Rw.Maps w rs ads) (hb:Below w.heap.size w w'):Rw.Maps w' rs ads:=fun i r a h1 h2=>(h i r a h1 h2).below hb
theorem Rw.Maps.grown {w w':World} {rs:List Rw.Row} {ads:List (Option Addr × Nat)} {row:Option Nat} (h:Rw.Maps w rs ads) (hg:w.grownBy w' row) (hr:∀k,row=some k→∀cs z,w.heap[k]?≠some (.cells cs 21 z)):Rw.Maps w' rs ads :=
 fun i r a h1 h2=>(h i r a h1 h2).grown hg hr
theorem zAf {b:Nat} {w w':World} {row:Option Nat} (hg:w.grownBy w' row) (hb:b≤w.heap.size) (hr:∀k,row=some k→b≤k):Below b w w':=(Zc b w).grown hg hb hr
theorem zAB {w:World} {base:Nat} {e t':TypeId} {size n:Nat} {v:Value} {xs:List Value} (h:w.ownsRow base e size v n xs) (hne:e≠t'):∀k,v.ownBlock=some k→∀cs' z,w.heap[k]?≠some (.cells cs' t' z):=by
 intro k hk cs' z e';rcases h.2 with ⟨rfl,_⟩|⟨g,cap,aa,rfl,_,hg,_⟩
 · simp[Value.ownBlock]at hk
 simp only[Value.ownBlock,Zg]at hk;subst hk;have:=hg.symm.trans e';simp only[Zg,XE]at this;exact hne this.2.1
theorem zP2 {w:World} {base:Nat} {e:TypeId} {size n:Nat} {v:Value} {xs:List Value} (h:w.ownsRow base e size v n xs):v.oneCell'=true:=by
 obtain⟨A,c,rfl⟩:=zA3 h;rfl
theorem zBl {w:World} {base:Nat} {e:TypeId} {size n:Nat} {v:Value} {xs:List Value} (h:w.ownsRow base e size v n xs) (g:Nat) (hg:g<base):v.ownBlock≠some g:=fun hk=>by have:=(h.lt _ hk).1;omega
theorem zA8 {w w':World} {base:Nat} {e:TypeId} {size n b:Nat} {v:Value} {xs:List Value} (h:w.ownsRow base e size v n xs) (hb:b<base) (hg:w.grownBy w' (some b)):w'.ownsRow base e size v n xs :=
 h.kept hg (by
  rcases h.2 with ⟨rfl,_⟩|⟨g,cap,aa,rfl,ae,_⟩
  · exact .inl rfl
  refine .inr fun e'=>?_
  simp only[Value.ownBlock,Zg]at e';omega)
theorem Rw.fl_get:∀(rs:List Rw.Row) (ads:List (Option Addr × Nat)) (i:Nat) (r:Rw.Row) (a:Option Addr × Nat),rs[i]?=some r→ads[i]?=some a →
 (Rw.fl rs ads)[i*3]?=some (.int .i32 r.1)∧(Rw.fl rs ads)[i*3+1]?=some (.int .i64 r.2.1)∧(Rw.fl rs ads)[i*3+2]?=some (.slice a.1 r.2.2.length a.2)
 | [],_,i,_,_,h,_=>by simp at h
 | _::_,[],i,_,_,_,h=>by simp at h
 | q::rs,b::ads,0,r,a,h,h'=>by simp at h h';subst h h';exact⟨rfl,rfl,rfl⟩
 | q::rs,b::ads,i+1,r,a,h,h'=>by
   have:=Rw.fl_get rs ads i r a (by simpa using h) (by simpa using h');rw[show (i+1)*3=i*3+1+1+1 by omega];exact this
def Rw.Tab (w:World) (A:Option Addr) (rs:List Rw.Row):Prop:=∃ads,ads.length=rs.length∧Slt w 155 A (Rw.fl rs ads)∧Rw.Maps w rs ads
def zBm:List Rw.Row→List (Option Addr × Nat)→List Value
 | r::rs,a::ads=>.int .i64 r.1::.int .i64 r.2.1::.slice a.1 r.2.2.length a.2::zBm rs ads
 | _,_=>[]
theorem zCG:∀(rs:List Rw.Row) (ads:List (Option Addr × Nat)),ads.length=rs.length→(zBm rs ads).length=rs.length*3
 | [],_,_=>by simp[zBm]
 | r::rs,[],h=>by simp at h
 | r::rs,a::ads,h=>by simp[zBm,zCG rs ads (by simpa using h)];omega
theorem zFc:∀(rs:List Rw.Row) (ads:List (Option Addr × Nat)) (i:Nat) (r:Rw.Row) (a:Option Addr × Nat),rs[i]?=some r→ads[i]?=some a →
 (zBm rs ads)[i*3]?=some (.int .i64 r.1)∧(zBm rs ads)[i*3+1]?=some (.int .i64 r.2.1)∧(zBm rs ads)[i*3+2]?=some (.slice a.1 r.2.2.length a.2)
 | [],_,i,_,_,h,_=>by simp at h
 | _::_,[],i,_,_,_,h=>by simp at h
 | q::rs,b::ads,0,r,a,h,h'=>by simp at h h';subst h h';exact⟨rfl,rfl,rfl⟩
 | q::rs,b::ads,i+1,r,a,h,h'=>by
   have:=zFc rs ads i r a (by simpa using h) (by simpa using h');rw[show (i+1)*3=i*3+1+1+1 by omega];exact this
def Rw.Sees (w:World) (A:Option Addr) (rs:List Rw.Row):Prop:=∃ads:List (Option Addr × Nat),ads.length=rs.length∧Sl w w.heap.size A (Rw.fl rs ads) ∧
 ∀(i:Nat) (r:Rw.Row) (a:Option Addr × Nat),rs[i]?=some r→ads[i]?=some a→Sl w w.heap.size a.1 (r.2.2.map (Value.int .i32))
def Rw.SeesI (w:World) (A:Option Addr) (rs:List Rw.Row):Prop:=∃ads:List (Option Addr × Nat),ads.length=rs.length∧Sl w w.heap.size A (zBm rs ads) ∧
 ∀(i:Nat) (r:Rw.Row) (a:Option Addr × Nat),rs[i]?=some r→ads[i]?=some a→Sl w w.heap.size a.1 (r.2.2.map (Value.int .i64))
theorem Rw.Tab.sees {w:World} {A:Option Addr} {rs:List Rw.Row} (h:Rw.Tab w A rs):Rw.Sees w A rs:=by
 obtain⟨ads,hl,hs,hm⟩:=h;exact⟨ads,hl,hs.sl,fun i r a h1 h2=>(hm i r a h1 h2).sl⟩
theorem Rw.Sees.below {w w':World} {A:Option Addr} {rs:List Rw.Row} (h:Rw.Sees w A rs) (hb:Below w.heap.size w w'):Rw.Sees w' A rs:=by
 obtain⟨ads,hl,hs,hm⟩:=h;exact⟨ads,hl,hs.below hb hb.size,fun i r a h1 h2=>(hm i r a h1 h2).below hb hb.size⟩
theorem Rw.SeesI.below {w w':World} {A:Option Addr} {rs:List Rw.Row} (h:Rw.SeesI w A rs) (hb:Below w.heap.size w w'):Rw.SeesI w' A rs:=by
 obtain⟨ads,hl,hs,hm⟩:=h;exact⟨ads,hl,hs.below hb hb.size,fun i r a h1 h2=>(hm i r a h1 h2).below hb hb.size⟩
theorem Rw.Sees.row {w:World} {A:Option Addr} {rs:List Rw.Row} (h:Rw.Sees w A rs) {i:Nat} {r:Rw.Row} (hr:rs[i]?=some r) :
 ∃(b o:Nat) (a:Option Addr × Nat),A=some ⟨b,o,none⟩∧b<w.heap.size∧w.cell? ⟨b,o+i*3,none⟩=some (.int .i32 r.1)∧w.cell? ⟨b,o+i*3+1,none⟩=some (.int .i64 r.2.1)∧w.cell? ⟨b,o+i*3+2,none⟩=some (.slice a.1 r.2.2.length a.2) ∧
  Sl w w.heap.size a.1 (r.2.2.map (Value.int .i32)):=by
 obtain⟨ads,hl,hs,hm⟩:=h;have hi:=(List.getElem?_eq_some_iff.1 hr).1;obtain⟨a,ha⟩:∃a,ads[i]?=some a:=⟨_,Zb (by omega)⟩;obtain⟨b,o,rfl,hb,hc⟩:=hs (by rw[Rw.fl_len _ _ hl];omega);obtain⟨g0,g1,g2⟩:=Rw.fl_get rs ads i r a hr ha;have hlen:=Rw.fl_len rs ads hl;refine⟨b,o,a,rfl,hb,?_,?_,?_,hm i r a hr ha⟩
 · rw[hc _ (by omega),g0]
 · rw[Yn,hc _ (by omega),g1]
 rw[Yn,hc _ (by omega),g2]
theorem Rw.SeesI.row {w:World} {A:Option Addr} {rs:List Rw.Row} (h:Rw.SeesI w A rs) {i:Nat} {r:Rw.Row} (hr:rs[i]?=some r) :
 ∃(b o:Nat) (a:Option Addr × Nat),A=some ⟨b,o,none⟩∧b<w.heap.size∧w.cell? ⟨b,o+i*3,none⟩=some (.int .i64 r.1)∧w.cell? ⟨b,o+i*3+1,none⟩=some (.int .i64 r.2.1)∧w.cell? ⟨b,o+i*3+2,none⟩=some (.slice a.1 r.2.2.length a.2) ∧
  Sl w w.heap.size a.1 (r.2.2.map (Value.int .i64)):=by
 obtain⟨ads,hl,hs,hm⟩:=h;have hi:=(List.getElem?_eq_some_iff.1 hr).1;obtain⟨a,ha⟩:∃a,ads[i]?=some a:=⟨_,Zb (by omega)⟩;obtain⟨b,o,rfl,hb,hc⟩:=hs (by rw[zCG _ _ hl];omega);obtain⟨g0,g1,g2⟩:=zFc rs ads i r a hr ha;have hlen:=zCG rs ads hl;refine⟨b,o,a,rfl,hb,?_,?_,?_,hm i r a hr ha⟩
 · rw[hc _ (by omega),g0]
 · rw[Yn,hc _ (by omega),g1]
 rw[Yn,hc _ (by omega),g2]
theorem zJR (c d:Int) (u v:Value) (w:World) (h1 : -2147483648≤c) (h2:c≤2147483647) (h3 : -2147483648≤d) (h4:d≤2147483647) :
 Calls prog 193 #[.agg #[.int .i32 c,u,v],.int .i32 d] w fun e w'=>e=.returned (.int .i64 (c-d))∧Below w.heap.size w w':=by
 have e1:IntKind.i64.wrap c=c:=by rw[Z4];omega
 have e2:IntKind.i64.wrap d=d:=by rw[Z4];omega
 have e3:IntKind.i64.wrap (c-d)=c-d:=by rw[Z4];omega
 have hb:Below w.heap.size w (w.alloc (.cells #[.int .i32 c,u,v] 155)):=(Zc _ _).alloc (Za _) _;have HB:=hy' hb;clear hb;go_enter func193,ntmps193;go_wp2_with fail;go_ret;exact⟨rfl,HB.o⟩
def zOw (T:List Rw.Row) (d:Int) (i:Nat) (is:Bool):Prop:=(is=true→∃r,T[i]?=some r∧Md.find T d=some r)∧(is=false→Md.find T d=none)
def zQ9 (T:List Rw.Row) (d:Int) (w:World) (e:Ending) (w':World):Prop:=∃(i:Nat) (is:Bool),e=.returned (.tuple #[.int .i64 i,.bool is])∧zOw T d i is∧Below w.heap.size w w'
theorem Md.search_any (A:Option Addr) (n c:Nat) (T:List Rw.Row) (d:Int) (w:World) (hn:T.length=n) (au:n≤1000000) (hr:Md.rises T) (hbd:Md.bd T) (h3 : -2147483648≤d) (h4:d≤2147483647) (hA:Rw.Sees w A T) :
 Calls prog 192 #[.slice A n c,.int .i32 d,.func (.func 193) #[] #[]] w
  (zQ9 T d w):=by
 have HN:=hy' hn;have HR:=hy' hr;have HD:=hy' hbd;have HA:=hy' hA;clear hn hr hbd hA;go_enter func192,ntmps192;go_wp2_with fail;go_loopw [9,10] (fun vi vj wr=>∃i j:Nat,i≤j∧j≤n∧vi=.int .i64 i∧vj=.int .i64 j∧(∀t r,t<i→T[t]?=some r→r.1<d)∧(∀t r,j≤t→T[t]?=some r→d≤r.1)∧Below w.heap.size w wr) (fun vi vj _=>(intOf vj).toNat-(intOf vi).toNat)
 case atStart=>exact⟨0,n,by omega,Za _,rfl,rfl,fun t r ht=>by omega,fun t r ht hx=>by have:=(List.getElem?_eq_some_iff.1 hx).1;have:=HN.o;omega,Zc _ _⟩
 obtain⟨i,j,hij,ar,rfl,rfl,ak,ao,aa⟩:=hrel;have aj:=hy' ak;have ap:=hy' ao;have HB:=hy' aa;clear ak ao
 by_cases hlt:(i:Int)<j
 · obtain⟨x,hx⟩:∃x,T[(i+j)/2]?=some x:=⟨_,Zb (by rw[HN.o];omega)⟩;obtain⟨b,o,a,ai,hb,c0,c1,c2,_⟩:=(HA.o.below aa).row hx;have ah:=(HD.o x (Zj hx)).1;have hc:=zJR x.1 d (.int .i64 x.2.1) (.slice a.1 x.2.2.length a.2) wr ah.1 ah.2 h3 h4;have HX:=hy' hx;have m0:(0:Int)≤(((i+j)/2:Nat):Int):=by omega
   have m1:(((i+j)/2:Nat):Int)<n:=by omega
   subst ai;clear aa hx;go_wp2_with fail;refine hc.mono ?_;rintro e w1 ⟨rfl,af⟩;have hz:=HB.o.size;have ae:=hy' (HB.o.trans (af.mono hz));have aq:i<j:=by omega
   clear af hc c0 c1 c2 hlt
   by_cases hd:x.1-d<0
   · go_wp2_with fail;refine⟨⟨(i+j)/2+1,j,by omega,ar,by go_num,rfl,fun t r ht hx=>?_,ap.o,ae.o⟩,by simp[intOf];omega⟩
     by_cases he:t=(i+j)/2
     · rw[he,HX.o]at hx;cases hx
       omega
     have:=zDc HR.o hx HX.o (by omega);omega
   go_wp2_with fail;refine⟨⟨i,(i+j)/2,by omega,by omega,rfl,by go_num,aj.o,fun t r ht hx=>?_,ae.o⟩,by simp[intOf];omega⟩
   by_cases he:t=(i+j)/2
   · rw[he,HX.o]at hx;cases hx
     omega
   have:=zDc HR.o HX.o hx (by omega);omega
 obtain rfl:i=j:=by omega
 have hcut:=zN2 HR.o d i aj.o ap.o
 by_cases hin:(i:Int)<n
 · obtain⟨x,hx⟩:∃x,T[i]?=some x:=⟨_,Zb (by rw[HN.o];omega)⟩;obtain⟨b,o,a,ai,hb,c0,c1,c2,_⟩:=(HA.o.below aa).row hx;have ah:=(HD.o x (Zj hx)).1;have hc:=zJR x.1 d (.int .i64 x.2.1) (.slice a.1 x.2.2.length a.2) wr ah.1 ah.2 h3 h4;have HX:=hy' hx;rw[hx,ZC]at hcut;have ag:=hy' hcut;have m0:(0:Int)≤(i:Int):=by omega
   subst ai;clear aa hx hcut hlt;go_wp2_with fail;refine hc.mono ?_;rintro e w1 ⟨rfl,af⟩;have ae:=hy' (HB.o.trans (af.mono HB.o.size));clear af hc c0 c1 c2;rcases hz:(x.1-d == 0) with _|_
   · have hne:¬x.1=d:=fun e=>by simp[e]at hz
     have HH:Hy (zOw T d i false):=hy' ⟨fun e=>Bool.noConfusion e,fun _=>by rw[ag.o,Zk hne]⟩;clear hne;go_wp2_with fail;go_ret2;exact⟨i,false,rfl,HH.o,ae.o⟩
   have he:x.1=d:=by have:=beq_iff_eq.1 hz;omega
   have HH:Hy (zOw T d i true):=hy' ⟨fun _=>⟨x,HX.o,by rw[ag.o,Zm he]⟩,fun e=>Bool.noConfusion e⟩;clear he;go_wp2_with fail;go_ret2;exact⟨i,true,rfl,HH.o,ae.o⟩
 rw[Ys (by rw[HN.o];omega),Option.bind_none]at hcut;have HH:Hy (zOw T d i false):=hy' ⟨fun e=>Bool.noConfusion e,fun _=>hcut⟩;clear aa hcut hlt;go_wp2_with fail;go_ret2;exact⟨i,false,rfl,HH.o,HB.o⟩
def Rw.At (w:World) (b:Nat) (t:TypeId) (cs:List Value):Prop:=w.heap[b]?=some (.cells cs.toArray t (0,0))
theorem Rw.At.lt {w:World} {b:Nat} {t:TypeId} {cs:List Value} (h:Rw.At w b t cs):b<w.heap.size:=zDt h
theorem Rw.At.cell {w:World} {b:Nat} {t:TypeId} {cs:List Value} (h:Rw.At w b t cs) (i:Nat) {v:Value} (hv:cs[i]?=some v):w.cell? ⟨b,i,none⟩=some v:=by
 unfold Rw.At at h;simp[World.cell?,h,hv]
theorem Rw.At.frozen {w:World} {b:Nat} {t:TypeId} {cs:List Value} (h:Rw.At w b t cs) (i:Nat):w.frozen? ⟨b,i,none⟩=false:=by
 unfold Rw.At at h;simp[World.frozen?,h]
theorem Rw.At.set {w:World} {b:Nat} {t:TypeId} {cs:List Value} (h:Rw.At w b t cs) (i:Nat) (v:Value):Rw.At (w.setCell ⟨b,i,none⟩ v) b t (cs.set i v):=by
 obtain⟨aa,hk⟩:=Array.getElem?_eq_some_iff.1 h;show (w.heap.modify b _)[b]?=_;rw[Xn (by rw[QO];exact aa),QM,hk];simp
theorem Rw.At.grown {w w':World} {b:Nat} {t:TypeId} {cs:List Value} {row:Option Nat} (h:Rw.At w b t cs) (hg:w.grownBy w' row) (hr:row≠some b):Rw.At w' b t cs :=
 (hg.block b h.lt fun e=>hr e.symm).trans h
theorem Rw.At.below {w w':World} {b:Nat} {t:TypeId} {cs:List Value} (h:Rw.At w b t cs) (hb:Below w.heap.size w w'):Rw.At w' b t cs:=(hb.block b h.lt).trans h
theorem Rw.At.new (w:World) (t:TypeId) (cs:List Value):Rw.At (w.alloc (.cells cs.toArray t)) w.heap.size t cs:=World.alloc_heap_new w _
theorem Rw.grown_below {w w':World} (h:Below w.heap.size w w'):w.grownBy w' none:=⟨h.os,h.tape,h.output,h.size,fun k hk _=>h.block k hk⟩
theorem Rw.At.three {w:World} {b:Nat} {t:TypeId} {u v x:Value} (h:Rw.At w b t [u,v,x]) :
 w.cell? ⟨b,0,none⟩=some u∧w.cell? ⟨b,1,none⟩=some v∧w.cell? ⟨b,2,none⟩=some x∧w.frozen? ⟨b,0,none⟩=false∧w.frozen? ⟨b,1,none⟩=false∧w.frozen? ⟨b,2,none⟩=false :=
 ⟨h.cell 0 rfl,h.cell 1 rfl,h.cell 2 rfl,h.frozen 0,h.frozen 1,h.frozen 2⟩
theorem Rw.At.below' {w w':World} {b B:Nat} {t:TypeId} {cs:List Value} (h:Rw.At w b t cs) (hb:Below B w w') (hB:b<B):Rw.At w' b t cs:=(hb.block b hB).trans h
theorem Rw.At.other {w:World} {b b' i:Nat} {t:TypeId} {cs:List Value} (h:Rw.At w b t cs) (hne:b≠b') (v:Value):Rw.At (w.setCell ⟨b',i,none⟩ v) b t cs :=
 (Yq _ _ _ b hne).trans h
theorem Rw.At.alloc {w:World} {b:Nat} {t:TypeId} {cs:List Value} (h:Rw.At w b t cs) (o:Obj):Rw.At (w.alloc o) b t cs:=(QU _ _ _ h.lt).trans h
theorem Slt.setAt {w:World} {t t':TypeId} {A:Option Addr} {xs cs:List Value} {b:Nat} (h:Slt w t A xs) (k:Rw.At w b t' cs) (hne:t'≠t) (i:Nat) (v:Value):Slt (w.setCell ⟨b,i,none⟩ v) t A xs:=by
 intro hx;obtain⟨g,o,cs',hA,hb,hc⟩:=h hx;refine⟨g,o,cs',hA,(Yq _ _ _ g fun e=>?_).trans hb,hc⟩;have e:g=b:=e;subst e;have:=k.symm.trans hb;simp only[Zg,XE]at this;exact hne this.2.1
theorem zE1 {P:Program} {fn:Func} {p u:Tmp} {ty:TypeId} (h:fn.results = #[.cell p ty,.tmp u]) (tmps:Array Value) (w:World) (g:Nat) (t:TypeId) (cs:Array Value) (fr:Nat × Nat) (d:TypeDesc)
 (hp:tmps.getD p undef=.pointer (some ⟨g,0,none⟩)) (hg:w.heap[g]?=some (.cells cs t fr))
 (hu:P.underlying ty=some d) (hd:(match d with | .struct _ | .array _ _=>true|_=>false)=true) (hi:(P.info? ty).map (·.size)=some cs.size) :
 (results fn tmps).run P w=.ok (.tuple #[.agg cs,tmps.getD u undef]) w:=by
 have aa:tmps[p]?.getD undef=.pointer (some ⟨g,0,none⟩):=by simpa using hp
 simp[results,h,aa,asAddr,X5 w g t ty cs fr d hg hu hd hi]
theorem Rw.grown_set {w:World} (b i:Nat) (v:Value):w.grownBy (w.setCell ⟨b,i,none⟩ v) (some b) :=
 ⟨rfl,rfl,rfl,(by show w.heap.size≤(w.heap.modify b _).size;rw[QO];exact Za _),fun k _ hk=>Yq _ _ _ k (fun e=>hk (by rw[show k=b from e]))⟩
theorem zA0 {w w' w'':World} {row:Option Nat} (h:w.grownBy w' row) (h':w'.grownBy w'' row):w.grownBy w'' row :=
 ⟨h'.os.trans h.os,h'.tape.trans h.tape,h'.output.trans h.output,Zh h.size h'.size,fun k hk hne=>(h'.block k (Zf hk h.size) hne).trans (h.block k hk hne)⟩
theorem zDg {w w':World} {row:Option Nat} (h:Below w.heap.size w w'):w.grownBy w' row:=⟨h.os,h.tape,h.output,h.size,fun k hk _=>h.block k hk⟩
theorem zLJ {w w':World} {row:Option Nat} (h:w.grownBy w' none):w.grownBy w' row:=⟨h.os,h.tape,h.output,h.size,fun k hk _=>h.block k hk (by simp)⟩
theorem Rw.At.not {w:World} {b:Nat} {t t':TypeId} {cs:List Value} (h:Rw.At w b t cs) (hne:t≠t'):∀cs' z,w.heap[b]?≠some (.cells cs' t' z):=fun cs' z e=>by
 have:=h.symm.trans e;simp only[Zg,XE]at this;exact hne this.2.1
def zAX (A:Option Addr) (n c:Nat) (XA:Option Addr) (xn xc:Nat):Value:=.agg #[.slice A n c,.slice XA xn xc]
def zHU (r:Rw.Row) (a:Option Addr × Nat):Value:=.agg #[.int .i32 r.1,.int .i64 r.2.1,.slice a.1 r.2.2.length a.2]
def Md.rowOf (T:List Rw.Row) (d:Int):Rw.Row:=(Md.find T d).getD (0,0,[])
theorem zQa (T:List Rw.Row) (d:Int):Md.cls T d=(Md.rowOf T d).2.1:=by
 unfold Md.cls Md.rowOf;cases Md.find T d <;> rfl
theorem zQb (T:List Rw.Row) (d:Int):zAV T d=(Md.rowOf T d).2.2:=by
 unfold zAV Md.rowOf;cases Md.find T d <;> rfl
def Md.RetFind (T:List Rw.Row) (d:Int) (w:World) (e:Ending) (w':World):Prop :=
 ∃a:Option Addr × Nat,e=.returned (.tuple #[zHU (Md.rowOf T d) a,.bool (Md.find T d).isSome])∧Sl w' w'.heap.size a.1 ((Md.rowOf T d).2.2.map (Value.int .i32))∧Below w.heap.size w w'
theorem Md.find_any (A:Option Addr) (n c:Nat) (XA:Option Addr) (xn xc:Nat) (T:List Rw.Row) (d:Int) (w:World) (hn:T.length=n) (a6:n≤1000000) (hr:Md.rises T) (hbd:Md.bd T) (h3 : -2147483648≤d) (h4:d≤2147483647) (hA:Rw.Sees w A T) :
 Calls prog 160 #[zAX A n c XA xn xc,.int .i32 d] w (Md.RetFind T d w):=by
 obtain⟨wa,aj⟩:∃wa,(w.alloc (.cells #[.slice A n c,.slice XA xn xc] 87)).alloc (.cells #[.int .i32 0,.int .i64 0,.slice none 0 0] 155)=wa:=⟨_,rfl⟩;have au:Below w.heap.size w wa:=by rw[←aj];exact ((Zc _ _).alloc (Za _) _).alloc (by simp) _
 have ag:Rw.At wa w.heap.size 87 [.slice A n c,.slice XA xn xc]:=by rw[←aj];exact (Rw.At.new w 87 [.slice A n c,.slice XA xn xc]).alloc _
 have ah:Rw.At wa (w.heap.size+1) 155 [.int .i32 0,.int .i64 0,.slice none 0 0]:=by
  have h:=Rw.At.new (w.alloc (.cells #[.slice A n c,.slice XA xn xc] 87)) 155 [.int .i32 0,.int .i64 0,.slice none 0 0];rw[ZJ]at h;rw[←aj];exact h
 have a7:w.heap.size+1<wa.heap.size:=ah.lt;have hS:=Md.search_any A n c T d wa hn a6 hr hbd h3 h4 (hA.below au);have a8:=hy' aj;have HN:=hy' hn;have HA:=hy' hA;have ay:=hy' au;have z0:=ag.cell 0 rfl;clear aj au hA hr hbd hn;unfold zAX;go_enter func160,ntmps160;go_upto_region 1 with (fail)
 rw[a8.o];go_wp2_with fail;refine hS.mono ?_;rintro e w1 ⟨i,is,rfl,ai,ar⟩;have av:=ag.below ar;have aa:=ah.below ar;have z2:=av.cell 0 rfl;obtain⟨m1,m2,m3,m4,m5,m6⟩:=aa.three;have ba:w.heap.size+1<w1.heap.size:=aa.lt;have ae:=hy' (ay.o.trans (ar.mono ay.o.size));have ao:=hy' ai;clear ar ai hS z0 ag ah a7;have aq:=hy' aa;clear aa;cases is
 · have hf:=ao.o.2 rfl;have hro:Md.rowOf T d=(0,0,[]):=by unfold Md.rowOf;rw[hf];rfl
   have HF:=hy' hf;have ak:=hy' hro;clear hf hro;go_wp2_with fail;have af:=((aq.o.set 0 (.int .i32 0)).set 1 (.int .i64 0)).set 2 (.slice none 0 0);refine YH (zE1 rfl _ _ (w.heap.size+1) _ _ _ _ rfl af underlying155 rfl (by kernel_rfl)) rfl ⟨(none,0),?_,?_,?_⟩
   · rw[ak.o,HF.o];rfl
   · rw[ak.o];exact Sl.nil _ _ _
   exact ((ae.o.setCell (p:=⟨w.heap.size+1,0,none⟩) (by simp) _).setCell (p:=⟨w.heap.size+1,1,none⟩) (by simp) _).setCell (p:=⟨w.heap.size+1,2,none⟩) (by simp) _
 obtain⟨r,hr,hf⟩:=ao.o.1 rfl;obtain⟨b,o,a,a1,hb,ax,az,aw,ap⟩:=HA.o.row hr;have c0:=((zAQ ae.o).1 b (o+i*3) hb).trans ax;have c1:=((zAQ ae.o).1 b (o+i*3+1) hb).trans az;have c2:=((zAQ ae.o).1 b (o+i*3+2) hb).trans aw;have bb:b<w1.heap.size:=Zf hb ae.o.size;have m0:(0:Int)≤(i:Int):=by omega
 have m7:(i:Int)<n:=by have:=(List.getElem?_eq_some_iff.1 hr).1;have:=HN.o;omega
 have hro:Md.rowOf T d=r:=by unfold Md.rowOf;rw[hf];rfl
 have HF:=hy' hf;have ak:=hy' hro;have HM:=hy' ap;subst a1;clear hr hf hro ap ax az aw;go_wp2_with fail;have af:=((aq.o.set 0 (.int .i32 r.1)).set 1 (.int .i64 r.2.1)).set 2 (.slice a.1 r.2.2.length a.2);refine YH (zE1 rfl _ _ (w.heap.size+1) _ _ _ _ rfl af underlying155 rfl (by kernel_rfl)) rfl ⟨a,?_,?_,?_⟩
 · rw[ak.o,HF.o];rfl
 · rw[ak.o];exact HM.o.below (((ae.o.setCell (p:=⟨w.heap.size+1,0,none⟩) (by simp) _).setCell (p:=⟨w.heap.size+1,1,none⟩) (by simp) _).setCell (p:=⟨w.heap.size+1,2,none⟩) (by simp) _) (by simpa using ae.o.size)
 exact ((ae.o.setCell (p:=⟨w.heap.size+1,0,none⟩) (by simp) _).setCell (p:=⟨w.heap.size+1,1,none⟩) (by simp) _).setCell (p:=⟨w.heap.size+1,2,none⟩) (by simp) _
end
end Go.Proofs.YtjakbblocbicjaaGreatDoor
