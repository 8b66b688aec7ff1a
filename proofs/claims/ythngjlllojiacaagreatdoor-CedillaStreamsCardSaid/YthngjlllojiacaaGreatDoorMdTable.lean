/- An append of a whole slice onto a row of the call's own, whatever the size of an element. -/
import Derived.Test.YthngjlllojiacaaGreatDoorLib3
import Derived.RangeFuncRecord
import Derived.Deep.DeepCutAuto
set_option maxRecDepth 100000
set_option maxHeartbeats 2000000
set_option linter.unusedVariables false
set_option linter.unusedSimpArgs false
namespace Go.Proofs.YthngjlllojiacaaGreatDoor
open Go.Proofs.Tryz
section
open Go.RowKit
section
variable {P:Program}
theorem zEm (w:World) (base:Nat) (t ty e:TypeId) (i:TypeInfo) (size:Nat) (ht:P.underlying t=some (.slice e)) (hi:P.info? e=some i)
 (v:Value) (n:Nat) (xs:List Value) (aa:w.ownsRow base e size v n xs) (c:Nat):(Builtin.append_ #[t,t] ty #[v,.slice none 0 c]).run P w=.ok v w:=by
 rcases aa.2 with ⟨rfl,rfl⟩|⟨g,cap,af,rfl,_,_,ae,_⟩
 · simp[Builtin.append_,Y6 ht,sizeOf,typeInfo,hi,Builtin.lenOf,Builtin.firstCells]
 simp[Builtin.append_,Y6 ht,sizeOf,typeInfo,hi,Builtin.lenOf,Builtin.firstCells,ae,storeCells]
theorem zFD {o:Oper} {a:Act} {K:Act→World→Prop} {Q:Exit→Act→World→Prop} (w:World) (s x:Operand) (t:TypeId)
 (ho:o.op=.call { callee:=.builtin .append,args := #[s,x],argTypes := #[t,t] })
 (base:Nat) (e:TypeId) (i:TypeInfo) (z:Value) (size bytes:Nat) (ht:P.underlying t=some (.slice e)) (hi:P.info? e=some i) (hz:i.zero=some z)
 (ag:i.size=size) (aj:i.bytes=bytes) (ao:z.cells.size=size) (ai:0<size)
 (v:Value) (n:Nat) (xs:List Value) (hs:a.eval s=v) (aa:w.ownsRow base e size v n xs)
 (B:Nat) (A:Option Addr) (m c:Nat) (news:List Value) (hx:a.eval x=.slice A m c) (hl:news.length=m*size) (hA:Sl w B A news) (h1:∀u∈news,u.oneCell'=true)
 (ak:n+m≤maxLen) (af:(n+m)*bytes≤140737488355328) (ae:base≤w.heap.size)
 (h:∀v' w',w'.ownsRow base e size v' (n+m) (xs++news)→Below base w w'→w.grownBy w' v.ownBlock→K (a.put o.dst v') w') :
 o.wp P a w K Q:=by
 rcases A with _|ad
 rotate_left
 · refine wp_append_own (P:=P) w s x t ho base e i z size bytes ht hi hz ag aj ao ai v n xs hs aa ad m c news hx hl ?_ h1 ak af ae ?_
   · intro j q hq;have hj:j<news.length:=(List.getElem?_eq_some_iff.1 hq).1;obtain⟨b,o,hA,_,hc⟩:=hA (by omega);simp only[Zg]at hA;subst hA;rw[Addr.add_lit,hc j hj,hq]
   intro v' w' h2 h3 _;refine h v' w' h2 ?_ h3;refine (Zc _ _).grown h3 ae ?_;intro k hk;exact (aa.lt k hk).1
 have hn:news=[]:=by
  rcases news with _|⟨u,r⟩
  · rfl
  obtain⟨b,o,hA,_⟩:=hA (by simp);cases hA
 subst hn
 have hm:m=0:=by
  rcases YP m with h|h
  · exact h
  have:=Nat.mul_pos h ai;simp at hl;omega
 subst hm;have ah:=zEm (P:=P) w base t o.type e i size ht hi v n xs aa c;unfold Oper.wp execOp;simp only[ho,resolve,invoke,builtin,YE,Ys,Yt,Xc,ZX,Yq,hs,hx,ah];exact h v w (by simpa using aa) (Below.refl _ _) (World.grownBy.refl w _)
theorem zAd {ops:Array Oper} {rest:List Oper} {o:Oper} {a:Act} {Q:Exit→Act→World→Prop} (w:World) (ai:o.guard=none) (s x:Operand) (t:TypeId)
 (ho:o.op=.call { callee:=.builtin .append,args := #[s,x],argTypes := #[t,t] })
 (base:Nat) (e:TypeId) (i:TypeInfo) (z:Value) (size bytes:Nat) (ht:P.underlying t=some (.slice e)) (hi:P.info? e=some i) (hz:i.zero=some z)
 (af:i.size=size) (ah:i.bytes=bytes) (ao:z.cells.size=size) (ak:0<size)
 (v:Value) (n:Nat) (xs:List Value) (hs:a.eval s=v) (ag:w.ownsRow base e size v n xs)
 (B:Nat) (A:Option Addr) (m c:Nat) (news:List Value) (hx:a.eval x=.slice A m c) (hl:news.length=m*size) (hA:Sl w B A news) (h1:∀u∈news,u.oneCell'=true)
 (aj:n+m≤maxLen) (aa:(n+m)*bytes≤140737488355328) (ae:base≤w.heap.size)
 (h:∀v' w',w'.ownsRow base e size v' (n+m) (xs++news)→Below base w w'→w.grownBy w' v.ownBlock→wpList P ops Q rest (a.put o.dst v') w') :
 wpList P ops Q (o::rest) a w :=
 QY ai fun _ hK=>zFD w s x t ho base e i z size bytes ht hi hz af ah ao ak v n xs hs ag B A m c news hx hl hA h1 aj aa ae fun v' w' h2 h3 h4=>hK _ _ (h v' w' h2 h3 h4)
theorem zG8 {ops:Array Oper} {o:Oper} {a:Act} {K:Act→World→Prop} {Q:Exit→Act→World→Prop} {E:Prop} (w:World) (ai:o.guard=none) (s x:Operand) (t:TypeId)
 (ho:o.op=.call { callee:=.builtin .append,args := #[s,x],argTypes := #[t,t] })
 (base:Nat) (e:TypeId) (i:TypeInfo) (z:Value) (size bytes:Nat) (ht:P.underlying t=some (.slice e)) (hi:P.info? e=some i) (hz:i.zero=some z)
 (af:i.size=size) (ah:i.bytes=bytes) (ao:z.cells.size=size) (ak:0<size)
 (v:Value) (n:Nat) (xs:List Value) (hs:a.eval s=v) (ag:w.ownsRow base e size v n xs)
 (B:Nat) (A:Option Addr) (m c:Nat) (news:List Value) (hx:a.eval x=.slice A m c) (hl:news.length=m*size) (hA:Sl w B A news) (h1:∀u∈news,u.oneCell'=true)
 (aj:n+m≤maxLen) (aa:(n+m)*bytes≤140737488355328) (ae:base≤w.heap.size)
 (h:∀v' w',w'.ownsRow base e size v' (n+m) (xs++news)→Below base w w'→w.grownBy w' v.ownBlock→K (a.put o.dst v') w') :
 if Region.wanted o (yielded ops a.tmps)=true then Oper.wp P o a w K Q else E:=by
 have hw:Region.wanted o (yielded ops a.tmps)=true:=by simp[Region.wanted,ai]
 rw[Zl hw];exact zFD w s x t ho base e i z size bytes ht hi hz af ah ao ak v n xs hs ag B A m c news hx hl hA h1 aj aa ae h
end
theorem zF0 (k:IntKind) (l:List Int):∀u∈l.map (Value.int k),u.oneCell'=true:=ints_oneCell k l
end
def Pg.last (L:List (Int × Int)) (c:Int):Int:=L.foldl (fun a x=>if x.1=c then x.2 else a) 0
def zA9 (f:Int→Int) (n:Nat):List Int:=(List.range 256).map fun i:Nat=>f (256*(n:Int)+(i:Int))
def zAj:List Int:=List.replicate 256 0
def Pg.add (bl:List (List Int)) (b:List Int):List (List Int):=if b∈bl then bl else bl++[b]
def zAn (f:Int→Int):Nat→List (List Int)
 | 0=>[zAj]
 | m+1=>Pg.add (zAn f m) (zA9 f m)
def Pg.at (bl:List (List Int)) (b:List Int):Nat:=bl.idxOf b
theorem zBg (f:Int→Int) (n:Nat):(zA9 f n).length=256:=by unfold zA9;simp
theorem zGA (f:Int→Int) (n:Nat) {i:Nat} (hi:i<256):(zA9 f n)[i]?=some (f (256*(n:Int)+(i:Int))):=by
 unfold zA9;rw[Zw,XV hi];rfl
theorem zF1 {bl:List (List Int)} {b x:List Int}:x∈Pg.add bl b↔x∈bl∨x=b:=by
 unfold Pg.add;split
 · rename_i h;constructor
   · exact Or.inl
   rintro (h'|rfl)
   · exact h'
   exact h
 simp
theorem zLn {bl:List (List Int)} {b x:List Int} (h:x∈bl):Pg.at (Pg.add bl b) x=Pg.at bl x:=by
 unfold Pg.add Pg.at;split
 · rfl
 rw[JS,Zl h]
theorem zDA (f:Int→Int):∀(m:Nat) (x:List Int),x∈zAn f m↔x=zAj∨∃n,n<m∧x=zA9 f n
 | 0,x=>by simp[zAn]
 | m+1,x=>by
   rw[zAn,zF1,zDA f m x];constructor
   · rintro ((h|⟨n,hn,h⟩)|h)
     · exact .inl h
     · exact .inr ⟨n,by omega,h⟩
     exact .inr ⟨m,by omega,h⟩
   rintro (h|⟨n,hn,h⟩)
   · exact .inl (.inl h)
   by_cases hm:n=m
   · subst hm;exact .inr h
   exact .inl (.inr ⟨n,by omega,h⟩)
theorem zDZ (f:Int→Int) (m:Nat):∀b∈zAn f m,b.length=256:=by
 intro b hb;rcases (zDA f m b).1 hb with rfl|⟨n,_,rfl⟩
 · unfold zAj;exact List.length_replicate
 exact zBg f n
theorem zGB (f:Int→Int):∀m,(zAn f m).length≤m+1
 | 0=>by simp[zAn]
 | m+1=>by
   have:=zGB f m;rw[zAn];unfold Pg.add;split
   · omega
   simp;omega
def Pg.idx (f:Int→Int) (m:Nat):List Int:=(List.range m).map fun n=>(Pg.at (zAn f m) (zA9 f n):Int)
theorem zCe (f:Int→Int) (m:Nat):(Pg.idx f m).length=m:=by unfold Pg.idx;simp
theorem zOx (f:Int→Int) (m:Nat) {n:Nat} (hn:n<m):(Pg.idx f m)[n]?=some (Pg.at (zAn f m) (zA9 f n):Int):=by
 unfold Pg.idx;rw[Zw,XV hn];rfl
theorem zO1 {bl:List (List Int)} {b:List Int} (h:b∈bl):Pg.at bl b<bl.length:=Qx h
theorem zPM {bl:List (List Int)} {b:List Int} (h:b∈bl):bl[Pg.at bl b]?=some b:=by
 unfold Pg.at;rw[Zb (Qx h),List.getElem_idxOf]
theorem zMH (f:Int→Int) (m:Nat):Pg.idx f (m+1)=Pg.idx f m++[(Pg.at (zAn f (m+1)) (zA9 f m):Int)]:=by
 unfold Pg.idx;rw[List.range_succ,ZO];congr 1;refine YV fun n hn=>?_
 have hn:=List.mem_range.1 hn;rw[zAn,zLn ((zDA f m _).2 (.inr ⟨n,hn,rfl⟩))]
theorem zIb:∀(bl:List (List Int)) (k i:Nat) (b:List Int),(∀b∈bl,b.length=256)→bl[k]?=some b→i<256→bl.flatten[k*256+i]?=b[i]?
 | [],k,i,b,_,h,_=>by simp at h
 | x::l,0,i,b,hl,h,hi=>by
   simp at h;subst h;rw[Xo,JP,Z1,ZS (by rw[hl x (by simp)];exact hi)]
 | x::l,k+1,i,b,hl,h,hi=>by
   simp at h;have hx:=hl x (by simp);rw[Xo,ZJ (by rw[hx];omega),hx];rw[show (k+1)*256+i-256=k*256+i by omega];exact zIb l k i b (fun b hb=>hl b (by simp[hb])) h hi
theorem zFE:∀(bl:List (List Int)),(∀b∈bl,b.length=256)→bl.flatten.length=bl.length*256
 | [],_=>rfl
 | x::l,h=>by
   rw[Xo,Zd,h x (by simp),zFE l (fun b hb=>h b (by simp[hb])),ZF];omega
theorem zIc (f:Int→Int):∀m,(zAn f m)[0]?=some zAj
 | 0=>rfl
 | m+1=>by
   have:=zIc f m;rw[zAn];unfold Pg.add;split
   · exact this
   rw[ZS (List.getElem?_eq_some_iff.1 this).1];exact this
def Pg.fl:List (Int × Int)→List Value
 | []=>[]
 | r::l=>.int .i32 r.1::.int .u16 r.2::Pg.fl l
theorem Pg.fl_app:∀(a b:List (Int × Int)),Pg.fl (a++b)=Pg.fl a++Pg.fl b
 | [],b=>rfl
 | r::a,b=>by simp[Pg.fl,Pg.fl_app a b]
theorem Pg.fl_len:∀(a:List (Int × Int)),(Pg.fl a).length=a.length*2
 | []=>rfl
 | r::a=>by simp[Pg.fl,Pg.fl_len a];omega
theorem Pg.fl_get:∀(a:List (Int × Int)) (i:Nat) (r:Int × Int),a[i]?=some r→(Pg.fl a)[i*2]?=some (.int .i32 r.1)∧(Pg.fl a)[i*2+1]?=some (.int .u16 r.2)
 | [],i,r,h=>by simp at h
 | q::a,0,r,h=>by simp at h;subst h;exact⟨rfl,rfl⟩
 | q::a,i+1,r,h=>by
   have:=Pg.fl_get a i r (by simpa using h);rw[show (i+1)*2=i*2+2 by omega,show i*2+2+1=i*2+1+2 by omega];exact this
def zCy (r:Rw.Row):Bool:=decide (0<r.2.1)||decide (0<r.2.2.length)
def Ud.keep (R:List Rw.Row):List Rw.Row:=R.filter zCy
def zAB (R:List Rw.Row):List Rw.Row:=R.filter fun r=>decide (0<r.2.2.length)
def Ud.full (T:List Rw.Row) (c:Int):List Int:=(Md.full T c).getD []
def zLo (R:List Rw.Row):List (Int × Int):=(Ud.keep R).map fun r=>(r.1,r.2.1)
def zBh:Nat→List Rw.Row→List (Int × Int)
 | _,[]=>[]
 | k,r::l=>(r.1,(k:Int)+1)::zBh (k+1) l
def zGC (R:List Rw.Row):List (Int × Int):=zBh 0 (zAB R)
def Ud.inn (T R:List Rw.Row):List Int:=(zAB R).flatMap fun r=>(Ud.full T r.1).drop 1
def zPN (R:List Rw.Row):List Int:=(zAB R).map (·.1)
def zJv (T:List Rw.Row) (X:Int→Bool) (R:List Rw.Row):List Rw.Row:=(zAB R).filter fun r=>zAo T X r.1
def Ud.sec (T:List Rw.Row) (X:Int→Bool) (R:List Rw.Row):List Int:=(zJv T X R).map fun r=>r.2.2.getD 1 0
def zO2 (T R:List Rw.Row) (c:Int):List Int:=((zAB R).filter fun r=>decide ((Ud.full T r.1).headD 0=c)).map (·.1)
def zCb (T:List Rw.Row) (X:Int→Bool) (R:List Rw.Row) (a b:Int):Option Int:=(zJv T X R).foldl (fun o r=>if r.2.2.getD 0 0=a∧r.2.2.getD 1 0=b then some r.1 else o) none
theorem zOy (l:List Rw.Row) (r:Rw.Row):∀k,zBh k (l++[r])=zBh k l++[(r.1,((k+l.length:Nat):Int)+1)]:=by
 induction l with
 | nil=>intro k;simp[zBh]
 | cons q l ih =>
   intro k;rw[Zo];unfold zBh;rw[ih (k+1),Zo];congr 3;simp;omega
theorem zMI {T R:List Rw.Row} {X:Int→Bool} {r:Rw.Row} (h:zCy r=false):Ud.keep (R++[r])=Ud.keep R∧zAB (R++[r])=zAB R:=by
 have h2:¬0<r.2.2.length:=by
  unfold zCy at h;simp only[XN,ZY]at h;exact h.2
 constructor
 · unfold Ud.keep;rw[Yh,Yp,Zj (by rw[h];simp),List.filter_nil,Z3]
 unfold zAB;rw[List.filter_append,List.filter_cons,if_neg (by simpa using h2),List.filter_nil,List.append_nil]
theorem zMJ {R:List Rw.Row} {r:Rw.Row} (h:zCy r=true):Ud.keep (R++[r])=Ud.keep R++[r]:=by
 unfold Ud.keep;simp[Yh,h]
theorem Ud.add_plain {R:List Rw.Row} {r:Rw.Row} (h:r.2.2=[]):zAB (R++[r])=zAB R:=by
 unfold zAB;simp[Yh,h]
theorem zOz {R:List Rw.Row} {r:Rw.Row} (h:0<r.2.2.length):zAB (R++[r])=zAB R++[r]:=by
 unfold zAB;rw[Yh,Yp,Zl (Zu h)];rfl
theorem zGD (c:Int):∀(L:List (Int × Int)) (a:Int),(L.Pairwise fun x y=>x.1≠y.1)→L.foldl (fun a x=>if x.1=c then x.2 else a) a=((L.find? fun x=>decide (x.1=c)).map (·.2)).getD a
 | [],a,_=>rfl
 | x::L,a,h=>by
   rw[Xy]at h;rw[Yz,Q7,zGD c L _ h.2]
   by_cases hx:x.1=c
   · rw[Zl hx,Zu hx]
     have:(L.find? fun x=>decide (x.1=c))=none:=by
      rw[JG];intro y hy;have:=h.1 y hy;simp only[Zm];omega
     rw[this];rfl
   rw[Zj hx,Zt hx]
theorem zKf {T:List Rw.Row} (h:Md.rises T):Md.rises (Ud.keep T):=Jb Jy h
theorem zMK {T:List Rw.Row} (h:Md.rises T):Md.rises (zAB T):=Jb Jy h
theorem zCW {T:List Rw.Row} {r:Rw.Row}:r∈zAB T↔r∈T∧0<r.2.2.length:=by unfold zAB;rw[List.mem_filter,decide_eq_true_eq]
theorem zFF {T:List Rw.Row} {r:Rw.Row}:r∈Ud.keep T↔r∈T∧zCy r=true:=by unfold Ud.keep;rw[List.mem_filter]
theorem zML {T:List Rw.Row} (h:Md.rises T) (h0:∀r∈T,0≤r.2.1) (c:Int):Pg.last (zLo T) c=Md.cls T c:=by
 have hp:(zLo T).Pairwise fun x y=>x.1≠y.1:=by
  unfold zLo;rw[List.pairwise_map];exact (zKf h).imp fun ae=>by omega
 unfold Pg.last;rw[zGD c _ _ hp];cases hf:(zLo T).find? fun x=>decide (x.1=c) with
 | some x =>
   have h1:=XU hf;have h2:=Q8 hf;simp only[Zm]at h2;unfold zLo at h1;obtain⟨r,hr,rfl⟩:=List.mem_map.1 h1;have aa:=(zFF.1 hr).1;unfold Md.cls;rw[←h2,zBE h aa];rfl
 | none =>
   have hn:=List.find?_eq_none.1 hf;unfold Md.cls;cases hm:Md.find T c with
   | none=>rfl
   | some r =>
     obtain⟨h1,h2⟩:=zAq hm
     have hs:zCy r=false:=by
      cases hs:zCy r with
      | false=>rfl
      | true =>
        have:=hn (r.1,r.2.1) (List.mem_map.2 ⟨r,zFF.2 ⟨h1,hs⟩,rfl⟩);simp only[Zm]at this;exact absurd h2 this
     unfold zCy at hs;simp only[XN,ZY]at hs;have:=h0 r h1;simp;omega
theorem zF2:∀(l:List Rw.Row) (k i:Nat),(zBh k l)[i]?=(l[i]?).map fun r=>(r.1,((k+i:Nat):Int)+1)
 | [],k,i=>by simp[zBh]
 | r::l,k,i=>by
   unfold zBh;cases i with
   | zero=>simp
   | succ i =>
     rw[YM,YM,zF2 l (k+1) i];rw[show k+1+i=k+(i+1) by omega]
theorem zJw {T:List Rw.Row} (h:Md.rises T):(zGC T).Pairwise fun x y=>x.1≠y.1:=by
 rw[QF];intro i j hi hj hij;have e1:=Zb hi;have e2:=Zb hj;unfold zGC at e1 e2;rw[zF2]at e1 e2;cases hr:(zAB T)[i]? with
 | none=>rw[hr]at e1;cases e1
 | some r =>
   cases hq:(zAB T)[j]? with
   | none=>rw[hq]at e2;cases e2
   | some q =>
     rw[hr,Zx,Zg]at e1;rw[hq,Zx,Zg]at e2;have:=zDd (zMK h) hr hq hij;unfold zGC;rw[←e1,←e2];simp only;omega
theorem zMM {T:List Rw.Row} (h:Md.rises T) {i:Nat} {r:Rw.Row} (hr:(zAB T)[i]?=some r):Pg.last (zGC T) r.1=(i:Int)+1:=by
 unfold Pg.last;rw[zGD _ _ _ (zJw h)]
 have hi:(zGC T)[i]?=some (r.1,(i:Int)+1):=by
  unfold zGC;rw[zF2,hr,Zx,Z1]
 have hf:((zGC T).find? fun x=>decide (x.1=r.1))=some (r.1,(i:Int)+1):=by
  cases hf:(zGC T).find? fun x=>decide (x.1=r.1) with
  | none =>
    have:=List.find?_eq_none.1 hf _ (Zk hi);simp at this
  | some x =>
    have h1:=XU hf;have h2:=Q8 hf;simp only[Zm]at h2;obtain⟨j,hj⟩:=List.mem_iff_getElem?.1 h1
    have hij:i=j:=by
     obtain⟨a1,b1⟩:=List.getElem?_eq_some_iff.1 hi;obtain⟨a2,b2⟩:=List.getElem?_eq_some_iff.1 hj;have hp:=List.pairwise_iff_getElem.1 (zJw h);rcases XJ i j with hl|hl|hl
     · have:=hp i j a1 a2 hl;rw[b1,b2]at this;exact absurd h2.symm this
     · exact hl
     have:=hp j i a2 a1 hl;rw[b1,b2]at this;exact absurd h2 this
    rw[←hij,hi]at hj;exact hj.symm
 rw[hf];rfl
theorem zMN {T:List Rw.Row} {c:Int} (h:∀r∈zAB T,r.1≠c):Pg.last (zGC T) c=0:=by
 have:∀(l:List Rw.Row) (k:Nat),(∀r∈l,r.1≠c)→(zBh k l).foldl (fun (a:Int) x=>if x.1=c then x.2 else a) 0=0:=by
  intro l
  induction l with
  | nil=>intro k _;rfl
  | cons r l ih =>
    intro k hl;unfold zBh;rw[Yz,Zj (hl r Zq)];exact ih (k+1) fun q hq=>hl q (Zv _ hq)
 exact this _ 0 h
theorem zOA {T:List Rw.Row} (h:Md.rises T) (c:Int):(∃(i:Nat) (r:Rw.Row),(zAB T)[i]?=some r∧r.1=c∧Md.find T c=some r∧0<r.2.2.length)∨((∀r∈zAB T,r.1≠c)∧zAS T c=[]):=by
 cases hf:Md.find T c with
 | none =>
   refine .inr ⟨fun r hr e=>?_,by unfold zAS;rw[hf];rfl⟩;have:=zBE h (zCW.1 hr).1;rw[e,hf]at this;cases this
 | some r =>
   obtain⟨h1,h2⟩:=zAq hf
   by_cases hl:0<r.2.2.length
   · obtain⟨i,hi⟩:=List.mem_iff_getElem?.1 (zCW.2 ⟨h1,hl⟩);exact .inl ⟨i,r,hi,h2,rfl,hl⟩
   refine .inr ⟨fun q hq e=>?_,?_⟩
   · obtain⟨g1,g2⟩:=zCW.1 hq;have:=zBE h g1;rw[e,hf]at this;cases this
     exact hl g2
   unfold zAS;rw[hf];have:r.2.2=[]:=ZD (by omega);simpa using this
theorem zMO {T:List Rw.Row} (hg:∀r∈T,Md.good r) {a:Int} (h:zA2 a=4∨zA2 a=5):Md.full T a=some (zA6 a):=by
 unfold Md.full zA6;rcases h with h4|h5
 · have hs:=zAt a (.inl h4)
   have hm:Md.mp T a=[4352+(a-44032)/588,4449+(a-44032)%588/28]:=by
    unfold Md.mp;rw[zAN a h4];simp
   have hl:zA2 (4352+(a-44032)/588)=1:=by unfold zA2;grind
   have hv:zA2 (4449+(a-44032)%588/28)=2:=by unfold zA2;grind
   rw[Zl h4,zBv _ _ _ _ (by simp),show T.length+3=(T.length+2)+1 from rfl,zG7 _ _ hm (zBy hg (by omega)) (zBy hg (by omega))];rfl
 have hs:=zAt a (.inr h5)
 have hm:Md.mp T a=[a-(a-44032)%28,4519+(a-44032)%28]:=by
  unfold Md.mp;rw[zAT a h5];simp
 have aa:Md.mp T (a-(a-44032)%28)=[4352+(a-44032)/588,4449+(a-44032)%588/28]:=by
  unfold Md.mp;rw[zI4 a hs.1 hs.2];simp
 have ae:(a-44032)%28≠0:=fun e=>by rw[zCU a hs.1 hs.2 e]at h5;omega
 have hl:zA2 (4352+(a-44032)/588)=1:=by unfold zA2;grind
 have hv:zA2 (4449+(a-44032)%588/28)=2:=by unfold zA2;grind
 have ht:zA2 (4519+(a-44032)%28)=3:=by unfold zA2;grind
 rw[Zj (by omega),Zl h5,zBv _ _ _ _ (by simp),show T.length+3=(T.length+2)+1 from rfl]
 have e1:Md.lv (Md.mp T) (T.length+2+1) a=some [4352+(a-44032)/588,4449+(a-44032)%588/28,4519+(a-44032)%28]:=by
  unfold Md.lv;rw[Zj (by rw[hm];simp),hm];simp[zAp,zBo _ (T.length+2) (zBy hg (.inr (.inr ht))),show T.length+2=(T.length+1)+1 from rfl,zG7 _ (T.length+1) aa (zBy hg (.inl hl)) (zBy hg (.inr (.inl hv)))]
 rw[e1];rfl
theorem zCs (c:Int):(zAg c).2.2=decide (4≤zA2 c):=by
 by_cases h4:zA2 c=4
 · rw[zAN c h4,h4];rfl
 by_cases h5:zA2 c=5
 · rw[zAT c h5,h5];rfl
 rw[zBI c h4 h5];have:¬4≤zA2 c:=by unfold zA2 at *;grind
 rw[Zt this]
theorem zF3 (c:Int):0≤zA2 c∧zA2 c≤5:=by unfold zA2;grind
theorem zOB {T:List Rw.Row} {c:Int} (hr:zAS T c=[]) (hk:zA2 c<4):Md.mp T c=[]∧Md.full T c=some [c]:=by
 have hm:Md.mp T c=[]:=by
  unfold Md.mp;rw[zCs,Zt (by omega)];simpa using hr
 exact⟨hm,zEw _ hm⟩
theorem zId {T:List Rw.Row} {X:Int→Bool} {r:Rw.Row} (hg:Md.good r) (hr:Md.rises T) (hm:r∈T) (hp:zAo T X r.1=true):∃a b,r.2.2=[a,b]:=by
 unfold zAo at hp;rw[zCs,hg.2.2.2.2.1,zBE hr hm]at hp;simp only[show ¬((4:Int)≤0) by decide,decide_false,Y5,Zx,JY]at hp;unfold zAc at hp;simp only[Zs,Zm]at hp;have h2:=hp.2.1
 match h:r.2.2,h2 with
 | [a,b],_=>exact⟨a,b,rfl⟩
section
open Go.RowKit
def Slt (w:World) (t:TypeId) (A:Option Addr) (xs:List Value):Prop :=
 0<xs.length→∃b o cs,A=some ⟨b,o,none⟩∧w.heap[b]?=some (.cells cs t (0,0))∧∀i,i<xs.length→cs[o+i]?=xs[i]?
theorem Slt.nil (w:World) (t:TypeId) (A:Option Addr):Slt w t A []:=fun h=>absurd h (by simp)
theorem Slt.sl {w:World} {t:TypeId} {A:Option Addr} {xs:List Value} (h:Slt w t A xs):Sl w w.heap.size A xs:=by
 intro hx;obtain⟨b,o,cs,hA,hb,hc⟩:=h hx;exact⟨b,o,hA,zDq hb,fun i hi=>by rw[←hc i hi];simp[World.cell?,hb]⟩
theorem Slt.frozen {w:World} {t:TypeId} {b o:Nat} {xs:List Value} (h:Slt w t (some ⟨b,o,none⟩) xs) (hx:0<xs.length) (i:Nat):w.frozen? ⟨b,i,none⟩=false:=by
 obtain⟨b',o',cs,hA,hb,_⟩:=h hx;simp only[Zg,YR]at hA;obtain⟨rfl,rfl,_⟩:=hA;simp[World.frozen?,hb]
theorem Slt.grown {w w':World} {t:TypeId} {A:Option Addr} {xs:List Value} {row:Option Nat} (h:Slt w t A xs) (hg:w.grownBy w' row) (hr:∀k,row=some k→∀cs z,w.heap[k]?≠some (.cells cs t z)):Slt w' t A xs:=by
 intro hx;obtain⟨b,o,cs,hA,hb,hc⟩:=h hx;exact⟨b,o,cs,hA,(hg.block b (zDq hb) fun e=>hr b e.symm cs (0,0) hb).trans hb,hc⟩
theorem Slt.below {w w':World} {t:TypeId} {A:Option Addr} {xs:List Value} (h:Slt w t A xs) (hb:Below w.heap.size w w'):Slt w' t A xs:=by
 intro hx;obtain⟨b,o,cs,hA,hh,hc⟩:=h hx;exact⟨b,o,cs,hA,(hb.block b (zDq hh)).trans hh,hc⟩
theorem Slt.of_own {w:World} {base:Nat} {e:TypeId} {size n c:Nat} {A:Option Addr} {xs:List Value} (h:w.ownsRow base e size (.slice A n c) n xs):Slt w e A xs:=by
 intro hx;obtain⟨hl,h⟩:=h;rcases h with ⟨hv,hn⟩|⟨g,cap,ae,hv,_,hg,_,_,_,aa⟩
 · subst hn;simp at hl;rw[hl]at hx;simp at hx
 simp only[Z2]at hv;obtain⟨hA,_,_⟩:=hv;refine⟨g,0,ae,hA,hg,fun i hi=>?_⟩;rw[←aa];simp[Yk,←hl,hi]
def Rw.fl:List Rw.Row→List (Option Addr × Nat)→List Value
 | r::rs,a::ads=>.int .i32 r.1::.int .i64 r.2.1::.slice a.1 r.2.2.length a.2::Rw.fl rs ads
 | _,_=>[]
theorem Rw.fl_len:∀(rs:List Rw.Row) (ads:List (Option Addr × Nat)),ads.length=rs.length→(Rw.fl rs ads).length=rs.length*3
 | [],_,_=>by simp[Rw.fl]
 | r::rs,[],h=>by simp at h
 | r::rs,a::ads,h=>by simp[Rw.fl,Rw.fl_len rs ads (by simpa using h)];omega
theorem Rw.fl_app:∀(rs:List Rw.Row) (ads:List (Option Addr × Nat)) (r:Rw.Row) (a:Option Addr × Nat),ads.length=rs.length →
 Rw.fl (rs++[r]) (ads++[a])=Rw.fl rs ads++[.int .i32 r.1,.int .i64 r.2.1,.slice a.1 r.2.2.length a.2]
 | [],[],r,a,_=>rfl
 | [],_::_,_,_,h=>by simp at h
 | q::rs,[],r,a,h=>by simp at h
 | q::rs,b::ads,r,a,h=>by
   simp only[Zo,Rw.fl];rw[Rw.fl_app rs ads r a (by simpa using h)]
def Rw.Maps (w:World) (rs:List Rw.Row) (ads:List (Option Addr × Nat)):Prop:=∀(i:Nat) (r:Rw.Row) (a:Option Addr × Nat),rs[i]?=some r→ads[i]?=some a→Slt w 21 a.1 (r.2.2.map (Value.int .i32))
theorem Rw.Maps.app {w:World} {rs:List Rw.Row} {ads:List (Option Addr × Nat)} (h:Rw.Maps w rs ads) (hl:ads.length=rs.length) {r:Rw.Row} {a:Option Addr × Nat} (hr:Slt w 21 a.1 (r.2.2.map (Value.int .i32))):Rw.Maps w (rs++[r]) (ads++[a]):=by
 intro i q x hq hx;rcases ZZ i rs.length with hi|hi
 · rw[ZS hi]at hq;rw[ZS (by omega)]at hx;exact h i q x hq hx
 rw[ZJ hi]at hq;rw[ZJ (by omega)]at hx;obtain⟨j,hj⟩:∃j,i-rs.length=j:=⟨_,rfl⟩;rw[hl,hj]at hx;rw[hj]at hq;rcases j with _|j
 · simp at hq hx;subst hq hx;exact hr
 simp at hq
theorem Rw.Maps.below {w w':World} {rs:List Rw.Row} {ads:List (Option Addr × Nat)} (h:Rw.Maps w rs ads) (hb:Below w.heap.size w w'):Rw.Maps w' rs ads:=fun i r a h1 h2=>(h i r a h1 h2).below hb
theorem Rw.Maps.grown {w w':World} {rs:List Rw.Row} {ads:List (Option Addr × Nat)} {row:Option Nat} (h:Rw.Maps w rs ads) (hg:w.grownBy w' row) (hr:∀k,row=some k→∀cs z,w.heap[k]?≠some (.cells cs 21 z)):Rw.Maps w' rs ads :=
 fun i r a h1 h2=>(h i r a h1 h2).grown hg hr
theorem zAe {b:Nat} {w w':World} {row:Option Nat} (hg:w.grownBy w' row) (hb:b≤w.heap.size) (hr:∀k,row=some k→b≤k):Below b w w':=(Zc b w).grown hg hb hr
theorem zAy {w:World} {base:Nat} {e t':TypeId} {size n:Nat} {v:Value} {xs:List Value} (h:w.ownsRow base e size v n xs) (hne:e≠t'):∀k,v.ownBlock=some k→∀cs' z,w.heap[k]?≠some (.cells cs' t' z):=by
 intro k hk cs' z e';rcases h.2 with ⟨rfl,_⟩|⟨g,cap,aa,rfl,_,hg,_⟩
 · simp[Value.ownBlock]at hk
 simp only[Value.ownBlock,Zg]at hk;subst hk;have:=hg.symm.trans e';simp only[Zg,XE]at this;exact hne this.2.1
theorem zOC {w:World} {base:Nat} {e:TypeId} {size n:Nat} {v:Value} {xs:List Value} (h:w.ownsRow base e size v n xs):v.oneCell'=true:=by
 obtain⟨A,c,rfl⟩:=zA3 h;rfl
theorem zBi {w:World} {base:Nat} {e:TypeId} {size n:Nat} {v:Value} {xs:List Value} (h:w.ownsRow base e size v n xs) (g:Nat) (hg:g<base):v.ownBlock≠some g:=fun hk=>by have:=(h.lt _ hk).1;omega
theorem zA8 {w w':World} {base:Nat} {e:TypeId} {size n b:Nat} {v:Value} {xs:List Value} (h:w.ownsRow base e size v n xs) (hb:b<base) (hg:w.grownBy w' (some b)):w'.ownsRow base e size v n xs :=
 h.kept hg (by
  rcases h.2 with ⟨rfl,_⟩|⟨g,cap,aa,rfl,ae,_⟩
  · exact .inl rfl
  refine .inr fun e'=>?_
  simp only[Value.ownBlock,Zg]at e';omega)
theorem Rw.fl_get:∀(rs:List Rw.Row) (ads:List (Option Addr × Nat)) (i:Nat) (r:Rw.Row) (a:Option Addr × Nat),rs[i]?=some r→ads[i]?=some a →
 (Rw.fl rs ads)[i*3]?=some (.int .i32 r.1)∧(Rw.fl rs ads)[i*3+1]?=some (.int .i64 r.2.1)∧(Rw.fl rs ads)[i*3+2]?=some (.slice a.1 r.2.2.length a.2)
 | [],_,i,_,_,h,_=>by simp at h
 | _::_,[],i,_,_,_,h=>by simp at h
 | q::rs,b::ads,0,r,a,h,h'=>by simp at h h';subst h h';exact⟨rfl,rfl,rfl⟩
 | q::rs,b::ads,i+1,r,a,h,h'=>by
   have:=Rw.fl_get rs ads i r a (by simpa using h) (by simpa using h');rw[show (i+1)*3=i*3+1+1+1 by omega];exact this
def Rw.Tab (w:World) (A:Option Addr) (rs:List Rw.Row):Prop:=∃ads,ads.length=rs.length∧Slt w 109 A (Rw.fl rs ads)∧Rw.Maps w rs ads
def zBj:List Rw.Row→List (Option Addr × Nat)→List Value
 | r::rs,a::ads=>.int .i64 r.1::.int .i64 r.2.1::.slice a.1 r.2.2.length a.2::zBj rs ads
 | _,_=>[]
theorem zCI:∀(rs:List Rw.Row) (ads:List (Option Addr × Nat)),ads.length=rs.length→(zBj rs ads).length=rs.length*3
 | [],_,_=>by simp[zBj]
 | r::rs,[],h=>by simp at h
 | r::rs,a::ads,h=>by simp[zBj,zCI rs ads (by simpa using h)];omega
theorem zF4:∀(rs:List Rw.Row) (ads:List (Option Addr × Nat)) (i:Nat) (r:Rw.Row) (a:Option Addr × Nat),rs[i]?=some r→ads[i]?=some a →
 (zBj rs ads)[i*3]?=some (.int .i64 r.1)∧(zBj rs ads)[i*3+1]?=some (.int .i64 r.2.1)∧(zBj rs ads)[i*3+2]?=some (.slice a.1 r.2.2.length a.2)
 | [],_,i,_,_,h,_=>by simp at h
 | _::_,[],i,_,_,_,h=>by simp at h
 | q::rs,b::ads,0,r,a,h,h'=>by simp at h h';subst h h';exact⟨rfl,rfl,rfl⟩
 | q::rs,b::ads,i+1,r,a,h,h'=>by
   have:=zF4 rs ads i r a (by simpa using h) (by simpa using h');rw[show (i+1)*3=i*3+1+1+1 by omega];exact this
def Rw.Sees (w:World) (A:Option Addr) (rs:List Rw.Row):Prop:=∃ads:List (Option Addr × Nat),ads.length=rs.length∧Sl w w.heap.size A (Rw.fl rs ads) ∧
 ∀(i:Nat) (r:Rw.Row) (a:Option Addr × Nat),rs[i]?=some r→ads[i]?=some a→Sl w w.heap.size a.1 (r.2.2.map (Value.int .i32))
def Rw.SeesI (w:World) (A:Option Addr) (rs:List Rw.Row):Prop:=∃ads:List (Option Addr × Nat),ads.length=rs.length∧Sl w w.heap.size A (zBj rs ads) ∧
 ∀(i:Nat) (r:Rw.Row) (a:Option Addr × Nat),rs[i]?=some r→ads[i]?=some a→Sl w w.heap.size a.1 (r.2.2.map (Value.int .i64))
theorem Rw.Tab.sees {w:World} {A:Option Addr} {rs:List Rw.Row} (h:Rw.Tab w A rs):Rw.Sees w A rs:=by
 obtain⟨ads,hl,hs,hm⟩:=h;exact⟨ads,hl,hs.sl,fun i r a h1 h2=>(hm i r a h1 h2).sl⟩
theorem Rw.Sees.below {w w':World} {A:Option Addr} {rs:List Rw.Row} (h:Rw.Sees w A rs) (hb:Below w.heap.size w w'):Rw.Sees w' A rs:=by
 obtain⟨ads,hl,hs,hm⟩:=h;exact⟨ads,hl,hs.below hb hb.size,fun i r a h1 h2=>(hm i r a h1 h2).below hb hb.size⟩
theorem Rw.SeesI.below {w w':World} {A:Option Addr} {rs:List Rw.Row} (h:Rw.SeesI w A rs) (hb:Below w.heap.size w w'):Rw.SeesI w' A rs:=by
 obtain⟨ads,hl,hs,hm⟩:=h;exact⟨ads,hl,hs.below hb hb.size,fun i r a h1 h2=>(hm i r a h1 h2).below hb hb.size⟩
theorem Rw.Sees.row {w:World} {A:Option Addr} {rs:List Rw.Row} (h:Rw.Sees w A rs) {i:Nat} {r:Rw.Row} (hr:rs[i]?=some r) :
 ∃(b o:Nat) (a:Option Addr × Nat),A=some ⟨b,o,none⟩∧b<w.heap.size∧w.cell? ⟨b,o+i*3,none⟩=some (.int .i32 r.1)∧w.cell? ⟨b,o+i*3+1,none⟩=some (.int .i64 r.2.1)∧w.cell? ⟨b,o+i*3+2,none⟩=some (.slice a.1 r.2.2.length a.2) ∧
  Sl w w.heap.size a.1 (r.2.2.map (Value.int .i32)):=by
 obtain⟨ads,hl,hs,hm⟩:=h;have hi:=(List.getElem?_eq_some_iff.1 hr).1;obtain⟨a,ha⟩:∃a,ads[i]?=some a:=⟨_,Zb (by omega)⟩;obtain⟨b,o,rfl,hb,hc⟩:=hs (by rw[Rw.fl_len _ _ hl];omega);obtain⟨g0,g1,g2⟩:=Rw.fl_get rs ads i r a hr ha;have hlen:=Rw.fl_len rs ads hl;refine⟨b,o,a,rfl,hb,?_,?_,?_,hm i r a hr ha⟩
 · rw[hc _ (by omega),g0]
 · rw[Yi,hc _ (by omega),g1]
 rw[Yi,hc _ (by omega),g2]
theorem Rw.SeesI.row {w:World} {A:Option Addr} {rs:List Rw.Row} (h:Rw.SeesI w A rs) {i:Nat} {r:Rw.Row} (hr:rs[i]?=some r) :
 ∃(b o:Nat) (a:Option Addr × Nat),A=some ⟨b,o,none⟩∧b<w.heap.size∧w.cell? ⟨b,o+i*3,none⟩=some (.int .i64 r.1)∧w.cell? ⟨b,o+i*3+1,none⟩=some (.int .i64 r.2.1)∧w.cell? ⟨b,o+i*3+2,none⟩=some (.slice a.1 r.2.2.length a.2) ∧
  Sl w w.heap.size a.1 (r.2.2.map (Value.int .i64)):=by
 obtain⟨ads,hl,hs,hm⟩:=h;have hi:=(List.getElem?_eq_some_iff.1 hr).1;obtain⟨a,ha⟩:∃a,ads[i]?=some a:=⟨_,Zb (by omega)⟩;obtain⟨b,o,rfl,hb,hc⟩:=hs (by rw[zCI _ _ hl];omega);obtain⟨g0,g1,g2⟩:=zF4 rs ads i r a hr ha;have hlen:=zCI rs ads hl;refine⟨b,o,a,rfl,hb,?_,?_,?_,hm i r a hr ha⟩
 · rw[hc _ (by omega),g0]
 · rw[Yi,hc _ (by omega),g1]
 rw[Yi,hc _ (by omega),g2]
theorem zJx (c d:Int) (u v:Value) (w:World) (h1 : -2147483648≤c) (h2:c≤2147483647) (h3 : -2147483648≤d) (h4:d≤2147483647) :
 Calls prog 171 #[.agg #[.int .i32 c,u,v],.int .i32 d] w fun e w'=>e=.returned (.int .i64 (c-d))∧Below w.heap.size w w':=by
 have e1:IntKind.i64.wrap c=c:=by rw[Z5];omega
 have e2:IntKind.i64.wrap d=d:=by rw[Z5];omega
 have e3:IntKind.i64.wrap (c-d)=c-d:=by rw[Z5];omega
 have hb:Below w.heap.size w (w.alloc (.cells #[.int .i32 c,u,v] 109)):=(Zc _ _).alloc (Za _) _;have HB:=hy' hb;clear hb;go_enter func171,ntmps171;go_wp2_with fail;go_ret;exact⟨rfl,HB.o⟩
def zO3 (T:List Rw.Row) (d:Int) (i:Nat) (is:Bool):Prop:=(is=true→∃r,T[i]?=some r∧Md.find T d=some r)∧(is=false→Md.find T d=none)
def zPO (T:List Rw.Row) (d:Int) (w:World) (e:Ending) (w':World):Prop:=∃(i:Nat) (is:Bool),e=.returned (.tuple #[.int .i64 i,.bool is])∧zO3 T d i is∧Below w.heap.size w w'
theorem Md.search_any (A:Option Addr) (n c:Nat) (T:List Rw.Row) (d:Int) (w:World) (hn:T.length=n) (au:n≤1000000) (hr:Md.rises T) (hbd:Md.bd T) (h3 : -2147483648≤d) (h4:d≤2147483647) (hA:Rw.Sees w A T) :
 Calls prog 170 #[.slice A n c,.int .i32 d,.func (.func 171) #[] #[]] w
  (zPO T d w):=by
 have HN:=hy' hn;have HR:=hy' hr;have HD:=hy' hbd;have HA:=hy' hA;clear hn hr hbd hA;go_enter func170,ntmps170;go_wp2_with fail;go_loopw [9,10] (fun vi vj wr=>∃i j:Nat,i≤j∧j≤n∧vi=.int .i64 i∧vj=.int .i64 j∧(∀t r,t<i→T[t]?=some r→r.1<d)∧(∀t r,j≤t→T[t]?=some r→d≤r.1)∧Below w.heap.size w wr) (fun vi vj _=>(intOf vj).toNat-(intOf vi).toNat)
 case atStart=>exact⟨0,n,by omega,Za _,rfl,rfl,fun t r ht=>by omega,fun t r ht hx=>by have:=(List.getElem?_eq_some_iff.1 hx).1;have:=HN.o;omega,Zc _ _⟩
 obtain⟨i,j,hij,aq,rfl,rfl,ap,aj,aa⟩:=hrel;have ao:=hy' ap;have ak:=hy' aj;have HB:=hy' aa;clear ap aj
 by_cases hlt:(i:Int)<j
 · obtain⟨x,hx⟩:∃x,T[(i+j)/2]?=some x:=⟨_,Zb (by rw[HN.o];omega)⟩;obtain⟨b,o,a,ai,hb,c0,c1,c2,_⟩:=(HA.o.below aa).row hx;have ae:=(HD.o x (Zk hx)).1;have hc:=zJx x.1 d (.int .i64 x.2.1) (.slice a.1 x.2.2.length a.2) wr ae.1 ae.2 h3 h4;have HX:=hy' hx;have m0:(0:Int)≤(((i+j)/2:Nat):Int):=by omega
   have m1:(((i+j)/2:Nat):Int)<n:=by omega
   subst ai;clear aa hx;go_wp2_with fail;refine hc.mono ?_;rintro e w1 ⟨rfl,ah⟩;have hz:=HB.o.size;have ag:=hy' (HB.o.trans (ah.mono hz));have ar:i<j:=by omega
   clear ah hc c0 c1 c2 hlt
   by_cases hd:x.1-d<0
   · go_wp2_with fail;refine⟨⟨(i+j)/2+1,j,by omega,aq,by go_num,rfl,fun t r ht hx=>?_,ak.o,ag.o⟩,by simp[intOf];omega⟩
     by_cases he:t=(i+j)/2
     · rw[he,HX.o]at hx;cases hx
       omega
     have:=zDd HR.o hx HX.o (by omega);omega
   go_wp2_with fail;refine⟨⟨i,(i+j)/2,by omega,by omega,rfl,by go_num,ao.o,fun t r ht hx=>?_,ag.o⟩,by simp[intOf];omega⟩
   by_cases he:t=(i+j)/2
   · rw[he,HX.o]at hx;cases hx
     omega
   have:=zDd HR.o HX.o hx (by omega);omega
 obtain rfl:i=j:=by omega
 have hcut:=zME HR.o d i ao.o ak.o
 by_cases hin:(i:Int)<n
 · obtain⟨x,hx⟩:∃x,T[i]?=some x:=⟨_,Zb (by rw[HN.o];omega)⟩;obtain⟨b,o,a,ai,hb,c0,c1,c2,_⟩:=(HA.o.below aa).row hx;have ae:=(HD.o x (Zk hx)).1;have hc:=zJx x.1 d (.int .i64 x.2.1) (.slice a.1 x.2.2.length a.2) wr ae.1 ae.2 h3 h4;have HX:=hy' hx;rw[hx,Zy]at hcut;have af:=hy' hcut;have m0:(0:Int)≤(i:Int):=by omega
   subst ai;clear aa hx hcut hlt;go_wp2_with fail;refine hc.mono ?_;rintro e w1 ⟨rfl,ah⟩;have ag:=hy' (HB.o.trans (ah.mono HB.o.size));clear ah hc c0 c1 c2;rcases hz:(x.1-d == 0) with _|_
   · have hne:¬x.1=d:=fun e=>by simp[e]at hz
     have HH:Hy (zO3 T d i false):=hy' ⟨fun e=>Bool.noConfusion e,fun _=>by rw[af.o,Zj hne]⟩;clear hne;go_wp2_with fail;go_ret2;exact⟨i,false,rfl,HH.o,ag.o⟩
   have he:x.1=d:=by have:=beq_iff_eq.1 hz;omega
   have HH:Hy (zO3 T d i true):=hy' ⟨fun _=>⟨x,HX.o,by rw[af.o,Zl he]⟩,fun e=>Bool.noConfusion e⟩;clear he;go_wp2_with fail;go_ret2;exact⟨i,true,rfl,HH.o,ag.o⟩
 rw[Yn (by rw[HN.o];omega),Option.bind_none]at hcut;have HH:Hy (zO3 T d i false):=hy' ⟨fun e=>Bool.noConfusion e,fun _=>hcut⟩;clear aa hcut hlt;go_wp2_with fail;go_ret2;exact⟨i,false,rfl,HH.o,HB.o⟩
def Rw.At (w:World) (b:Nat) (t:TypeId) (cs:List Value):Prop:=w.heap[b]?=some (.cells cs.toArray t (0,0))
theorem Rw.At.lt {w:World} {b:Nat} {t:TypeId} {cs:List Value} (h:Rw.At w b t cs):b<w.heap.size:=zDq h
theorem Rw.At.cell {w:World} {b:Nat} {t:TypeId} {cs:List Value} (h:Rw.At w b t cs) (i:Nat) {v:Value} (hv:cs[i]?=some v):w.cell? ⟨b,i,none⟩=some v:=by
 unfold Rw.At at h;simp[World.cell?,h,hv]
theorem Rw.At.frozen {w:World} {b:Nat} {t:TypeId} {cs:List Value} (h:Rw.At w b t cs) (i:Nat):w.frozen? ⟨b,i,none⟩=false:=by
 unfold Rw.At at h;simp[World.frozen?,h]
theorem Rw.At.set {w:World} {b:Nat} {t:TypeId} {cs:List Value} (h:Rw.At w b t cs) (i:Nat) (v:Value):Rw.At (w.setCell ⟨b,i,none⟩ v) b t (cs.set i v):=by
 obtain⟨aa,hk⟩:=Array.getElem?_eq_some_iff.1 h;show (w.heap.modify b _)[b]?=_;rw[Xm (by rw[QI];exact aa),QG,hk];simp
theorem Rw.At.grown {w w':World} {b:Nat} {t:TypeId} {cs:List Value} {row:Option Nat} (h:Rw.At w b t cs) (hg:w.grownBy w' row) (hr:row≠some b):Rw.At w' b t cs :=
 (hg.block b h.lt fun e=>hr e.symm).trans h
theorem Rw.At.below {w w':World} {b:Nat} {t:TypeId} {cs:List Value} (h:Rw.At w b t cs) (hb:Below w.heap.size w w'):Rw.At w' b t cs:=(hb.block b h.lt).trans h
theorem Rw.At.new (w:World) (t:TypeId) (cs:List Value):Rw.At (w.alloc (.cells cs.toArray t)) w.heap.size t cs:=World.alloc_heap_new w _
theorem Rw.grown_below {w w':World} (h:Below w.heap.size w w'):w.grownBy w' none:=⟨h.os,h.tape,h.output,h.size,fun k hk _=>h.block k hk⟩
theorem Rw.At.three {w:World} {b:Nat} {t:TypeId} {u v x:Value} (h:Rw.At w b t [u,v,x]) :
 w.cell? ⟨b,0,none⟩=some u∧w.cell? ⟨b,1,none⟩=some v∧w.cell? ⟨b,2,none⟩=some x∧w.frozen? ⟨b,0,none⟩=false∧w.frozen? ⟨b,1,none⟩=false∧w.frozen? ⟨b,2,none⟩=false :=
 ⟨h.cell 0 rfl,h.cell 1 rfl,h.cell 2 rfl,h.frozen 0,h.frozen 1,h.frozen 2⟩
theorem Rw.At.below' {w w':World} {b B:Nat} {t:TypeId} {cs:List Value} (h:Rw.At w b t cs) (hb:Below B w w') (hB:b<B):Rw.At w' b t cs:=(hb.block b hB).trans h
theorem Rw.At.other {w:World} {b b' i:Nat} {t:TypeId} {cs:List Value} (h:Rw.At w b t cs) (hne:b≠b') (v:Value):Rw.At (w.setCell ⟨b',i,none⟩ v) b t cs :=
 (Yl _ _ _ b hne).trans h
theorem Rw.At.alloc {w:World} {b:Nat} {t:TypeId} {cs:List Value} (h:Rw.At w b t cs) (o:Obj):Rw.At (w.alloc o) b t cs:=(QQ _ _ _ h.lt).trans h
theorem Slt.setAt {w:World} {t t':TypeId} {A:Option Addr} {xs cs:List Value} {b:Nat} (h:Slt w t A xs) (k:Rw.At w b t' cs) (hne:t'≠t) (i:Nat) (v:Value):Slt (w.setCell ⟨b,i,none⟩ v) t A xs:=by
 intro hx;obtain⟨g,o,cs',hA,hb,hc⟩:=h hx;refine⟨g,o,cs',hA,(Yl _ _ _ g fun e=>?_).trans hb,hc⟩;have e:g=b:=e;subst e;have:=k.symm.trans hb;simp only[Zg,XE]at this;exact hne this.2.1
theorem zE0 {P:Program} {fn:Func} {p u:Tmp} {ty:TypeId} (h:fn.results = #[.cell p ty,.tmp u]) (tmps:Array Value) (w:World) (g:Nat) (t:TypeId) (cs:Array Value) (fr:Nat × Nat) (d:TypeDesc)
 (hp:tmps.getD p undef=.pointer (some ⟨g,0,none⟩)) (hg:w.heap[g]?=some (.cells cs t fr))
 (hu:P.underlying ty=some d) (hd:(match d with | .struct _ | .array _ _=>true|_=>false)=true) (hi:(P.info? ty).map (·.size)=some cs.size) :
 (results fn tmps).run P w=.ok (.tuple #[.agg cs,tmps.getD u undef]) w:=by
 have aa:tmps[p]?.getD undef=.pointer (some ⟨g,0,none⟩):=by simpa using hp
 simp[results,h,aa,asAddr,X3 w g t ty cs fr d hg hu hd hi]
theorem Rw.grown_set {w:World} (b i:Nat) (v:Value):w.grownBy (w.setCell ⟨b,i,none⟩ v) (some b) :=
 ⟨rfl,rfl,rfl,(by show w.heap.size≤(w.heap.modify b _).size;rw[QI];exact Za _),fun k _ hk=>Yl _ _ _ k (fun e=>hk (by rw[show k=b from e]))⟩
theorem zA0 {w w' w'':World} {row:Option Nat} (h:w.grownBy w' row) (h':w'.grownBy w'' row):w.grownBy w'' row :=
 ⟨h'.os.trans h.os,h'.tape.trans h.tape,h'.output.trans h.output,Zh h.size h'.size,fun k hk hne=>(h'.block k (Zf hk h.size) hne).trans (h.block k hk hne)⟩
theorem zDh {w w':World} {row:Option Nat} (h:Below w.heap.size w w'):w.grownBy w' row:=⟨h.os,h.tape,h.output,h.size,fun k hk _=>h.block k hk⟩
theorem zLp {w w':World} {row:Option Nat} (h:w.grownBy w' none):w.grownBy w' row:=⟨h.os,h.tape,h.output,h.size,fun k hk _=>h.block k hk (by simp)⟩
theorem Rw.At.not {w:World} {b:Nat} {t t':TypeId} {cs:List Value} (h:Rw.At w b t cs) (hne:t≠t'):∀cs' z,w.heap[b]?≠some (.cells cs' t' z):=fun cs' z e=>by
 have:=h.symm.trans e;simp only[Zg,XE]at this;exact hne this.2.1
def zBd (A:Option Addr) (n c:Nat) (XA:Option Addr) (xn xc:Nat):Value:=.agg #[.slice A n c,.slice XA xn xc]
def zHD (r:Rw.Row) (a:Option Addr × Nat):Value:=.agg #[.int .i32 r.1,.int .i64 r.2.1,.slice a.1 r.2.2.length a.2]
def Md.rowOf (T:List Rw.Row) (d:Int):Rw.Row:=(Md.find T d).getD (0,0,[])
theorem zPP (T:List Rw.Row) (d:Int):Md.cls T d=(Md.rowOf T d).2.1:=by
 unfold Md.cls Md.rowOf;cases Md.find T d <;> rfl
theorem zPQ (T:List Rw.Row) (d:Int):zAS T d=(Md.rowOf T d).2.2:=by
 unfold zAS Md.rowOf;cases Md.find T d <;> rfl
def Md.RetFind (T:List Rw.Row) (d:Int) (w:World) (e:Ending) (w':World):Prop :=
 ∃a:Option Addr × Nat,e=.returned (.tuple #[zHD (Md.rowOf T d) a,.bool (Md.find T d).isSome])∧Sl w' w'.heap.size a.1 ((Md.rowOf T d).2.2.map (Value.int .i32))∧Below w.heap.size w w'
theorem Md.find_any (A:Option Addr) (n c:Nat) (XA:Option Addr) (xn xc:Nat) (T:List Rw.Row) (d:Int) (w:World) (hn:T.length=n) (a8:n≤1000000) (hr:Md.rises T) (hbd:Md.bd T) (h3 : -2147483648≤d) (h4:d≤2147483647) (hA:Rw.Sees w A T) :
 Calls prog 132 #[zBd A n c XA xn xc,.int .i32 d] w (Md.RetFind T d w):=by
 obtain⟨wa,aq⟩:∃wa,(w.alloc (.cells #[.slice A n c,.slice XA xn xc] 101)).alloc (.cells #[.int .i32 0,.int .i64 0,.slice none 0 0] 109)=wa:=⟨_,rfl⟩;have av:Below w.heap.size w wa:=by rw[←aq];exact ((Zc _ _).alloc (Za _) _).alloc (by simp) _
 have ah:Rw.At wa w.heap.size 101 [.slice A n c,.slice XA xn xc]:=by rw[←aq];exact (Rw.At.new w 101 [.slice A n c,.slice XA xn xc]).alloc _
 have ag:Rw.At wa (w.heap.size+1) 109 [.int .i32 0,.int .i64 0,.slice none 0 0]:=by
  have h:=Rw.At.new (w.alloc (.cells #[.slice A n c,.slice XA xn xc] 101)) 109 [.int .i32 0,.int .i64 0,.slice none 0 0];rw[ZK]at h;rw[←aq];exact h
 have a7:w.heap.size+1<wa.heap.size:=ag.lt;have hS:=Md.search_any A n c T d wa hn a8 hr hbd h3 h4 (hA.below av);have a1:=hy' aq;have HN:=hy' hn;have HA:=hy' hA;have ay:=hy' av;have z0:=ah.cell 0 rfl;clear aq av hA hr hbd hn;unfold zBd;go_enter func132,ntmps132;go_upto_region 1 with (fail)
 rw[a1.o];go_wp2_with fail;refine hS.mono ?_;rintro e w1 ⟨i,is,rfl,ai,ar⟩;have au:=ah.below ar;have aa:=ag.below ar;have z2:=au.cell 0 rfl;obtain⟨m1,m2,m3,m4,m5,m6⟩:=aa.three;have ba:w.heap.size+1<w1.heap.size:=aa.lt;have ae:=hy' (ay.o.trans (ar.mono ay.o.size));have ak:=hy' ai;clear ar ai hS z0 ah ag a7;have aj:=hy' aa;clear aa;cases is
 · have hf:=ak.o.2 rfl;have hro:Md.rowOf T d=(0,0,[]):=by unfold Md.rowOf;rw[hf];rfl
   have HF:=hy' hf;have ap:=hy' hro;clear hf hro;go_wp2_with fail;have af:=((aj.o.set 0 (.int .i32 0)).set 1 (.int .i64 0)).set 2 (.slice none 0 0);refine YF (zE0 rfl _ _ (w.heap.size+1) _ _ _ _ rfl af underlying109 rfl (by kernel_rfl)) rfl ⟨(none,0),?_,?_,?_⟩
   · rw[ap.o,HF.o];rfl
   · rw[ap.o];exact Sl.nil _ _ _
   exact ((ae.o.setCell (p:=⟨w.heap.size+1,0,none⟩) (by simp) _).setCell (p:=⟨w.heap.size+1,1,none⟩) (by simp) _).setCell (p:=⟨w.heap.size+1,2,none⟩) (by simp) _
 obtain⟨r,hr,hf⟩:=ak.o.1 rfl;obtain⟨b,o,a,a6,hb,ax,az,aw,ao⟩:=HA.o.row hr;have c0:=((zAP ae.o).1 b (o+i*3) hb).trans ax;have c1:=((zAP ae.o).1 b (o+i*3+1) hb).trans az;have c2:=((zAP ae.o).1 b (o+i*3+2) hb).trans aw;have bb:b<w1.heap.size:=Zf hb ae.o.size;have m0:(0:Int)≤(i:Int):=by omega
 have m7:(i:Int)<n:=by have:=(List.getElem?_eq_some_iff.1 hr).1;have:=HN.o;omega
 have hro:Md.rowOf T d=r:=by unfold Md.rowOf;rw[hf];rfl
 have HF:=hy' hf;have ap:=hy' hro;have HM:=hy' ao;subst a6;clear hr hf hro ao ax az aw;go_wp2_with fail;have af:=((aj.o.set 0 (.int .i32 r.1)).set 1 (.int .i64 r.2.1)).set 2 (.slice a.1 r.2.2.length a.2);refine YF (zE0 rfl _ _ (w.heap.size+1) _ _ _ _ rfl af underlying109 rfl (by kernel_rfl)) rfl ⟨a,?_,?_,?_⟩
 · rw[ap.o,HF.o];rfl
 · rw[ap.o];exact HM.o.below (((ae.o.setCell (p:=⟨w.heap.size+1,0,none⟩) (by simp) _).setCell (p:=⟨w.heap.size+1,1,none⟩) (by simp) _).setCell (p:=⟨w.heap.size+1,2,none⟩) (by simp) _) (by simpa using ae.o.size)
 exact ((ae.o.setCell (p:=⟨w.heap.size+1,0,none⟩) (by simp) _).setCell (p:=⟨w.heap.size+1,1,none⟩) (by simp) _).setCell (p:=⟨w.heap.size+1,2,none⟩) (by simp) _
end
end Go.Proofs.YthngjlllojiacaaGreatDoor
