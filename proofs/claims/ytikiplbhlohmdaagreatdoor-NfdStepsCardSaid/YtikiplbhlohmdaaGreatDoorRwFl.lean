/- More small laws: an append of one inside a region that draws its order. -/
import Derived.Test.YtikiplbhlohmdaaGreatDoorOrPlain
import Derived.BigQuiet
import Derived.Deep.RegionHeld3
import Derived.Deep.AppendLies
set_option linter.unusedVariables false
set_option linter.unusedSimpArgs false
namespace Go.Proofs.YtikiplbhlohmdaaGreatDoor
open Go.RowKit
theorem cell1 (w:World) (u:Value) (e:TypeId) (g:Nat) (hg:w.heap.size=g):(w.alloc (.cells #[u] e)).drew.cell? ⟨g,0,none⟩=some u:=by
 subst hg
 show (w.alloc (.cells #[u] e)).cell? ⟨w.heap.size,0,none⟩=some u
 have h:(w.alloc (.cells #[u] e)).heap[w.heap.size]?=some (.cells #[u] e (0,0)):=ZP _ _
 simp only[World.cell?,h]
 rfl
theorem size_alloc1 (w:World) (o:Obj):(w.alloc o).heap.size=w.heap.size+1:=by simp
section
variable {P:Program}
theorem wp_push1 {o:Oper} {a:Act} {K:Act→World→Prop} {Q:Exit→Act→World→Prop} (w:World) (s x:Operand) (t:TypeId)
 (ho:o.op=.call { callee:=.builtin .append,args := #[s,x],argTypes := #[t,t] })
 (base:Nat) (e:TypeId) (i:TypeInfo) (z:Value) (bytes:Nat) (ht:P.underlying t=some (.slice e)) (hi:P.info? e=some i) (hz:i.zero=some z)
 (ag:i.size=1) (aj:i.bytes=bytes) (ah:z.cells.size=1)
 (v:Value) (n:Nat) (xs:List Value) (hs:a.eval s=v) (af:w.ownsRow base e 1 v n xs)
 (u:Value) (h1:u.oneCell'=true) (g:Nat) (hx:a.eval x=.slice (some ⟨g,0,none⟩) 1 1) (hcell:w.cell? ⟨g,0,none⟩=some u)
 (ai:n+1≤maxLen) (ae:(n+1)*bytes≤140737488355328) (aa:base≤w.heap.size)
 (h:∀v' w',w'.ownsRow base e 1 v' (n+1) (xs++[u])→Below base w w'→w.grownBy w' v.ownBlock→K (a.put o.dst v') w') :
 o.wp P a w K Q:=by
 refine wp_append_own (P:=P) w s x t ho base e i z 1 bytes ht hi hz ag aj ah (by omega) v n xs hs af ⟨g,0,none⟩ 1 1 [u] hx rfl ?_ ?_ ai ae aa ?_
 · intro j q hq
   rcases j with _|j
   · simp only[Y7,Zi]at hq
     subst hq
     simpa [Addr.add] using hcell
   · simp at hq
 · intro q hq
   simp only[ZA]at hq
   subst hq
   exact h1
 · intro v' w' h2 h3 _
   refine h v' w' h2 ?_ h3
   refine (Zd _ _).grown h3 aa ?_
   intro k hk
   exact (af.lt k hk).1
theorem step_push1 {ops:Array Oper} {o:Oper} {a:Act} {K:Act→World→Prop} {Q:Exit→Act→World→Prop} {E:Prop} (w:World) (ak:o.guard=none) (s x:Operand) (t:TypeId)
 (ho:o.op=.call { callee:=.builtin .append,args := #[s,x],argTypes := #[t,t] })
 (base:Nat) (e:TypeId) (i:TypeInfo) (z:Value) (bytes:Nat) (ht:P.underlying t=some (.slice e)) (hi:P.info? e=some i) (hz:i.zero=some z)
 (ae:i.size=1) (aj:i.bytes=bytes) (ah:z.cells.size=1)
 (v:Value) (n:Nat) (xs:List Value) (hs:a.eval s=v) (ag:w.ownsRow base e 1 v n xs)
 (u:Value) (h1:u.oneCell'=true) (g:Nat) (hx:a.eval x=.slice (some ⟨g,0,none⟩) 1 1) (hcell:w.cell? ⟨g,0,none⟩=some u)
 (ai:n+1≤maxLen) (aa:(n+1)*bytes≤140737488355328) (af:base≤w.heap.size)
 (h:∀v' w',w'.ownsRow base e 1 v' (n+1) (xs++[u])→Below base w w'→w.grownBy w' v.ownBlock→K (a.put o.dst v') w') :
 if Region.wanted o (yielded ops a.tmps)=true then Oper.wp P o a w K Q else E:=by
 have hw:Region.wanted o (yielded ops a.tmps)=true:=by simp[Region.wanted,ak]
 rw[Zp hw]
 exact wp_push1 w s x t ho base e i z bytes ht hi hz ae aj ah v n xs hs ag u h1 g hx hcell ai aa af h
end
def IsRow (k:IntKind) (w:World) (a:Option Addr) (len cap:Nat) (zs:List Int):Prop :=
 (a=none∧len=0∧cap=0∧zs=[]) ∨
 ∃x,a=some x∧len≤cap∧cap≤maxLen∧zs.length=cap∧(∀i,i<zs.length→w.cell? (x.add i)=some (.int k (zs.getD i 0)))∧∀n∈zs,(Lit.int k n).wf=true
section
variable {P:Program}
theorem run_append_empty (w:World) (base:Nat) (t ty e:TypeId) (i:TypeInfo) (size:Nat) (ht:P.underlying t=some (.slice e)) (hi:P.info? e=some i)
 (v:Value) (n:Nat) (xs:List Value) (aa:w.ownsRow base e size v n xs) (c:Nat):(Builtin.append_ #[t,t] ty #[v,.slice none 0 c]).run P w=.ok v w:=by
 rcases aa.2 with ⟨rfl,rfl⟩|⟨g,cap,af,rfl,_,_,ae,_⟩
 · simp[Builtin.append_,Xg ht,sizeOf,typeInfo,hi,Builtin.lenOf,Builtin.firstCells]
 · simp[Builtin.append_,Xg ht,sizeOf,typeInfo,hi,Builtin.lenOf,Builtin.firstCells,ae,storeCells]
theorem wp_appendSl {o:Oper} {a:Act} {K:Act→World→Prop} {Q:Exit→Act→World→Prop} (w:World) (s x:Operand) (t:TypeId)
 (ho:o.op=.call { callee:=.builtin .append,args := #[s,x],argTypes := #[t,t] })
 (base:Nat) (e:TypeId) (i:TypeInfo) (z:Value) (size bytes:Nat) (ht:P.underlying t=some (.slice e)) (hi:P.info? e=some i) (hz:i.zero=some z)
 (ag:i.size=size) (ao:i.bytes=bytes) (aj:z.cells.size=size) (ai:0<size)
 (v:Value) (n:Nat) (xs:List Value) (hs:a.eval s=v) (aa:w.ownsRow base e size v n xs)
 (B:Nat) (A:Option Addr) (m c:Nat) (news:List Value) (hx:a.eval x=.slice A m c) (hl:news.length=m*size) (hA:Sl w B A news) (h1:∀u∈news,u.oneCell'=true)
 (ak:n+m≤maxLen) (af:(n+m)*bytes≤140737488355328) (ae:base≤w.heap.size)
 (h:∀v' w',w'.ownsRow base e size v' (n+m) (xs++news)→Below base w w'→w.grownBy w' v.ownBlock→K (a.put o.dst v') w') :
 o.wp P a w K Q:=by
 rcases A with _|ad
 · have hn:news=[]:=by
    rcases news with _|⟨u,r⟩
    · rfl
    · obtain⟨b,o,hA,_⟩:=hA (by simp)
      cases hA
   subst hn
   have hm:m=0:=by
    rcases Yz m with h|h
    · exact h
    · have:=Nat.mul_pos h ai
      simp at hl
      omega
   subst hm
   have ah:=run_append_empty (P:=P) w base t o.type e i size ht hi v n xs aa c
   unfold Oper.wp execOp
   simp only[ho,resolve,invoke,builtin,YA,Yq,Yr,Y4,ZT,Ys,hs,hx,ah]
   exact h v w (by simpa using aa) (Below.refl _ _) (World.grownBy.refl w _)
 · refine wp_append_own (P:=P) w s x t ho base e i z size bytes ht hi hz ag ao aj ai v n xs hs aa ad m c news hx hl ?_ h1 ak af ae ?_
   · intro j q hq
     have hj:j<news.length:=(List.getElem?_eq_some_iff.1 hq).1
     obtain⟨b,o,hA,_,hc⟩:=hA (by omega)
     simp only[Zi]at hA
     subst hA
     rw[Addr.add_lit,hc j hj,hq]
   · intro v' w' h2 h3 _
     refine h v' w' h2 ?_ h3
     refine (Zd _ _).grown h3 ae ?_
     intro k hk
     exact (aa.lt k hk).1
theorem wpList_appendSl {ops:Array Oper} {rest:List Oper} {o:Oper} {a:Act} {Q:Exit→Act→World→Prop} (w:World) (ao:o.guard=none) (s x:Operand) (t:TypeId)
 (ho:o.op=.call { callee:=.builtin .append,args := #[s,x],argTypes := #[t,t] })
 (base:Nat) (e:TypeId) (i:TypeInfo) (z:Value) (size bytes:Nat) (ht:P.underlying t=some (.slice e)) (hi:P.info? e=some i) (hz:i.zero=some z)
 (ae:i.size=size) (aj:i.bytes=bytes) (ah:z.cells.size=size) (ak:0<size)
 (v:Value) (n:Nat) (xs:List Value) (hs:a.eval s=v) (ag:w.ownsRow base e size v n xs)
 (B:Nat) (A:Option Addr) (m c:Nat) (news:List Value) (hx:a.eval x=.slice A m c) (hl:news.length=m*size) (hA:Sl w B A news) (h1:∀u∈news,u.oneCell'=true)
 (ai:n+m≤maxLen) (aa:(n+m)*bytes≤140737488355328) (af:base≤w.heap.size)
 (h:∀v' w',w'.ownsRow base e size v' (n+m) (xs++news)→Below base w w'→w.grownBy w' v.ownBlock→wpList P ops Q rest (a.put o.dst v') w') :
 wpList P ops Q (o::rest) a w :=
 wpList_plain ao fun _ hK=>wp_appendSl w s x t ho base e i z size bytes ht hi hz ae aj ah ak v n xs hs ag B A m c news hx hl hA h1 ai aa af fun v' w' h2 h3 h4=>hK _ _ (h v' w' h2 h3 h4)
theorem step_appendSl {ops:Array Oper} {o:Oper} {a:Act} {K:Act→World→Prop} {Q:Exit→Act→World→Prop} {E:Prop} (w:World) (ao:o.guard=none) (s x:Operand) (t:TypeId)
 (ho:o.op=.call { callee:=.builtin .append,args := #[s,x],argTypes := #[t,t] })
 (base:Nat) (e:TypeId) (i:TypeInfo) (z:Value) (size bytes:Nat) (ht:P.underlying t=some (.slice e)) (hi:P.info? e=some i) (hz:i.zero=some z)
 (ae:i.size=size) (aj:i.bytes=bytes) (ah:z.cells.size=size) (ak:0<size)
 (v:Value) (n:Nat) (xs:List Value) (hs:a.eval s=v) (ag:w.ownsRow base e size v n xs)
 (B:Nat) (A:Option Addr) (m c:Nat) (news:List Value) (hx:a.eval x=.slice A m c) (hl:news.length=m*size) (hA:Sl w B A news) (h1:∀u∈news,u.oneCell'=true)
 (ai:n+m≤maxLen) (aa:(n+m)*bytes≤140737488355328) (af:base≤w.heap.size)
 (h:∀v' w',w'.ownsRow base e size v' (n+m) (xs++news)→Below base w w'→w.grownBy w' v.ownBlock→K (a.put o.dst v') w') :
 if Region.wanted o (yielded ops a.tmps)=true then Oper.wp P o a w K Q else E:=by
 have hw:Region.wanted o (yielded ops a.tmps)=true:=by simp[Region.wanted,ao]
 rw[Zp hw]
 exact wp_appendSl w s x t ho base e i z size bytes ht hi hz ae aj ah ak v n xs hs ag B A m c news hx hl hA h1 ai aa af h
end
theorem oneCells (k:IntKind) (l:List Int):∀u∈l.map (Value.int k),u.oneCell'=true:=ints_oneCell k l
def Slt (w:World) (t:TypeId) (A:Option Addr) (xs:List Value):Prop :=
 0<xs.length→∃b o cs,A=some ⟨b,o,none⟩∧w.heap[b]?=some (.cells cs t (0,0))∧∀i,i<xs.length→cs[o+i]?=xs[i]?
theorem Slt.nil (w:World) (t:TypeId) (A:Option Addr):Slt w t A []:=fun h=>absurd h (by simp)
theorem Slt.sl {w:World} {t:TypeId} {A:Option Addr} {xs:List Value} (h:Slt w t A xs):Sl w w.heap.size A xs:=by
 intro hx
 obtain⟨b,o,cs,hA,hb,hc⟩:=h hx
 exact⟨b,o,hA,heap_lt hb,fun i hi=>by rw[←hc i hi];simp[World.cell?,hb]⟩
theorem Slt.frozen {w:World} {t:TypeId} {b o:Nat} {xs:List Value} (h:Slt w t (some ⟨b,o,none⟩) xs) (hx:0<xs.length) (i:Nat):w.frozen? ⟨b,i,none⟩=false:=by
 obtain⟨b',o',cs,hA,hb,_⟩:=h hx
 simp only[Zi,YO]at hA
 obtain⟨rfl,rfl,_⟩:=hA
 simp[World.frozen?,hb]
theorem Slt.grown {w w':World} {t:TypeId} {A:Option Addr} {xs:List Value} {row:Option Nat} (h:Slt w t A xs) (hg:w.grownBy w' row) (hr:∀k,row=some k→∀cs z,w.heap[k]?≠some (.cells cs t z)):Slt w' t A xs:=by
 intro hx
 obtain⟨b,o,cs,hA,hb,hc⟩:=h hx
 exact⟨b,o,cs,hA,(hg.block b (heap_lt hb) fun e=>hr b e.symm cs (0,0) hb).trans hb,hc⟩
theorem Slt.below {w w':World} {t:TypeId} {A:Option Addr} {xs:List Value} (h:Slt w t A xs) (hb:Below w.heap.size w w'):Slt w' t A xs:=by
 intro hx
 obtain⟨b,o,cs,hA,hh,hc⟩:=h hx
 exact⟨b,o,cs,hA,(hb.block b (heap_lt hh)).trans hh,hc⟩
theorem Slt.of_own {w:World} {base:Nat} {e:TypeId} {size n c:Nat} {A:Option Addr} {xs:List Value} (h:w.ownsRow base e size (.slice A n c) n xs):Slt w e A xs:=by
 intro hx
 obtain⟨hl,h⟩:=h
 rcases h with ⟨hv,hn⟩|⟨g,cap,ae,hv,_,hg,_,_,_,aa⟩
 · subst hn;simp at hl;rw[hl]at hx;simp at hx
 · simp only[Z3]at hv
   obtain⟨hA,_,_⟩:=hv
   refine⟨g,0,ae,hA,hg,fun i hi=>?_⟩
   rw[←aa]
   simp[YG,←hl,hi]
end Go.Proofs.YtikiplbhlohmdaaGreatDoor
namespace Go.Proofs.YtikiplbhlohmdaaGreatDoor
abbrev Rw.Row:=Int × Int × List Int
end Go.Proofs.YtikiplbhlohmdaaGreatDoor
namespace Go.Proofs.YtikiplbhlohmdaaGreatDoor
open Go.RowKit
def Rw.fl:List Rw.Row→List (Option Addr × Nat)→List Value
 | r::rs,a::ads=>.int .i32 r.1::.int .i64 r.2.1::.slice a.1 r.2.2.length a.2::Rw.fl rs ads
 | _,_=>[]
theorem Rw.fl_len:∀(rs:List Rw.Row) (ads:List (Option Addr × Nat)),ads.length=rs.length→(Rw.fl rs ads).length=rs.length*3
 | [],_,_=>by simp[Rw.fl]
 | r::rs,[],h=>by simp at h
 | r::rs,a::ads,h=>by simp[Rw.fl,Rw.fl_len rs ads (by simpa using h)];omega
theorem Rw.fl_app:∀(rs:List Rw.Row) (ads:List (Option Addr × Nat)) (r:Rw.Row) (a:Option Addr × Nat),ads.length=rs.length →
 Rw.fl (rs++[r]) (ads++[a])=Rw.fl rs ads++[.int .i32 r.1,.int .i64 r.2.1,.slice a.1 r.2.2.length a.2]
 | [],[],r,a,_=>rfl
 | [],_::_,_,_,h=>by simp at h
 | q::rs,[],r,a,h=>by simp at h
 | q::rs,b::ads,r,a,h=>by
   simp only[ZQ,Rw.fl]
   rw[Rw.fl_app rs ads r a (by simpa using h)]
def Rw.Maps (w:World) (rs:List Rw.Row) (ads:List (Option Addr × Nat)):Prop:=∀(i:Nat) (r:Rw.Row) (a:Option Addr × Nat),rs[i]?=some r→ads[i]?=some a→Slt w 21 a.1 (r.2.2.map (Value.int .i32))
theorem Rw.Maps.app {w:World} {rs:List Rw.Row} {ads:List (Option Addr × Nat)} (h:Rw.Maps w rs ads) (hl:ads.length=rs.length) {r:Rw.Row} {a:Option Addr × Nat} (hr:Slt w 21 a.1 (r.2.2.map (Value.int .i32))):Rw.Maps w (rs++[r]) (ads++[a]):=by
 intro i q x hq hx
 rcases ZX i rs.length with hi|hi
 · rw[ZW hi]at hq
   rw[ZW (by omega)]at hx
   exact h i q x hq hx
 · rw[ZL hi]at hq
   rw[ZL (by omega)]at hx
   obtain⟨j,hj⟩:∃j,i-rs.length=j:=⟨_,rfl⟩
   rw[hl,hj]at hx
   rw[hj]at hq
   rcases j with _|j
   · simp at hq hx
     subst hq hx
     exact hr
   · simp at hq
theorem Rw.Maps.below {w w':World} {rs:List Rw.Row} {ads:List (Option Addr × Nat)} (h:Rw.Maps w rs ads) (hb:Below w.heap.size w w'):Rw.Maps w' rs ads:=fun i r a h1 h2=>(h i r a h1 h2).below hb
theorem Rw.Maps.grown {w w':World} {rs:List Rw.Row} {ads:List (Option Addr × Nat)} {row:Option Nat} (h:Rw.Maps w rs ads) (hg:w.grownBy w' row) (hr:∀k,row=some k→∀cs z,w.heap[k]?≠some (.cells cs 21 z)):Rw.Maps w' rs ads :=
 fun i r a h1 h2=>(h i r a h1 h2).grown hg hr
theorem Rw.below_grown {b:Nat} {w w':World} {row:Option Nat} (hg:w.grownBy w' row) (hb:b≤w.heap.size) (hr:∀k,row=some k→b≤k):Below b w w':=(Zd b w).grown hg hb hr
theorem Rw.own_not {w:World} {base:Nat} {e t':TypeId} {size n:Nat} {v:Value} {xs:List Value} (h:w.ownsRow base e size v n xs) (hne:e≠t'):∀k,v.ownBlock=some k→∀cs' z,w.heap[k]?≠some (.cells cs' t' z):=by
 intro k hk cs' z e'
 rcases h.2 with ⟨rfl,_⟩|⟨g,cap,aa,rfl,_,hg,_⟩
 · simp[Value.ownBlock]at hk
 · simp only[Value.ownBlock,Zi]at hk
   subst hk
   have:=hg.symm.trans e'
   simp only[Zi,XD]at this
   exact hne this.2.1
theorem Rw.own_one {w:World} {base:Nat} {e:TypeId} {size n:Nat} {v:Value} {xs:List Value} (h:w.ownsRow base e size v n xs):v.oneCell'=true:=by
 obtain⟨A,c,rfl⟩:=own_form h
 rfl
theorem Rw.own_ne {w:World} {base:Nat} {e:TypeId} {size n:Nat} {v:Value} {xs:List Value} (h:w.ownsRow base e size v n xs) (g:Nat) (hg:g<base):v.ownBlock≠some g:=fun hk=>by have:=(h.lt _ hk).1;omega
theorem Rw.own_grown {w w':World} {base:Nat} {e:TypeId} {size n b:Nat} {v:Value} {xs:List Value} (h:w.ownsRow base e size v n xs) (hb:b<base) (hg:w.grownBy w' (some b)):w'.ownsRow base e size v n xs :=
 h.kept hg (by
  rcases h.2 with ⟨rfl,_⟩|⟨g,cap,ae,rfl,aa,_⟩
  · exact .inl rfl
  · refine .inr fun e'=>?_
    simp only[Value.ownBlock,Zi]at e'
    omega)
theorem Rw.fl_get:∀(rs:List Rw.Row) (ads:List (Option Addr × Nat)) (i:Nat) (r:Rw.Row) (a:Option Addr × Nat),rs[i]?=some r→ads[i]?=some a →
 (Rw.fl rs ads)[i*3]?=some (.int .i32 r.1)∧(Rw.fl rs ads)[i*3+1]?=some (.int .i64 r.2.1)∧(Rw.fl rs ads)[i*3+2]?=some (.slice a.1 r.2.2.length a.2)
 | [],_,i,_,_,h,_=>by simp at h
 | _::_,[],i,_,_,_,h=>by simp at h
 | q::rs,b::ads,0,r,a,h,h'=>by simp at h h';subst h h';exact⟨rfl,rfl,rfl⟩
 | q::rs,b::ads,i+1,r,a,h,h'=>by
   have:=Rw.fl_get rs ads i r a (by simpa using h) (by simpa using h')
   rw[show (i+1)*3=i*3+1+1+1 by omega]
   exact this
def Rw.Tab (w:World) (A:Option Addr) (rs:List Rw.Row):Prop:=∃ads,ads.length=rs.length∧Slt w 113 A (Rw.fl rs ads)∧Rw.Maps w rs ads
def Rw.flI:List Rw.Row→List (Option Addr × Nat)→List Value
 | r::rs,a::ads=>.int .i64 r.1::.int .i64 r.2.1::.slice a.1 r.2.2.length a.2::Rw.flI rs ads
 | _,_=>[]
theorem Rw.flI_len:∀(rs:List Rw.Row) (ads:List (Option Addr × Nat)),ads.length=rs.length→(Rw.flI rs ads).length=rs.length*3
 | [],_,_=>by simp[Rw.flI]
 | r::rs,[],h=>by simp at h
 | r::rs,a::ads,h=>by simp[Rw.flI,Rw.flI_len rs ads (by simpa using h)];omega
theorem Rw.flI_get:∀(rs:List Rw.Row) (ads:List (Option Addr × Nat)) (i:Nat) (r:Rw.Row) (a:Option Addr × Nat),rs[i]?=some r→ads[i]?=some a →
 (Rw.flI rs ads)[i*3]?=some (.int .i64 r.1)∧(Rw.flI rs ads)[i*3+1]?=some (.int .i64 r.2.1)∧(Rw.flI rs ads)[i*3+2]?=some (.slice a.1 r.2.2.length a.2)
 | [],_,i,_,_,h,_=>by simp at h
 | _::_,[],i,_,_,_,h=>by simp at h
 | q::rs,b::ads,0,r,a,h,h'=>by simp at h h';subst h h';exact⟨rfl,rfl,rfl⟩
 | q::rs,b::ads,i+1,r,a,h,h'=>by
   have:=Rw.flI_get rs ads i r a (by simpa using h) (by simpa using h')
   rw[show (i+1)*3=i*3+1+1+1 by omega]
   exact this
def Rw.Sees (w:World) (A:Option Addr) (rs:List Rw.Row):Prop:=∃ads:List (Option Addr × Nat),ads.length=rs.length∧Sl w w.heap.size A (Rw.fl rs ads) ∧
 ∀(i:Nat) (r:Rw.Row) (a:Option Addr × Nat),rs[i]?=some r→ads[i]?=some a→Sl w w.heap.size a.1 (r.2.2.map (Value.int .i32))
def Rw.SeesI (w:World) (A:Option Addr) (rs:List Rw.Row):Prop:=∃ads:List (Option Addr × Nat),ads.length=rs.length∧Sl w w.heap.size A (Rw.flI rs ads) ∧
 ∀(i:Nat) (r:Rw.Row) (a:Option Addr × Nat),rs[i]?=some r→ads[i]?=some a→Sl w w.heap.size a.1 (r.2.2.map (Value.int .i64))
theorem Rw.Tab.sees {w:World} {A:Option Addr} {rs:List Rw.Row} (h:Rw.Tab w A rs):Rw.Sees w A rs:=by
 obtain⟨ads,hl,hs,hm⟩:=h
 exact⟨ads,hl,hs.sl,fun i r a h1 h2=>(hm i r a h1 h2).sl⟩
theorem Rw.Sees.below {w w':World} {A:Option Addr} {rs:List Rw.Row} (h:Rw.Sees w A rs) (hb:Below w.heap.size w w'):Rw.Sees w' A rs:=by
 obtain⟨ads,hl,hs,hm⟩:=h
 exact⟨ads,hl,hs.below hb hb.size,fun i r a h1 h2=>(hm i r a h1 h2).below hb hb.size⟩
theorem Rw.SeesI.below {w w':World} {A:Option Addr} {rs:List Rw.Row} (h:Rw.SeesI w A rs) (hb:Below w.heap.size w w'):Rw.SeesI w' A rs:=by
 obtain⟨ads,hl,hs,hm⟩:=h
 exact⟨ads,hl,hs.below hb hb.size,fun i r a h1 h2=>(hm i r a h1 h2).below hb hb.size⟩
theorem Rw.Sees.row {w:World} {A:Option Addr} {rs:List Rw.Row} (h:Rw.Sees w A rs) {i:Nat} {r:Rw.Row} (hr:rs[i]?=some r) :
 ∃(b o:Nat) (a:Option Addr × Nat),A=some ⟨b,o,none⟩∧b<w.heap.size∧w.cell? ⟨b,o+i*3,none⟩=some (.int .i32 r.1)∧w.cell? ⟨b,o+i*3+1,none⟩=some (.int .i64 r.2.1)∧w.cell? ⟨b,o+i*3+2,none⟩=some (.slice a.1 r.2.2.length a.2) ∧
  Sl w w.heap.size a.1 (r.2.2.map (Value.int .i32)):=by
 obtain⟨ads,hl,hs,hm⟩:=h
 have hi:=(List.getElem?_eq_some_iff.1 hr).1
 obtain⟨a,ha⟩:∃a,ads[i]?=some a:=⟨_,Zc (by omega)⟩
 obtain⟨b,o,rfl,hb,hc⟩:=hs (by rw[Rw.fl_len _ _ hl];omega)
 obtain⟨g0,g1,g2⟩:=Rw.fl_get rs ads i r a hr ha
 have hlen:=Rw.fl_len rs ads hl
 refine⟨b,o,a,rfl,hb,?_,?_,?_,hm i r a hr ha⟩
 · rw[hc _ (by omega),g0]
 · rw[Yi,hc _ (by omega),g1]
 · rw[Yi,hc _ (by omega),g2]
theorem Rw.SeesI.row {w:World} {A:Option Addr} {rs:List Rw.Row} (h:Rw.SeesI w A rs) {i:Nat} {r:Rw.Row} (hr:rs[i]?=some r) :
 ∃(b o:Nat) (a:Option Addr × Nat),A=some ⟨b,o,none⟩∧b<w.heap.size∧w.cell? ⟨b,o+i*3,none⟩=some (.int .i64 r.1)∧w.cell? ⟨b,o+i*3+1,none⟩=some (.int .i64 r.2.1)∧w.cell? ⟨b,o+i*3+2,none⟩=some (.slice a.1 r.2.2.length a.2) ∧
  Sl w w.heap.size a.1 (r.2.2.map (Value.int .i64)):=by
 obtain⟨ads,hl,hs,hm⟩:=h
 have hi:=(List.getElem?_eq_some_iff.1 hr).1
 obtain⟨a,ha⟩:∃a,ads[i]?=some a:=⟨_,Zc (by omega)⟩
 obtain⟨b,o,rfl,hb,hc⟩:=hs (by rw[Rw.flI_len _ _ hl];omega)
 obtain⟨g0,g1,g2⟩:=Rw.flI_get rs ads i r a hr ha
 have hlen:=Rw.flI_len rs ads hl
 refine⟨b,o,a,rfl,hb,?_,?_,?_,hm i r a hr ha⟩
 · rw[hc _ (by omega),g0]
 · rw[Yi,hc _ (by omega),g1]
 · rw[Yi,hc _ (by omega),g2]
end Go.Proofs.YtikiplbhlohmdaaGreatDoor
