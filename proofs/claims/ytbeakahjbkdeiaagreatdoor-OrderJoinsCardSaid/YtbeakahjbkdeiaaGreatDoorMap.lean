/- Rows in memory: the program's, the document's. -/
import Derived.Test.YtbeakahjbkdeiaaGreatDoorAl1
import Derived.Test.YtbeakahjbkdeiaaGreatDoorSlt
import Derived.RangeFuncRecord
import Derived.Deep.DeepCutAuto
import Derived.Deep.RegionWith
import Derived.BigRegion
import Derived.BigQuiet
import Derived.Deep.QuietTactic
import Derived.WalkSpells
import Derived.Maps.Own
import Derived.WideKeyArr
namespace Go.Proofs.YtbeakahjbkdeiaaGreatDoor
open Go.RowKit
set_option linter.unusedSimpArgs false
set_option linter.unusedVariables false
def Rw.fl:List Rw.Row→List (Option Addr × Nat)→List Value
 | r::rs,a::ads=>.int .i32 r.1::.int .i64 r.2.1::.slice a.1 r.2.2.length a.2::Rw.fl rs ads
 | _,_=>[]
theorem Rw.fl_len:∀(rs:List Rw.Row) (ads:List (Option Addr × Nat)),ads.length=rs.length→(Rw.fl rs ads).length=rs.length*3
 | [],_,_=>by simp[Rw.fl]
 | r::rs,[],h=>by simp at h
 | r::rs,a::ads,h=>by simp[Rw.fl,Rw.fl_len rs ads (by simpa using h)];omega
theorem Rw.fl_app:∀(rs:List Rw.Row) (ads:List (Option Addr × Nat)) (r:Rw.Row) (a:Option Addr × Nat),ads.length=rs.length →
 Rw.fl (rs++[r]) (ads++[a])=Rw.fl rs ads++[.int .i32 r.1,.int .i64 r.2.1,.slice a.1 r.2.2.length a.2]
 | [],[],r,a,_=>rfl
 | [],_::_,_,_,h=>by simp at h
 | q::rs,[],r,a,h=>by simp at h
 | q::rs,b::ads,r,a,h=>by
   simp only[ZP,Rw.fl]
   rw[Rw.fl_app rs ads r a (by simpa using h)]
def Rw.Maps (w:World) (rs:List Rw.Row) (ads:List (Option Addr × Nat)):Prop:=∀(i:Nat) (r:Rw.Row) (a:Option Addr × Nat),rs[i]?=some r→ads[i]?=some a→Slt w 21 a.1 (r.2.2.map (Value.int .i32))
theorem Rw.Maps.app {w:World} {rs:List Rw.Row} {ads:List (Option Addr × Nat)} (h:Rw.Maps w rs ads) (hl:ads.length=rs.length) {r:Rw.Row} {a:Option Addr × Nat} (hr:Slt w 21 a.1 (r.2.2.map (Value.int .i32))):Rw.Maps w (rs++[r]) (ads++[a]):=by
 intro i q x hq hx
 rcases ZY i rs.length with hi|hi
 · rw[ZU hi]at hq
   rw[ZU (by omega)]at hx
   exact h i q x hq hx
 · rw[ZF hi]at hq
   rw[ZF (by omega)]at hx
   obtain⟨j,hj⟩:∃j,i-rs.length=j:=⟨_,rfl⟩
   rw[hl,hj]at hx
   rw[hj]at hq
   rcases j with _|j
   · simp at hq hx
     subst hq hx
     exact hr
   · simp at hq
theorem Rw.Maps.below {w w':World} {rs:List Rw.Row} {ads:List (Option Addr × Nat)} (h:Rw.Maps w rs ads) (hb:Below w.heap.size w w'):Rw.Maps w' rs ads:=fun i r a h1 h2=>(h i r a h1 h2).below hb
theorem Rw.Maps.grown {w w':World} {rs:List Rw.Row} {ads:List (Option Addr × Nat)} {row:Option Nat} (h:Rw.Maps w rs ads) (hg:w.grownBy w' row) (hr:∀k,row=some k→∀cs z,w.heap[k]?≠some (.cells cs 21 z)):Rw.Maps w' rs ads :=
 fun i r a h1 h2=>(h i r a h1 h2).grown hg hr
theorem Rw.below_grown {b:Nat} {w w':World} {row:Option Nat} (hg:w.grownBy w' row) (hb:b≤w.heap.size) (hr:∀k,row=some k→b≤k):Below b w w':=(Zd b w).grown hg hb hr
theorem Rw.own_not {w:World} {base:Nat} {e t':TypeId} {size n:Nat} {v:Value} {xs:List Value} (h:w.ownsRow base e size v n xs) (hne:e≠t'):∀k,v.ownBlock=some k→∀cs' z,w.heap[k]?≠some (.cells cs' t' z):=by
 intro k hk cs' z e'
 rcases h.2 with ⟨rfl,_⟩|⟨g,cap,aa,rfl,_,hg,_⟩
 · simp[Value.ownBlock]at hk
 · simp only[Value.ownBlock,Zg]at hk
   subst hk
   have:=hg.symm.trans e'
   simp only[Zg,Xr]at this
   exact hne this.2.1
theorem Rw.own_one {w:World} {base:Nat} {e:TypeId} {size n:Nat} {v:Value} {xs:List Value} (h:w.ownsRow base e size v n xs):v.oneCell'=true:=by
 obtain⟨A,c,rfl⟩:=own_form h
 rfl
theorem Rw.own_ne {w:World} {base:Nat} {e:TypeId} {size n:Nat} {v:Value} {xs:List Value} (h:w.ownsRow base e size v n xs) (g:Nat) (hg:g<base):v.ownBlock≠some g:=fun hk=>by have:=(h.lt _ hk).1;omega
theorem Rw.own_grown {w w':World} {base:Nat} {e:TypeId} {size n b:Nat} {v:Value} {xs:List Value} (h:w.ownsRow base e size v n xs) (hb:b<base) (hg:w.grownBy w' (some b)):w'.ownsRow base e size v n xs :=
 h.kept hg (by
  rcases h.2 with ⟨rfl,_⟩|⟨g,cap,aa,rfl,ae,_⟩
  · exact .inl rfl
  · refine .inr fun e'=>?_
    simp only[Value.ownBlock,Zg]at e'
    omega)
theorem Rw.fl_get:∀(rs:List Rw.Row) (ads:List (Option Addr × Nat)) (i:Nat) (r:Rw.Row) (a:Option Addr × Nat),rs[i]?=some r→ads[i]?=some a →
 (Rw.fl rs ads)[i*3]?=some (.int .i32 r.1)∧(Rw.fl rs ads)[i*3+1]?=some (.int .i64 r.2.1)∧(Rw.fl rs ads)[i*3+2]?=some (.slice a.1 r.2.2.length a.2)
 | [],_,i,_,_,h,_=>by simp at h
 | _::_,[],i,_,_,_,h=>by simp at h
 | q::rs,b::ads,0,r,a,h,h'=>by simp at h h';subst h h';exact⟨rfl,rfl,rfl⟩
 | q::rs,b::ads,i+1,r,a,h,h'=>by
   have:=Rw.fl_get rs ads i r a (by simpa using h) (by simpa using h')
   rw[show (i+1)*3=i*3+1+1+1 by omega]
   exact this
def Rw.Tab (w:World) (A:Option Addr) (rs:List Rw.Row):Prop:=∃ads,ads.length=rs.length∧Slt w 103 A (Rw.fl rs ads)∧Rw.Maps w rs ads
def Rw.flI:List Rw.Row→List (Option Addr × Nat)→List Value
 | r::rs,a::ads=>.int .i64 r.1::.int .i64 r.2.1::.slice a.1 r.2.2.length a.2::Rw.flI rs ads
 | _,_=>[]
theorem Rw.flI_len:∀(rs:List Rw.Row) (ads:List (Option Addr × Nat)),ads.length=rs.length→(Rw.flI rs ads).length=rs.length*3
 | [],_,_=>by simp[Rw.flI]
 | r::rs,[],h=>by simp at h
 | r::rs,a::ads,h=>by simp[Rw.flI,Rw.flI_len rs ads (by simpa using h)];omega
theorem Rw.flI_get:∀(rs:List Rw.Row) (ads:List (Option Addr × Nat)) (i:Nat) (r:Rw.Row) (a:Option Addr × Nat),rs[i]?=some r→ads[i]?=some a →
 (Rw.flI rs ads)[i*3]?=some (.int .i64 r.1)∧(Rw.flI rs ads)[i*3+1]?=some (.int .i64 r.2.1)∧(Rw.flI rs ads)[i*3+2]?=some (.slice a.1 r.2.2.length a.2)
 | [],_,i,_,_,h,_=>by simp at h
 | _::_,[],i,_,_,_,h=>by simp at h
 | q::rs,b::ads,0,r,a,h,h'=>by simp at h h';subst h h';exact⟨rfl,rfl,rfl⟩
 | q::rs,b::ads,i+1,r,a,h,h'=>by
   have:=Rw.flI_get rs ads i r a (by simpa using h) (by simpa using h')
   rw[show (i+1)*3=i*3+1+1+1 by omega]
   exact this
def Rw.Sees (w:World) (A:Option Addr) (rs:List Rw.Row):Prop:=∃ads:List (Option Addr × Nat),ads.length=rs.length∧Sl w w.heap.size A (Rw.fl rs ads) ∧
 ∀(i:Nat) (r:Rw.Row) (a:Option Addr × Nat),rs[i]?=some r→ads[i]?=some a→Sl w w.heap.size a.1 (r.2.2.map (Value.int .i32))
def Rw.SeesI (w:World) (A:Option Addr) (rs:List Rw.Row):Prop:=∃ads:List (Option Addr × Nat),ads.length=rs.length∧Sl w w.heap.size A (Rw.flI rs ads) ∧
 ∀(i:Nat) (r:Rw.Row) (a:Option Addr × Nat),rs[i]?=some r→ads[i]?=some a→Sl w w.heap.size a.1 (r.2.2.map (Value.int .i64))
theorem Rw.Tab.sees {w:World} {A:Option Addr} {rs:List Rw.Row} (h:Rw.Tab w A rs):Rw.Sees w A rs:=by
 obtain⟨ads,hl,hs,hm⟩:=h
 exact⟨ads,hl,hs.sl,fun i r a h1 h2=>(hm i r a h1 h2).sl⟩
theorem Rw.Sees.below {w w':World} {A:Option Addr} {rs:List Rw.Row} (h:Rw.Sees w A rs) (hb:Below w.heap.size w w'):Rw.Sees w' A rs:=by
 obtain⟨ads,hl,hs,hm⟩:=h
 exact⟨ads,hl,hs.below hb hb.size,fun i r a h1 h2=>(hm i r a h1 h2).below hb hb.size⟩
theorem Rw.SeesI.below {w w':World} {A:Option Addr} {rs:List Rw.Row} (h:Rw.SeesI w A rs) (hb:Below w.heap.size w w'):Rw.SeesI w' A rs:=by
 obtain⟨ads,hl,hs,hm⟩:=h
 exact⟨ads,hl,hs.below hb hb.size,fun i r a h1 h2=>(hm i r a h1 h2).below hb hb.size⟩
theorem Rw.Sees.row {w:World} {A:Option Addr} {rs:List Rw.Row} (h:Rw.Sees w A rs) {i:Nat} {r:Rw.Row} (hr:rs[i]?=some r) :
 ∃(b o:Nat) (a:Option Addr × Nat),A=some ⟨b,o,none⟩∧b<w.heap.size∧w.cell? ⟨b,o+i*3,none⟩=some (.int .i32 r.1)∧w.cell? ⟨b,o+i*3+1,none⟩=some (.int .i64 r.2.1)∧w.cell? ⟨b,o+i*3+2,none⟩=some (.slice a.1 r.2.2.length a.2) ∧
  Sl w w.heap.size a.1 (r.2.2.map (Value.int .i32)):=by
 obtain⟨ads,hl,hs,hm⟩:=h
 have hi:=(List.getElem?_eq_some_iff.1 hr).1
 obtain⟨a,ha⟩:∃a,ads[i]?=some a:=⟨_,Zc (by omega)⟩
 obtain⟨b,o,rfl,hb,hc⟩:=hs (by rw[Rw.fl_len _ _ hl];omega)
 obtain⟨g0,g1,g2⟩:=Rw.fl_get rs ads i r a hr ha
 have hlen:=Rw.fl_len rs ads hl
 refine⟨b,o,a,rfl,hb,?_,?_,?_,hm i r a hr ha⟩
 · rw[hc _ (by omega),g0]
 · rw[Yh,hc _ (by omega),g1]
 · rw[Yh,hc _ (by omega),g2]
theorem Rw.SeesI.row {w:World} {A:Option Addr} {rs:List Rw.Row} (h:Rw.SeesI w A rs) {i:Nat} {r:Rw.Row} (hr:rs[i]?=some r) :
 ∃(b o:Nat) (a:Option Addr × Nat),A=some ⟨b,o,none⟩∧b<w.heap.size∧w.cell? ⟨b,o+i*3,none⟩=some (.int .i64 r.1)∧w.cell? ⟨b,o+i*3+1,none⟩=some (.int .i64 r.2.1)∧w.cell? ⟨b,o+i*3+2,none⟩=some (.slice a.1 r.2.2.length a.2) ∧
  Sl w w.heap.size a.1 (r.2.2.map (Value.int .i64)):=by
 obtain⟨ads,hl,hs,hm⟩:=h
 have hi:=(List.getElem?_eq_some_iff.1 hr).1
 obtain⟨a,ha⟩:∃a,ads[i]?=some a:=⟨_,Zc (by omega)⟩
 obtain⟨b,o,rfl,hb,hc⟩:=hs (by rw[Rw.flI_len _ _ hl];omega)
 obtain⟨g0,g1,g2⟩:=Rw.flI_get rs ads i r a hr ha
 have hlen:=Rw.flI_len rs ads hl
 refine⟨b,o,a,rfl,hb,?_,?_,?_,hm i r a hr ha⟩
 · rw[hc _ (by omega),g0]
 · rw[Yh,hc _ (by omega),g1]
 · rw[Yh,hc _ (by omega),g2]
set_option maxRecDepth 100000 in
theorem Md.cmp_any (c d:Int) (u v:Value) (w:World) (h1 : -2147483648≤c) (h2:c≤2147483647) (h3 : -2147483648≤d) (h4:d≤2147483647) :
 Calls Tryz.prog 206 #[.agg #[.int .i32 c,u,v],.int .i32 d] w fun e w'=>e=.returned (.int .i64 (c-d))∧Below w.heap.size w w':=by
 have e1:IntKind.i64.wrap c=c:=by rw[Z1];omega
 have e2:IntKind.i64.wrap d=d:=by rw[Z1];omega
 have e3:IntKind.i64.wrap (c-d)=c-d:=by rw[Z1];omega
 have hb:Below w.heap.size w (w.alloc (.cells #[.int .i32 c,u,v] 103)):=(Zd _ _).alloc (Zb _) _
 have HB:=Za hb
 clear hb
 go_enter Tryz.func206,Tryz.ntmps206
 go_wp2_with fail
 go_ret
 exact⟨rfl,HB.out⟩
def Md.Hit (T:List Rw.Row) (d:Int) (i:Nat) (is:Bool):Prop:=(is=true→∃r,T[i]?=some r∧Md.find T d=some r)∧(is=false→Md.find T d=none)
def Md.RetHit (T:List Rw.Row) (d:Int) (w:World) (e:Ending) (w':World):Prop:=∃(i:Nat) (is:Bool),e=.returned (.tuple #[.int .i64 i,.bool is])∧Md.Hit T d i is∧Below w.heap.size w w'
set_option maxRecDepth 100000 in
set_option maxHeartbeats 2000000 in
theorem Md.search_any (A:Option Addr) (n c:Nat) (T:List Rw.Row) (d:Int) (w:World) (hn:T.length=n) (av:n≤1000000) (hr:Md.rises T) (aj:Md.bd T) (h3 : -2147483648≤d) (h4:d≤2147483647) (hA:Rw.Sees w A T) :
 Calls Tryz.prog 205 #[.slice A n c,.int .i32 d,.func (.func 206) #[] #[]] w
  (Md.RetHit T d w):=by
 have HN:=Za hn
 have HR:=Za hr
 have HD:=Za aj
 have HA:=Za hA
 clear hn hr aj hA
 go_enter Tryz.func205,Tryz.ntmps205
 go_wp2_with fail
 go_loopw [9,10] (fun vi vj wr=>∃i j:Nat,i≤j∧j≤n∧vi=.int .i64 i∧vj=.int .i64 j∧(∀t r,t<i→T[t]?=some r→r.1<d)∧(∀t r,j≤t→T[t]?=some r→d≤r.1)∧Below w.heap.size w wr) (fun vi vj _=>(intOf vj).toNat-(intOf vi).toNat)
 case atStart=>exact⟨0,n,by omega,Zb _,rfl,rfl,fun t r ht=>by omega,fun t r ht hx=>by have:=(List.getElem?_eq_some_iff.1 hx).1;have:=HN.out;omega,Zd _ _⟩
 case round =>
  obtain⟨i,j,hij,ar,rfl,rfl,ao,aq,aa⟩:=hrel
  have ap:=Za ao
  have ak:=Za aq
  have HB:=Za aa
  clear ao aq
  by_cases hlt:(i:Int)<j
  · obtain⟨x,hx⟩:∃x,T[(i+j)/2]?=some x:=⟨_,Zc (by rw[HN.out];omega)⟩
    obtain⟨b,o,a,ai,hb,c0,c1,c2,_⟩:=(HA.out.below aa).row hx
    have ah:=(HD.out x (Zk hx)).1
    have hc:=Md.cmp_any x.1 d (.int .i64 x.2.1) (.slice a.1 x.2.2.length a.2) wr ah.1 ah.2 h3 h4
    have HX:=Za hx
    have m0:(0:Int)≤(((i+j)/2:Nat):Int):=by omega
    have m1:(((i+j)/2:Nat):Int)<n:=by omega
    subst ai
    clear aa hx
    go_wp2_with fail
    refine hc.mono ?_
    rintro e w1 ⟨rfl,ae⟩
    have hz:=HB.out.size
    have af:=Za (HB.out.trans (ae.mono hz))
    have au:i<j:=by omega
    clear ae hc c0 c1 c2 hlt
    by_cases hd:x.1-d<0
    · go_wp2_with fail
      refine⟨⟨(i+j)/2+1,j,by omega,ar,by go_num,rfl,fun t r ht hx=>?_,ak.out,af.out⟩,by simp[intOf];omega⟩
      by_cases he:t=(i+j)/2
      · rw[he,HX.out]at hx
        cases hx
        omega
      · have:=Md.rises_get HR.out hx HX.out (by omega)
        omega
    · go_wp2_with fail
      refine⟨⟨i,(i+j)/2,by omega,by omega,rfl,by go_num,ap.out,fun t r ht hx=>?_,af.out⟩,by simp[intOf];omega⟩
      by_cases he:t=(i+j)/2
      · rw[he,HX.out]at hx
        cases hx
        omega
      · have:=Md.rises_get HR.out HX.out hx (by omega)
        omega
  · obtain rfl:i=j:=by omega
    have hcut:=Md.find_cut HR.out d i ap.out ak.out
    by_cases hin:(i:Int)<n
    · obtain⟨x,hx⟩:∃x,T[i]?=some x:=⟨_,Zc (by rw[HN.out];omega)⟩
      obtain⟨b,o,a,ai,hb,c0,c1,c2,_⟩:=(HA.out.below aa).row hx
      have ah:=(HD.out x (Zk hx)).1
      have hc:=Md.cmp_any x.1 d (.int .i64 x.2.1) (.slice a.1 x.2.2.length a.2) wr ah.1 ah.2 h3 h4
      have HX:=Za hx
      rw[hx,Zt]at hcut
      have ag:=Za hcut
      have m0:(0:Int)≤(i:Int):=by omega
      subst ai
      clear aa hx hcut hlt
      go_wp2_with fail
      refine hc.mono ?_
      rintro e w1 ⟨rfl,ae⟩
      have af:=Za (HB.out.trans (ae.mono HB.out.size))
      clear ae hc c0 c1 c2
      rcases hz:(x.1-d == 0) with _|_
      · have hne:¬x.1=d:=fun e=>by simp[e]at hz
        have HH:Hid (Md.Hit T d i false):=Za ⟨fun e=>Bool.noConfusion e,fun _=>by rw[ag.out,Zs hne]⟩
        clear hne
        go_wp2_with fail
        go_ret2
        exact⟨i,false,rfl,HH.out,af.out⟩
      · have he:x.1=d:=by have:=beq_iff_eq.1 hz;omega
        have HH:Hid (Md.Hit T d i true):=Za ⟨fun _=>⟨x,HX.out,by rw[ag.out,Zv he]⟩,fun e=>Bool.noConfusion e⟩
        clear he
        go_wp2_with fail
        go_ret2
        exact⟨i,true,rfl,HH.out,af.out⟩
    · rw[Yg (by rw[HN.out];omega),Option.bind_none]at hcut
      have HH:Hid (Md.Hit T d i false):=Za ⟨fun e=>Bool.noConfusion e,fun _=>hcut⟩
      clear aa hcut hlt
      go_wp2_with fail
      go_ret2
      exact⟨i,false,rfl,HH.out,HB.out⟩
def Rw.At (w:World) (b:Nat) (t:TypeId) (cs:List Value):Prop:=w.heap[b]?=some (.cells cs.toArray t (0,0))
theorem Rw.At.lt {w:World} {b:Nat} {t:TypeId} {cs:List Value} (h:Rw.At w b t cs):b<w.heap.size:=heap_lt h
theorem Rw.At.cell {w:World} {b:Nat} {t:TypeId} {cs:List Value} (h:Rw.At w b t cs) (i:Nat) {v:Value} (hv:cs[i]?=some v):w.cell? ⟨b,i,none⟩=some v:=by
 unfold Rw.At at h
 simp[World.cell?,h,hv]
theorem Rw.At.frozen {w:World} {b:Nat} {t:TypeId} {cs:List Value} (h:Rw.At w b t cs) (i:Nat):w.frozen? ⟨b,i,none⟩=false:=by
 unfold Rw.At at h
 simp[World.frozen?,h]
theorem Rw.At.set {w:World} {b:Nat} {t:TypeId} {cs:List Value} (h:Rw.At w b t cs) (i:Nat) (v:Value):Rw.At (w.setCell ⟨b,i,none⟩ v) b t (cs.set i v):=by
 obtain⟨aa,hk⟩:=Array.getElem?_eq_some_iff.1 h
 show (w.heap.modify b _)[b]?=_
 rw[Xa (by rw[Array.size_modify];exact aa),Array.getElem_modify_self,hk]
 simp
theorem Rw.At.grown {w w':World} {b:Nat} {t:TypeId} {cs:List Value} {row:Option Nat} (h:Rw.At w b t cs) (hg:w.grownBy w' row) (hr:row≠some b):Rw.At w' b t cs :=
 (hg.block b h.lt fun e=>hr e.symm).trans h
theorem Rw.At.below {w w':World} {b:Nat} {t:TypeId} {cs:List Value} (h:Rw.At w b t cs) (hb:Below w.heap.size w w'):Rw.At w' b t cs:=(hb.block b h.lt).trans h
theorem Rw.At.new (w:World) (t:TypeId) (cs:List Value):Rw.At (w.alloc (.cells cs.toArray t)) w.heap.size t cs:=World.alloc_heap_new w _
theorem Rw.grown_below {w w':World} (h:Below w.heap.size w w'):w.grownBy w' none:=⟨h.os,h.tape,h.output,h.size,fun k hk _=>h.block k hk⟩
theorem Rw.At.three {w:World} {b:Nat} {t:TypeId} {u v x:Value} (h:Rw.At w b t [u,v,x]) :
 w.cell? ⟨b,0,none⟩=some u∧w.cell? ⟨b,1,none⟩=some v∧w.cell? ⟨b,2,none⟩=some x∧w.frozen? ⟨b,0,none⟩=false∧w.frozen? ⟨b,1,none⟩=false∧w.frozen? ⟨b,2,none⟩=false :=
 ⟨h.cell 0 rfl,h.cell 1 rfl,h.cell 2 rfl,h.frozen 0,h.frozen 1,h.frozen 2⟩
theorem Rw.At.below' {w w':World} {b B:Nat} {t:TypeId} {cs:List Value} (h:Rw.At w b t cs) (hb:Below B w w') (hB:b<B):Rw.At w' b t cs:=(hb.block b hB).trans h
theorem Rw.At.other {w:World} {b b' i:Nat} {t:TypeId} {cs:List Value} (h:Rw.At w b t cs) (hne:b≠b') (v:Value):Rw.At (w.setCell ⟨b',i,none⟩ v) b t cs :=
 (Ye _ _ _ b hne).trans h
theorem Rw.At.alloc {w:World} {b:Nat} {t:TypeId} {cs:List Value} (h:Rw.At w b t cs) (o:Obj):Rw.At (w.alloc o) b t cs:=(Below.heap_alloc _ _ _ h.lt).trans h
theorem Slt.setAt {w:World} {t t':TypeId} {A:Option Addr} {xs cs:List Value} {b:Nat} (h:Slt w t A xs) (k:Rw.At w b t' cs) (hne:t'≠t) (i:Nat) (v:Value):Slt (w.setCell ⟨b,i,none⟩ v) t A xs:=by
 intro hx
 obtain⟨g,o,cs',hA,hb,hc⟩:=h hx
 refine⟨g,o,cs',hA,(Ye _ _ _ g fun e=>?_).trans hb,hc⟩
 have e:g=b:=e
 subst e
 have:=k.symm.trans hb
 simp only[Zg,Xr]at this
 exact hne this.2.1
theorem Rw.results2 {P:Program} {fn:Func} {p u:Tmp} {ty:TypeId} (h:fn.results = #[.cell p ty,.tmp u]) (tmps:Array Value) (w:World) (g:Nat) (t:TypeId) (cs:Array Value) (fr:Nat × Nat) (d:TypeDesc)
 (hp:tmps.getD p undef=.pointer (some ⟨g,0,none⟩)) (hg:w.heap[g]?=some (.cells cs t fr))
 (hu:P.underlying ty=some d) (hd:(match d with | .struct _ | .array _ _=>true|_=>false)=true) (hi:(P.info? ty).map (·.size)=some cs.size) :
 (results fn tmps).run P w=.ok (.tuple #[.agg cs,tmps.getD u undef]) w:=by
 have aa:tmps[p]?.getD undef=.pointer (some ⟨g,0,none⟩):=by simpa using hp
 simp[results,h,aa,asAddr,run_loadVar_row w g t ty cs fr d hg hu hd hi]
theorem Rw.grown_set {w:World} (b i:Nat) (v:Value):w.grownBy (w.setCell ⟨b,i,none⟩ v) (some b) :=
 ⟨rfl,rfl,rfl,(by show w.heap.size≤(w.heap.modify b _).size;rw[Array.size_modify];exact Zb _),fun k _ hk=>Ye _ _ _ k (fun e=>hk (by rw[show k=b from e]))⟩
theorem Rw.grown_trans {w w' w'':World} {row:Option Nat} (h:w.grownBy w' row) (h':w'.grownBy w'' row):w.grownBy w'' row :=
 ⟨h'.os.trans h.os,h'.tape.trans h.tape,h'.output.trans h.output,Zh h.size h'.size,fun k hk hne=>(h'.block k (Ze hk h.size) hne).trans (h.block k hk hne)⟩
theorem Rw.grown_bel {w w':World} {row:Option Nat} (h:Below w.heap.size w w'):w.grownBy w' row:=⟨h.os,h.tape,h.output,h.size,fun k hk _=>h.block k hk⟩
theorem Rw.grown_row {w w':World} {row:Option Nat} (h:w.grownBy w' none):w.grownBy w' row:=⟨h.os,h.tape,h.output,h.size,fun k hk _=>h.block k hk (by simp)⟩
theorem Rw.At.not {w:World} {b:Nat} {t t':TypeId} {cs:List Value} (h:Rw.At w b t cs) (hne:t≠t'):∀cs' z,w.heap[b]?≠some (.cells cs' t' z):=fun cs' z e=>by
 have:=h.symm.trans e
 simp only[Zg,Xr]at this
 exact hne this.2.1
def Md.tv (A:Option Addr) (n c:Nat) (XA:Option Addr) (xn xc:Nat):Value:=.agg #[.slice A n c,.slice XA xn xc]
def Md.rv (r:Rw.Row) (a:Option Addr × Nat):Value:=.agg #[.int .i32 r.1,.int .i64 r.2.1,.slice a.1 r.2.2.length a.2]
def Md.rowOf (T:List Rw.Row) (d:Int):Rw.Row:=(Md.find T d).getD (0,0,[])
theorem Md.cls_of (T:List Rw.Row) (d:Int):Md.cls T d=(Md.rowOf T d).2.1:=by
 unfold Md.cls Md.rowOf
 cases Md.find T d <;> rfl
theorem Md.rmp_of (T:List Rw.Row) (d:Int):Md.rmp T d=(Md.rowOf T d).2.2:=by
 unfold Md.rmp Md.rowOf
 cases Md.find T d <;> rfl
def Md.RetFind (T:List Rw.Row) (d:Int) (w:World) (e:Ending) (w':World):Prop :=
 ∃a:Option Addr × Nat,e=.returned (.tuple #[Md.rv (Md.rowOf T d) a,.bool (Md.find T d).isSome])∧Sl w' w'.heap.size a.1 ((Md.rowOf T d).2.2.map (Value.int .i32))∧Below w.heap.size w w'
set_option maxRecDepth 100000 in
set_option maxHeartbeats 2000000 in
theorem Md.find_any (A:Option Addr) (n c:Nat) (XA:Option Addr) (xn xc:Nat) (T:List Rw.Row) (d:Int) (w:World) (hn:T.length=n) (a7:n≤1000000) (hr:Md.rises T) (ay:Md.bd T) (h3 : -2147483648≤d) (h4:d≤2147483647) (hA:Rw.Sees w A T) :
 Calls Tryz.prog 158 #[Md.tv A n c XA xn xc,.int .i32 d] w (Md.RetFind T d w):=by
 obtain⟨wa,ao⟩:∃wa,(w.alloc (.cells #[.slice A n c,.slice XA xn xc] 120)).alloc (.cells #[.int .i32 0,.int .i64 0,.slice none 0 0] 103)=wa:=⟨_,rfl⟩
 have av:Below w.heap.size w wa:=by rw[←ao];exact ((Zd _ _).alloc (Zb _) _).alloc (by simp) _
 have ag:Rw.At wa w.heap.size 120 [.slice A n c,.slice XA xn xc]:=by rw[←ao];exact (Rw.At.new w 120 [.slice A n c,.slice XA xn xc]).alloc _
 have ah:Rw.At wa (w.heap.size+1) 103 [.int .i32 0,.int .i64 0,.slice none 0 0]:=by
  have h:=Rw.At.new (w.alloc (.cells #[.slice A n c,.slice XA xn xc] 120)) 103 [.int .i32 0,.int .i64 0,.slice none 0 0]
  rw[ZD]at h
  rw[←ao]
  exact h
 have a8:w.heap.size+1<wa.heap.size:=ah.lt
 have hS:=Md.search_any A n c T d wa hn a7 hr ay h3 h4 (hA.below av)
 have ba:=Za ao
 have HN:=Za hn
 have HA:=Za hA
 have aw:=Za av
 have z0:=ag.cell 0 rfl
 clear ao av hA hr ay hn
 unfold Md.tv
 go_enter Tryz.func158,Tryz.ntmps158
 go_upto_region 1 with (fail)
 rw[ba.out]
 go_wp2_with fail
 refine hS.mono ?_
 rintro e w1 ⟨i,is,rfl,ap,ar⟩
 have au:=ag.below ar
 have aa:=ah.below ar
 have z2:=au.cell 0 rfl
 obtain⟨m1,m2,m3,m4,m5,m6⟩:=aa.three
 have bb:w.heap.size+1<w1.heap.size:=aa.lt
 have ae:=Za (aw.out.trans (ar.mono aw.out.size))
 have aj:=Za ap
 clear ar ap hS z0 ag ah a8
 have ai:=Za aa
 clear aa
 cases is
 · have hf:=aj.out.2 rfl
   have hro:Md.rowOf T d=(0,0,[]):=by unfold Md.rowOf;rw[hf];rfl
   have HF:=Za hf
   have aq:=Za hro
   clear hf hro
   go_wp2_with fail
   have af:=((ai.out.set 0 (.int .i32 0)).set 1 (.int .i64 0)).set 2 (.slice none 0 0)
   refine Yy (Rw.results2 rfl _ _ (w.heap.size+1) _ _ _ _ rfl af Tryz.underlying103 rfl (by kernel_rfl)) rfl ⟨(none,0),?_,?_,?_⟩
   · rw[aq.out,HF.out];rfl
   · rw[aq.out];exact Sl.nil _ _ _
   · exact ((ae.out.setCell (p:=⟨w.heap.size+1,0,none⟩) (by simp) _).setCell (p:=⟨w.heap.size+1,1,none⟩) (by simp) _).setCell (p:=⟨w.heap.size+1,2,none⟩) (by simp) _
 · obtain⟨r,hr,hf⟩:=aj.out.1 rfl
   obtain⟨b,o,a,a6,hb,ax,az,a1,ak⟩:=HA.out.row hr
   have c0:=((bcell ae.out).1 b (o+i*3) hb).trans ax
   have c1:=((bcell ae.out).1 b (o+i*3+1) hb).trans az
   have c2:=((bcell ae.out).1 b (o+i*3+2) hb).trans a1
   have bc:b<w1.heap.size:=Ze hb ae.out.size
   have m0:(0:Int)≤(i:Int):=by omega
   have m7:(i:Int)<n:=by have:=(List.getElem?_eq_some_iff.1 hr).1;have:=HN.out;omega
   have hro:Md.rowOf T d=r:=by unfold Md.rowOf;rw[hf];rfl
   have HF:=Za hf
   have aq:=Za hro
   have HM:=Za ak
   subst a6
   clear hr hf hro ak ax az a1
   go_wp2_with fail
   have af:=((ai.out.set 0 (.int .i32 r.1)).set 1 (.int .i64 r.2.1)).set 2 (.slice a.1 r.2.2.length a.2)
   refine Yy (Rw.results2 rfl _ _ (w.heap.size+1) _ _ _ _ rfl af Tryz.underlying103 rfl (by kernel_rfl)) rfl ⟨a,?_,?_,?_⟩
   · rw[aq.out,HF.out];rfl
   · rw[aq.out]
     exact HM.out.below (((ae.out.setCell (p:=⟨w.heap.size+1,0,none⟩) (by simp) _).setCell (p:=⟨w.heap.size+1,1,none⟩) (by simp) _).setCell (p:=⟨w.heap.size+1,2,none⟩) (by simp) _) (by simpa using ae.out.size)
   · exact ((ae.out.setCell (p:=⟨w.heap.size+1,0,none⟩) (by simp) _).setCell (p:=⟨w.heap.size+1,1,none⟩) (by simp) _).setCell (p:=⟨w.heap.size+1,2,none⟩) (by simp) _
def RetSet (l:List Int) (w:World) (e:Ending) (w':World):Prop :=
 ∃A c,e=.returned (.agg #[.slice A l.length c])∧w'.ownsRow w.heap.size 21 1 (.slice A l.length c) l.length (l.map (Value.int .i32))∧Below w.heap.size w w'
theorem ret_blk {w wr:World} {cs:Array Value} {t:TypeId} (h:Below (w.heap.size+1) (w.alloc (.cells cs t)) wr):wr.heap[w.heap.size]?=some (.cells cs t (0,0))∧Below w.heap.size w wr:=by
 refine⟨(h.block w.heap.size (by omega)).trans (ZT _ _),?_⟩
 exact ((Zd _ _).alloc (Zb _) _).trans (h.mono (by omega))
theorem blk_cell {w:World} {g:Nat} {cs:Array Value} {t:TypeId} (h:w.heap[g]?=some (.cells cs t (0,0))) (i:Nat):w.cell? ⟨g,i,none⟩=cs[i]?∧w.frozen? ⟨g,i,none⟩=false:=by
 constructor
 · simp[World.cell?,h]
 · simp[World.frozen?,h]
theorem own_base {w:World} {base aa:Nat} {e:TypeId} {size n:Nat} {v:Value} {xs:List Value} (h:w.ownsRow base e size v n xs) (hb:aa≤base):w.ownsRow aa e size v n xs:=by
 obtain⟨h1,h2⟩:=h
 refine⟨h1,?_⟩
 rcases h2 with h2|⟨g,cap,ae,hv,hg,r⟩
 · exact .inl h2
 · exact .inr ⟨g,cap,ae,hv,by omega,r⟩
theorem set_cell {w:World} {g:Nat} {u v:Value} {t:TypeId} (h:w.heap[g]?=some (.cells #[u] t (0,0))):(w.setCell ⟨g,0,none⟩ v).heap[g]?=some (.cells #[v] t (0,0)):=by
 simp[World.setCell,YH,h]
def C.par (i:Nat):Bool:=((i:Int)%2 == 1)
theorem C.and_one (i:Nat) (hi:i<9223372036854775808):bits BinOp.and IntKind.i64 (i:Int) 1=((i%2:Nat):Int):=by
 have two63:(2:Int) ^ 63=9223372036854775808:=by decide
 have h:=bits_mask .i64 63 (by decide) (fun n h0 h1=>by rw[two63]at h1;rw[Z1];omega) 1 (by decide) (i:Int) (by omega) (by rw[two63];omega)
 have e:((2:Int) ^ 1-1)=1:=by decide
 rw[e]at h
 rw[h]
 omega
theorem Sl.ints {w:World} {B:Nat} {A:Option Addr} {k:IntKind} {l:List Int} (h:Sl w B A (l.map (Value.int k))) {i:Nat} {x:Int} (hx:l[i]?=some x):∃b o,A=some ⟨b,o,none⟩∧b<B∧w.cell? ⟨b,o+i,none⟩=some (.int k x)∧∀j y,l[j]?=some y→w.cell? ⟨b,o+j,none⟩=some (.int k y):=by
 have hi:i<l.length:=(List.getElem?_eq_some_iff.1 hx).1
 obtain⟨b,o,hA,hb,hc⟩:=h (by rw[Zf];omega)
 have hj:∀j y,l[j]?=some y→w.cell? ⟨b,o+j,none⟩=some (.int k y):=by
  intro j y hy
  have hj:j<l.length:=(List.getElem?_eq_some_iff.1 hy).1
  rw[hc j (by rw[Zf];omega),Zl,hy];rfl
 exact⟨b,o,hA,hb,hj i x hx,hj⟩
theorem C.enter {P:Program} {f:FuncId} {fn:Func} {c:Code} (hf:P.funcs[f]?=some fn) (hname:(fn.name == "runtime.NumGoroutine")=false) (hb:fn.body=some c) (args:Array Value) (w:World) :
 (callFunc f args).run P w=.ok (.enter f args) w:=by
 have h1:fn.name ≠ "runtime.NumGoroutine" := by simpa using hname
 simp[callFunc,hf,h1,hb]
set_option maxRecDepth 100000 in
set_option maxHeartbeats 1000000 in
theorem R.clone_any (A:Option Addr) (n c B:Nat) (l:List Int) (w:World) (hn:l.length=n) (hn':n≤1000000) (hB:B≤w.heap.size) (hA:Sl w B A (l.map (Value.int .i32))) :
 Calls Tryz.prog 62 #[.slice A n c] w fun r w'=>∃A' c',r=.returned (.slice A' n c')∧w'.ownsRow w.heap.size 21 1 (.slice A' n c') n (l.map (Value.int .i32))∧Go.RowKit.Below w.heap.size w w':=by
 obtain⟨j0,hj0,hy0,hy1,hy2⟩:=Yf infoRune
 have HN:=Za hn
 clear hn
 rcases A with _|ad
 · have hl:l=[]:=by
    rcases l with _|⟨x,t⟩
    · rfl
    · obtain⟨b,o,h,_⟩:=hA (by simp)
      cases h
   subst hl
   obtain rfl:0=n:=HN.out
   have heq:∀w,(binOp .eql 25 (.slice none 0 c) (.slice none 0 0)).run Tryz.prog w=.ok (.bool true) w:=fun w=>by kernel_rfl
   go_enter Tryz.func62,Tryz.ntmps62
   go_wp2
   go_ret
   exact⟨none,0,rfl,ZG _ _ _ _,Zd _ _⟩
 · have hal:Go.RowKit.Below w.heap.size w (w.alloc (.cells #[] 21)):=(Zd _ _).alloc (Zb _) _
   have hS:=Za (hA.belowN hal hB (Zb _))
   have heq:∀w,(binOp .eql 25 (.slice (some ad) n c) (.slice none 0 0)).run Tryz.prog w=.ok (.bool false) w:=fun w=>by first|exact Lib.run_eql_slice_nil w _ _ _ _ _ Tryz.underlying25|kernel_rfl|simp[binOp,Op.equal,Op.maxDepth,Op.equalIn,Y9 Tryz.underlying25]
   have hown0:(w.alloc (.cells #[] 21)).ownsRow w.heap.size 21 1 (.slice (some ⟨w.heap.size,0,none⟩) 0 0) 0 []:=⟨rfl,.inr ⟨w.heap.size,0,#[],rfl,Zb _,ZT w _,Zb _,by decide,rfl,rfl⟩⟩
   go_enter Tryz.func62,Tryz.ntmps62
   go_wp2_with (at_builtin;refine wpList_appendSl _ rfl _ _ _ rfl w.heap.size 21 j0 _ 1 4 Tryz.underlying25 hj0 hy0 hy1 hy2 rfl (by omega) _ 0 _ rfl hown0 _ (some ad) n c (l.map (Value.int .i32)) rfl (by rw[Zf,HN.out];omega) hS.out (oneCells _ _) (by simp only[maxLen];omega) (by omega) (by simp) ?_;intro v1 w2 hown2 hb2 _)
   obtain⟨A5,c5,rfl⟩:=own_form hown2
   go_wp2
   go_ret
   rw[Z2]at hown2
   exact⟨A5,c5,by simp,by simpa using hown2,hal.trans hb2⟩
def Md.Ok (T:List Rw.Row):Prop:=T.length≤1000000∧Md.rises T∧Md.bd T∧∀r∈T,r.2.2.length≤1000000
def Md.Is (w:World) (v:Value) (T:List Rw.Row) (S:List Int):Prop:=∃A c XA xc,v=Md.tv A T.length c XA S.length xc∧Rw.Sees w A T∧Sl w w.heap.size XA (S.map (Value.int .i32))
theorem Md.Is.below {w w':World} {v:Value} {T:List Rw.Row} {S:List Int} (h:Md.Is w v T S) (hb:Below w.heap.size w w'):Md.Is w' v T S:=by
 obtain⟨A,c,XA,xc,h1,h2,h3⟩:=h
 exact⟨A,c,XA,xc,h1,h2.below hb,h3.below hb hb.size⟩
theorem Md.find_is {v:Value} {T:List Rw.Row} {S:List Int} {w:World} (d:Int) (ok:Md.Ok T) (h:Md.Is w v T S) (h3 : -2147483648≤d) (h4:d≤2147483647) :
 Calls Tryz.prog 158 #[v,.int .i32 d] w (Md.RetFind T d w):=by
 obtain⟨A,c,XA,xc,rfl,h2,_⟩:=h
 exact Md.find_any A T.length c XA S.length xc T d w rfl ok.1 ok.2.1 ok.2.2.1 h3 h4 h2
set_option maxRecDepth 100000 in
set_option maxHeartbeats 1000000 in
theorem Md.class_any (v:Value) (T:List Rw.Row) (S:List Int) (d:Int) (w:World) (ok:Md.Ok T) (h:Md.Is w v T S) (h3 : -2147483648≤d) (h4:d≤2147483647) :
 Calls Tryz.prog 203 #[v,.int .i32 d] w fun e w'=>e=.returned (.int .i64 (Md.cls T d))∧Below w.heap.size w w':=by
 rw[Md.cls_of]
 have hv:=h
 obtain⟨A,c,XA,xc,rfl,h2,hX⟩:=hv
 obtain⟨xn,ah⟩:∃k,S.length=k:=⟨_,rfl⟩
 obtain⟨n,hn⟩:∃k,T.length=k:=⟨_,rfl⟩
 rw[hn,ah]at h ⊢
 have aa:Below w.heap.size w (w.alloc (.cells #[.slice A n c,.slice XA xn xc] 120)):=(Zd _ _).alloc (Zb _) _
 have ae:Rw.At (w.alloc (.cells #[.slice A n c,.slice XA xn xc] 120)) w.heap.size 120 [.slice A n c,.slice XA xn xc]:=Rw.At.new w 120 [.slice A n c,.slice XA xn xc]
 have hF:=Md.find_is d ok (h.below aa) h3 h4
 have z0:=ae.cell 0 rfl
 have z1:=ae.cell 1 rfl
 have HB:=Za aa
 clear h h2 hX hn ah aa ae ok
 unfold Md.tv at hF ⊢
 go_enter Tryz.func203,Tryz.ntmps203
 go_wp2_with fail
 refine hF.mono ?_
 rintro e w1 ⟨a,rfl,_,af⟩
 have ag:=Za (HB.out.trans (af.mono HB.out.size))
 clear af z0 z1 hF
 unfold Md.rv
 obtain⟨r,hr⟩:∃r,Md.rowOf T d=r:=⟨_,rfl⟩
 rw[hr]
 have HR:=Za hr
 clear hr
 go_wp2_with fail
 go_ret
 rw[HR.out]
 exact⟨rfl,ag.out.alloc ag.out.size _⟩
def Md.RetOwn (l:List Int) (w:World) (e:Ending) (w':World):Prop :=
 ∃A c,e=.returned (.slice A l.length c)∧w'.ownsRow w.heap.size 21 1 (.slice A l.length c) l.length (l.map (Value.int .i32))∧Below w.heap.size w w'
set_option maxRecDepth 100000 in
set_option maxHeartbeats 1000000 in
theorem Md.map_any (v:Value) (T:List Rw.Row) (S:List Int) (d:Int) (w:World) (ok:Md.Ok T) (h:Md.Is w v T S) (h3 : -2147483648≤d) (h4:d≤2147483647) :
 Calls Tryz.prog 202 #[v,.int .i32 d] w (Md.RetOwn (Md.mp T d) w):=by
 have hv:=h
 obtain⟨A,c,XA,xc,rfl,h2,hX⟩:=hv
 obtain⟨xn,av⟩:∃k,S.length=k:=⟨_,rfl⟩
 obtain⟨n,hn⟩:∃k,T.length=k:=⟨_,rfl⟩
 rw[hn,av]at h ⊢
 have ai:Below w.heap.size w (w.alloc (.cells #[.slice A n c,.slice XA xn xc] 120)):=(Zd _ _).alloc (Zb _) _
 have aj:Rw.At (w.alloc (.cells #[.slice A n c,.slice XA xn xc] 120)) w.heap.size 120 [.slice A n c,.slice XA xn xc]:=Rw.At.new w 120 [.slice A n c,.slice XA xn xc]
 have hF:=Md.find_is d ok (h.below ai) h3 h4
 have z0:=aj.cell 0 rfl
 have z1:=aj.cell 1 rfl
 have HB:=Za ai
 have ar:=Md.mp_bd ok.2.2.1 d
 have hlen:(Md.rowOf T d).2.2.length≤1000000:=by
  unfold Md.rowOf
  cases hf:Md.find T d with
  | none=>exact Zz _
  | some r=>exact ok.2.2.2 r (Md.find_some hf).1
 have HP:=Za (Hg.pair_any d (w.alloc (.cells #[.slice A n c,.slice XA xn xc] 120)) h3 h4)
 obtain⟨m,hm⟩:∃m,Md.mp T d=m:=⟨_,rfl⟩
 rw[hm]at ar ⊢
 have HM:=Za hm
 rcases hpk:Hg.pairK d with ⟨x,y,is⟩
 have hp:=HP.out
 rw[hpk]at hp
 have ag:=Za hpk
 clear h h2 hX hn av ai aj ok hm hpk HP
 unfold Md.tv at hF ⊢
 cases is
 · have af:m=(Md.rowOf T d).2.2:=by
    rw[←HM.out,←Md.rmp_of]
    unfold Md.mp
    rw[ag.out,Zs (by simp)]
   obtain⟨r,hr⟩:∃r,Md.rowOf T d=r:=⟨_,rfl⟩
   unfold Md.RetFind at hF
   rw[hr]at af hlen hF
   subst af
   clear hr HM ag ar
   go_enter Tryz.func202,Tryz.ntmps202
   go_wp2_with fail
   refine hp.mono ?_
   rintro e w0 ⟨rfl,rfl⟩
   go_wp2_with fail
   refine hF.mono ?_
   rintro e w1 ⟨a,rfl,aq,ao⟩
   have ap:=Za (HB.out.trans (ao.mono HB.out.size))
   have ah:Below w1.heap.size w1 (w1.alloc (.cells #[.int .i32 r.1,.int .i64 r.2.1,.slice a.1 r.2.2.length a.2] 103)):=(Zd _ _).alloc (Zb _) _
   have hC:=R.clone_any a.1 r.2.2.length a.2 _ r.2.2 _ rfl hlen (Zb _) (aq.below ah ah.size)
   have ak:=Za (ap.out.trans (ah.mono ap.out.size))
   clear ao z0 z1 hF aq ah hp
   unfold Md.rv
   go_wp2_with fail
   refine hC.mono ?_
   rintro e w2 ⟨A',c',rfl,ae,au⟩
   have HO:=Za (own_base ae ak.out.size)
   have aw:=Za (ak.out.trans (au.mono ak.out.size))
   clear ae au hC
   go_wp2_with fail
   go_ret
   exact⟨A',c',rfl,HO.out,aw.out⟩
 · have af:m=[x,y]:=by
    rw[←HM.out]
    unfold Md.mp
    rw[ag.out,Zv rfl]
   subst af
   clear HM ag hF hlen
   go_enter Tryz.func202,Tryz.ntmps202
   go_wp2_with fail
   refine hp.mono ?_
   rintro e w0 ⟨rfl,rfl⟩
   go_wp2_with fail
   go_ret
   have aa:=ZT (w.alloc (.cells #[.slice A n c,.slice XA xn xc] 120)) (.cells #[.int .i32 x,.int .i32 y] 21)
   rw[ZD]at aa
   exact⟨_,_,rfl,⟨rfl,.inr ⟨_,_,#[.int .i32 x,.int .i32 y],rfl,ZW _,aa,Zb _,by decide,rfl,rfl⟩⟩,HB.out.alloc HB.out.size _⟩
set_option maxRecDepth 100000 in
theorem Pg.in_any (c:Int) (w:World):Calls Tryz.prog 123 #[.int .i32 c] w fun e w'=>e=.returned (.bool (decide (0≤c∧c≤1114111)))∧w=w':=by
 go_enter Tryz.func123,Tryz.ntmps123
 by_cases h0:0≤c
 · by_cases h1:c≤1114111
   · go_wp2
     go_ret
     exact⟨ret_bool (by simp;omega),rfl⟩
   · go_wp2
     go_ret
     exact⟨ret_bool (by simp;omega),rfl⟩
 · go_wp2
   go_ret
   exact⟨ret_bool (by simp;omega),rfl⟩
theorem Pg.and_8 (n:Int) (h0:0≤n) (h1:n≤1114111):bits .and .i32 n 255=n%256:=by
 have hm:(BitVec.ofInt 32 255).toNat=2 ^ 8-1:=by decide
 have key:(BitVec.ofInt 32 n &&& BitVec.ofInt 32 255).toNat=(n%((2 ^ 32:Nat):Int)).toNat%2 ^ 8:=by
  rw[BitVec.toNat_and,XJ,hm,YF]
 show IntKind.i32.wrap ((BitVec.ofInt 32 n &&& BitVec.ofInt 32 255).toNat:Nat)=n%256
 rw[key,XE]
 omega
def Pg.Is (w:World) (v:Value) (idx:List Int) (bl:List (List Int)):Prop :=
 ∃g A c,v=.pointer (some ⟨g,0,none⟩)∧Rw.At w g 187 (idx.map (Value.int .u16)++[.slice A bl.length c])∧Sl w w.heap.size A (bl.flatten.map (Value.int .u16))
def Pg.Of (w:World) (v:Value) (f:Int→Int):Prop:=Pg.Is w v (Pg.idx f 4352) (Pg.bls f 4352)
theorem Pg.Is.below {w w':World} {v:Value} {idx:List Int} {bl:List (List Int)} (h:Pg.Is w v idx bl) (hb:Below w.heap.size w w'):Pg.Is w' v idx bl:=by
 obtain⟨g,A,c,hv,ha,hs⟩:=h
 exact⟨g,A,c,hv,ha.below hb,hs.below hb hb.size⟩
theorem Pg.cell_last {w:World} {g:Nat} {t:TypeId} {xs:List Value} {v:Value} (h:Rw.At w g t (xs++[v])) {n:Nat} (hn:xs.length=n):w.cell? ⟨g,n,none⟩=some v :=
 h.cell n (by rw[ZF (by omega),hn,Yu];rfl)
theorem Pg.cell_at {w:World} {g:Nat} {t:TypeId} {xs:List Value} {v u:Value} (h:Rw.At w g t (xs++[v])) {n:Nat} (hn:xs[n]?=some u):w.cell? ⟨g,n,none⟩=some u :=
 h.cell n (by rw[ZU (List.getElem?_eq_some_iff.1 hn).1];exact hn)
def Pg.get (f:Int→Int) (c:Int):Int:=if 0≤c∧c≤1114111 then f c else 0
set_option maxRecDepth 100000 in
set_option maxHeartbeats 4000000 in
theorem Pg.get_any (v:Value) (f:Int→Int) (c:Int) (w:World) (h:Pg.Of w v f) :
 Calls Tryz.prog 80 #[v,.int .i32 c] w fun e w'=>e=.returned (.int .u16 (Pg.get f c))∧Below w.heap.size w w':=by
 obtain⟨g,A,cp,rfl,ae,hs⟩:=h
 obtain⟨o,ho⟩:∃o,Pg.get f c=o:=⟨_,rfl⟩
 rw[ho]
 by_cases hc:0≤c∧c≤1114111
 · obtain⟨N,hN⟩:∃N:Nat,c/256=N:=⟨(c/256).toNat,by omega⟩
   obtain⟨M,hM⟩:∃M:Nat,c%256=M:=⟨(c%256).toNat,by omega⟩
   have av:N<4352:=by omega
   have au:M<256:=by omega
   have af:c=256*(N:Int)+M:=by omega
   have hand:=Pg.and_8 c hc.1 hc.2
   rw[hM]at hand
   have aa:=(Pg.bls_mem f 4352 (Pg.blk f N)).2 (.inr ⟨N,av,rfl⟩)
   have ak:=Pg.idx_get f 4352 av
   have ap:=Pg.at_lt aa
   have ai:=Pg.at_get aa
   have aq:=Pg.bls_len f 4352
   obtain⟨p,hp⟩:∃p,Pg.at (Pg.bls f 4352) (Pg.blk f N)=p:=⟨_,rfl⟩
   rw[hp]at ak ap ai
   have ao:=Pg.flat_get (Pg.bls f 4352) p M _ (Pg.bls_len256 f 4352) ai au
   rw[Pg.blk_get f N au]at ao
   obtain⟨bn,ah⟩:∃bn,(Pg.bls f 4352).length=bn:=⟨_,rfl⟩
   rw[ah]at ap aq ae
   have z0:=Pg.cell_at ae (n:=N) (u:=.int .u16 p) (by rw[Zl,ak];rfl)
   have z1:=Pg.cell_last ae (n:=4352) (by rw[Zf,Pg.idx_len])
   obtain⟨b,o',rfl,hb,ar⟩:=hs (by rw[Zf,Pg.flat_len _ (Pg.bls_len256 f 4352),ah];omega)
   have aj:=ar (p*256+M) (by rw[Zf,Pg.flat_len _ (Pg.bls_len256 f 4352),ah];omega)
   rw[Zl,ao,Zn,←af]at aj
   have ag:f c=o:=by rw[←ho];unfold Pg.get;rw[if_pos hc]
   rw[ag]at aj
   have hI:=Pg.in_any c w
   rw[Zo hc]at hI
   have HI:=Za hI
   have az:(N:Int)<4352:=by omega
   have ax:(0:Int)≤N:=by omega
   have aw:(M:Int)<256:=by omega
   have a6:(0:Int)≤M:=by omega
   have ay:(p:Int)<bn:=by omega
   have a1:(0:Int)≤p:=by omega
   have a7:=ae.lt
   rw[←Yh]at aj
   clear hI ho hc hM af aa ak ai hp ao ah hs ar ag aq ae
   go_enter Tryz.func80,Tryz.ntmps80
   go_wp2_with fail
   refine HI.out.mono ?_
   rintro e w1 ⟨rfl,rfl⟩
   go_wp2_with fail
   go_quiet (fail)
   go_wp2_with fail
   go_ret
   exact⟨rfl,below_drewN (Zd _ _) _⟩
 · have ag:o=0:=by rw[←ho];unfold Pg.get;rw[if_neg hc]
   subst ag
   have hI:=Pg.in_any c w
   rw[Zu hc]at hI
   have HI:=Za hI
   clear hI ho hc ae hs
   go_enter Tryz.func80,Tryz.ntmps80
   go_wp2_with fail
   refine HI.out.mono ?_
   rintro e w1 ⟨rfl,rfl⟩
   go_wp2_with fail
   go_ret
   exact⟨rfl,Zd _ _⟩
open Go.ChangeMaps (setBlock modify_eq_set)
open Go.ChangeMaps
set_option linter.unusedSimpArgs false
set_option linter.unusedVariables false
def Mp.Is (P:Program) (k:TypeId) (w:World) (b:Nat) (F:Value→Option Value):Prop :=
 ∃es clock,w.heap[b]?=some (.map es clock)∧(∀e∈es.toList,∃l,keyOf P k e.key=some l)∧(es.toList.Pairwise fun x y=>x.key≠y.key)∧∀x v,F x=some v↔∃e∈es.toList,e.key=x∧e.val=v
section
variable {P:Program} {k:TypeId} {w:World} {b:Nat} {F:Value→Option Value}
theorem Mp.Is.made (w:World) (P:Program) (k:TypeId):Mp.Is P k (w.alloc (.map #[] 0)) w.heap.size fun _=>none :=
 ⟨#[],0,ZT w _,fun e he=>by simp at he,by simp,fun x v=>by simp⟩
theorem Mp.Is.lt (h:Mp.Is P k w b F):b<w.heap.size:=by
 obtain⟨es,c,hb,_⟩:=h
 exact heap_lt hb
theorem Mp.Is.below {w':World} (h:Mp.Is P k w b F) (hb:Below w.heap.size w w'):Mp.Is P k w' b F:=by
 have aa:=h.lt
 obtain⟨es,c,hh,r⟩:=h
 exact⟨es,c,(hb.block b aa).trans hh,r⟩
theorem Mp.Is.grown {w':World} {row:Option Nat} (h:Mp.Is P k w b F) (hg:w.grownBy w' row) (hne:some b≠row):Mp.Is P k w' b F:=by
 have aa:=h.lt
 obtain⟨es,c,hh,r⟩:=h
 exact⟨es,c,(hg.block b aa hne).trans hh,r⟩
theorem Mp.Is.look {t e:TypeId} (h:Mp.Is P k w b F) (K:Go.Maps.Keyed P k) (ht:P.underlying t=some (.map k e)) {z:Value} (hz:(zeroValue e).run P w=.ok z w) {x:Value} {l:Lit} (hk:keyOf P k x=some l) (c:Bool) :
 (Instr.lookup t (.map (some b)) x c).run P w=.ok (if c=true then .tuple #[(F x).getD z,.bool (F x).isSome] else (F x).getD z) w:=by
 obtain⟨es,clock,hb,hks,hap,hF⟩:=h
 rcases K.find w hk es.toList hks with ⟨h1,h2⟩|⟨j,e0,h1,h2,h3⟩
 · have hn:F x=none:=by
    cases hx:F x with
    | none=>rfl
    | some v =>
      obtain⟨e,he,hek,_⟩:=(hF x v).1 hx
      exact absurd hek (h2 e he)
   rw[hn]
   simp[Instr.lookup,Y9 ht,Xl hb,K.check w _ hk,h1,hz,Result.andThen]
 · have hn:F x=some e0.val:=(hF x _).2 ⟨e0,Zk h2,h3,rfl⟩
   rw[hn]
   simp[Instr.lookup,Y9 ht,Xl hb,K.check w _ hk,h1,Result.andThen]
theorem Mp.Is.put {t e:TypeId} (h:Mp.Is P k w b F) (K:Go.Maps.Keyed P k) (ht:P.underlying t=some (.map k e)) {x v:Value} {l:Lit} (hk:keyOf P k x=some l) (F':Value→Option Value) (h1:F' x=some v) (h2:∀y,y≠x→F' y=F y) :
 ∃w',(Instr.mapUpdate t (.map (some b)) x v).run P w=.ok () w'∧Mp.Is P k w' b F'∧w.grownBy w' (some b):=by
 obtain⟨es,clock,hb,hks,hap,hF⟩:=h
 rcases K.find w hk es.toList hks with ⟨g1,g2⟩|⟨j,e0,g1,g2,g3⟩
 · refine⟨setBlock w b (.map (es.push ⟨x,v,clock⟩) (clock+1)),?_,⟨es.push ⟨x,v,clock⟩,clock+1,Go.ChangeMaps.heap_setBlock_same hb _,?_,?_,?_⟩,⟨rfl,rfl,rfl,by simp[setBlock],fun i _ hi=>Go.ChangeMaps.heap_setBlock_other hb _ (fun e=>hi (by rw[e]))⟩⟩
   · simp[Instr.mapUpdate,Y9 ht,Xl hb,K.check w false hk,g1,MapKept.run_setObj_map _ hb,Result.andThen,setBlock]
   · intro e he
     rw[Array.toList_push]at he
     rcases List.mem_append.1 he with he|he
     · exact hks e he
     · rw[Zy]at he
       subst he
       exact⟨l,hk⟩
   · rw[Array.toList_push,List.pairwise_append]
     refine⟨hap,by simp,fun a ha c hc=>?_⟩
     rw[Zy]at hc
     subst hc
     exact g2 a ha
   · intro y u
     rw[Array.toList_push]
     by_cases hy:y=x
     · subst hy
       rw[h1]
       constructor
       · intro hu
         cases hu
         exact⟨_,List.mem_append_right _ (List.mem_singleton.2 rfl),rfl,rfl⟩
       · rintro⟨a,ha,hk',hv⟩
         rcases List.mem_append.1 ha with ha|ha
         · exact absurd hk' (g2 a ha)
         · rw[Zy]at ha
           subst ha
           exact Z5 some hv
     · rw[h2 y hy,hF y u]
       constructor
       · rintro⟨a,ha,r⟩
         exact⟨a,List.mem_append_left _ ha,r⟩
       · rintro⟨a,ha,hk',hv⟩
         rcases List.mem_append.1 ha with ha|ha
         · exact⟨a,ha,hk',hv⟩
         · rw[Zy]at ha
           subst ha
           exact absurd hk'.symm hy
 · have hj:es[j]?=some e0:=by simpa using g2
   have hjl:j<es.toList.length:=(List.getElem?_eq_some_iff.1 g2).1
   have hlist:(es.modify j (fun e'=>{ e' with key:=x,val:=v })).toList=es.toList.set j { e0 with key:=x,val:=v }:=by rw[Array.toList_modify,modify_eq_set _ _ _ _ g2]
   have who:∀a∈es.toList.set j { e0 with key:=x,val:=v },a={ e0 with key:=x,val:=v }∨(a∈es.toList∧a.key≠x):=by
    intro a ha
    obtain⟨i,hi,ex⟩:=Xf ha
    rw[List.getElem_set]at ex
    split at ex
    · exact .inl ex.symm
    · rename_i hne
      have hi':i<es.toList.length:=by simpa using hi
      refine .inr ⟨ex▸List.getElem_mem hi',?_⟩
      have h0:es.toList[j]=e0:=(List.getElem?_eq_some_iff.1 g2).2
      rcases ZY i j with hl|hl
      · have:=List.pairwise_iff_getElem.1 hap i j hi' hjl hl
        rw[ex,h0,g3]at this
        exact this
      · have:=List.pairwise_iff_getElem.1 hap j i hjl hi' (by omega)
        rw[ex,h0,g3]at this
        exact this.symm
   have old:∀a∈es.toList,a.key≠x→a∈es.toList.set j { e0 with key:=x,val:=v }:=by
    intro a ha hne
    obtain⟨i,hi,ex⟩:=Xf ha
    refine List.mem_iff_getElem.2 ⟨i,by simpa using hi,?_⟩
    rw[List.getElem_set,Zs,ex]
    intro e
    subst e
    have h0:es.toList[j]=e0:=(List.getElem?_eq_some_iff.1 g2).2
    rw[h0]at ex
    exact hne (by rw[←ex,g3])
   have new:{ e0 with key:=x,val:=v }∈es.toList.set j { e0 with key:=x,val:=v }:=List.mem_iff_getElem.2 ⟨j,by simpa using hjl,by simp⟩
   refine⟨setBlock w b (.map (es.modify j (fun e'=>{ e' with key:=x,val:=v })) clock),?_,⟨es.modify j (fun e'=>{ e' with key:=x,val:=v }),clock,Go.ChangeMaps.heap_setBlock_same hb _,?_,?_,?_⟩,⟨rfl,rfl,rfl,by simp[setBlock],fun i _ hi=>Go.ChangeMaps.heap_setBlock_other hb _ (fun e=>hi (by rw[e]))⟩⟩
   · simp[Instr.mapUpdate,Y9 ht,Xl hb,K.check w false hk,g1,hj,g3,K.stays w hk,MapKept.run_setObj_map _ hb,Result.andThen,setBlock]
   · intro a ha
     rw[hlist]at ha
     rcases who a ha with rfl|⟨ha,_⟩
     · exact⟨l,hk⟩
     · exact hks a ha
   · rw[hlist]
     refine List.pairwise_iff_getElem.2 fun i i' hi hi' hlt=>?_
     rw[Xc]at hi hi'
     rw[List.getElem_set,List.getElem_set]
     have h0:es.toList[j]=e0:=(List.getElem?_eq_some_iff.1 g2).2
     have hp:=List.pairwise_iff_getElem.1 hap i i' hi hi' hlt
     by_cases hji:j=i
     · subst hji
       rw[Zv rfl,Zs (by omega)]
       rw[h0,g3]at hp
       exact hp
     · rw[Zs hji]
       by_cases hji':j=i'
       · subst hji'
         rw[Zv rfl]
         rw[h0,g3]at hp
         exact hp
       · rw[Zs hji']
         exact hp
   · intro y u
     rw[hlist]
     by_cases hy:y=x
     · subst hy
       rw[h1]
       constructor
       · intro hu
         cases hu
         exact⟨_,new,rfl,rfl⟩
       · rintro⟨a,ha,hk',hv⟩
         rcases who a ha with rfl|⟨_,hne⟩
         · exact Z5 some hv
         · exact absurd hk' hne
     · rw[h2 y hy,hF y u]
       constructor
       · rintro⟨a,ha,hk',hv⟩
         exact⟨a,old a ha (by rw[hk'];exact hy),hk',hv⟩
       · rintro⟨a,ha,hk',hv⟩
         rcases who a ha with rfl|⟨ha,_⟩
         · exact absurd hk'.symm hy
         · exact⟨a,ha,hk',hv⟩
theorem Mp.mapM_some {α β:Type} {f:α→Option β}:∀{l:List α},(∀x∈l,∃y,f x=some y)→∃ys,l.mapM f=some ys
 | [],_=>⟨[],rfl⟩
 | x::l,h=>by
   obtain⟨y,hy⟩:=h x Zw
   obtain⟨ys,aa⟩:=Mp.mapM_some fun z hz=>h z (ZB _ hz)
   exact⟨y::ys,by simp[List.mapM_cons,hy,aa]⟩
theorem Mp.keyArr {e:TypeId} {n:Nat} {q:IntKind} (A:Go.WideMaps.ArrKey P k e n) (he:P.underlying e=some (.int q)) (hsz:∃m,P.types.size=m+1) (xs:List Int) (hn:xs.length=n) (hw:∀x∈xs,(Lit.int q x).wf=true) :
 ∃l,keyOf P k (.agg (xs.map (Value.int q)).toArray)=some l:=by
 obtain⟨m,hm⟩:=hsz
 have hform:(Value.agg (xs.map (Value.int q)).toArray).formed P k=true:=by
  unfold Value.formed
  rw[A.hu]
  simp[A.size,hn]
 have hlits:∃ls,P.keyLits (P.types.size+1) k (xs.map (Value.int q))=some ls:=by
  have hmap:∃ys,((List.range n).mapM fun i=>P.keyLits P.types.size e (((xs.map (Value.int q)).drop (i*P.cellsOf e)).take (P.cellsOf e)))=some ys:=by
   refine Mp.mapM_some fun i hi=>?_
   rw[List.mem_range]at hi
   have hi':i<xs.length:=by omega
   have hx:(((xs.map (Value.int q)).drop (i*P.cellsOf e)).take (P.cellsOf e))=[.int q xs[i]]:=by
    rw[A.one,Nat.mul_one,List.drop_eq_getElem_cons (by simpa using hi')]
    simp
   rw[hx,hm]
   unfold Program.keyLits
   rw[he]
   simp[hw xs[i] (List.getElem_mem hi')]
  obtain⟨ys,hys⟩:=hmap
  unfold Program.keyLits
  rw[A.hu]
  simp only[Zf,hn,A.size,Yp]
  rw[hys]
  exact⟨_,rfl⟩
 obtain⟨ls,hls⟩:=hlits
 unfold keyOf
 rw[A.hu]
 simp only[A.keyType ⟨m,hm⟩,hform,Bool.and_self,Yp,Value.cells]
 rw[hls]
 exact⟨_,rfl⟩
end
end Go.Proofs.YtbeakahjbkdeiaaGreatDoor
