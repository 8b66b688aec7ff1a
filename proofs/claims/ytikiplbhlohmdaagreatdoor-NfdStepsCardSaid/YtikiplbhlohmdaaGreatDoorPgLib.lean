/- The layer model: the search in a table, by walking its text. -/
import Derived.Test.YtikiplbhlohmdaaGreatDoorUdPlain
set_option linter.unusedVariables false
set_option linter.unusedSimpArgs false
namespace Go.Proofs.YtikiplbhlohmdaaGreatDoor
open Go.RowKit
set_option maxRecDepth 100000 in
theorem Md.cmp_any (c d:Int) (u v:Value) (w:World) (h1 : -2147483648≤c) (h2:c≤2147483647) (h3 : -2147483648≤d) (h4:d≤2147483647) :
 Calls Tryz.prog 156 #[.agg #[.int .i32 c,u,v],.int .i32 d] w fun e w'=>e=.returned (.int .i64 (c-d))∧Below w.heap.size w w':=by
 have e1:IntKind.i64.wrap c=c:=by rw[Z0];omega
 have e2:IntKind.i64.wrap d=d:=by rw[Z0];omega
 have e3:IntKind.i64.wrap (c-d)=c-d:=by rw[Z0];omega
 have hb:Below w.heap.size w (w.alloc (.cells #[.int .i32 c,u,v] 113)):=(Zd _ _).alloc (Zb _) _
 have HB:=Za hb
 clear hb
 go_enter Tryz.func156,Tryz.ntmps156
 go_wp2_with fail
 go_ret
 exact⟨rfl,HB.out⟩
def Md.Hit (T:List Rw.Row) (d:Int) (i:Nat) (is:Bool):Prop:=(is=true→∃r,T[i]?=some r∧Md.find T d=some r)∧(is=false→Md.find T d=none)
def Md.RetHit (T:List Rw.Row) (d:Int) (w:World) (e:Ending) (w':World):Prop:=∃(i:Nat) (is:Bool),e=.returned (.tuple #[.int .i64 i,.bool is])∧Md.Hit T d i is∧Below w.heap.size w w'
set_option maxRecDepth 100000 in
set_option maxHeartbeats 2000000 in
theorem Md.search_any (A:Option Addr) (n c:Nat) (T:List Rw.Row) (d:Int) (w:World) (hn:T.length=n) (au:n≤1000000) (hr:Md.rises T) (hbd:Md.bd T) (h3 : -2147483648≤d) (h4:d≤2147483647) (hA:Rw.Sees w A T) :
 Calls Tryz.prog 155 #[.slice A n c,.int .i32 d,.func (.func 156) #[] #[]] w
  (Md.RetHit T d w):=by
 have HN:=Za hn
 have HR:=Za hr
 have HD:=Za hbd
 have HA:=Za hA
 clear hn hr hbd hA
 go_enter Tryz.func155,Tryz.ntmps155
 go_wp2_with fail
 go_loopw [9,10] (fun vi vj wr=>∃i j:Nat,i≤j∧j≤n∧vi=.int .i64 i∧vj=.int .i64 j∧(∀t r,t<i→T[t]?=some r→r.1<d)∧(∀t r,j≤t→T[t]?=some r→d≤r.1)∧Below w.heap.size w wr) (fun vi vj _=>(intOf vj).toNat-(intOf vi).toNat)
 case atStart=>exact⟨0,n,by omega,Zb _,rfl,rfl,fun t r ht=>by omega,fun t r ht hx=>by have:=(List.getElem?_eq_some_iff.1 hx).1;have:=HN.out;omega,Zd _ _⟩
 case round =>
  obtain⟨i,j,hij,aq,rfl,rfl,ap,aj,aa⟩:=hrel
  have ao:=Za ap
  have ak:=Za aj
  have HB:=Za aa
  clear ap aj
  by_cases hlt:(i:Int)<j
  · obtain⟨x,hx⟩:∃x,T[(i+j)/2]?=some x:=⟨_,Zc (by rw[HN.out];omega)⟩
    obtain⟨b,o,a,ai,hb,c0,c1,c2,_⟩:=(HA.out.below aa).row hx
    have ah:=(HD.out x (Zk hx)).1
    have hc:=Md.cmp_any x.1 d (.int .i64 x.2.1) (.slice a.1 x.2.2.length a.2) wr ah.1 ah.2 h3 h4
    have HX:=Za hx
    have m0:(0:Int)≤(((i+j)/2:Nat):Int):=by omega
    have m1:(((i+j)/2:Nat):Int)<n:=by omega
    subst ai
    clear aa hx
    go_wp2_with fail
    refine hc.mono ?_
    rintro e w1 ⟨rfl,af⟩
    have hz:=HB.out.size
    have ag:=Za (HB.out.trans (af.mono hz))
    have ar:i<j:=by omega
    clear af hc c0 c1 c2 hlt
    by_cases hd:x.1-d<0
    · go_wp2_with fail
      refine⟨⟨(i+j)/2+1,j,by omega,aq,by go_num,rfl,fun t r ht hx=>?_,ak.out,ag.out⟩,by simp[intOf];omega⟩
      by_cases he:t=(i+j)/2
      · rw[he,HX.out]at hx
        cases hx
        omega
      · have:=Md.rises_get HR.out hx HX.out (by omega)
        omega
    · go_wp2_with fail
      refine⟨⟨i,(i+j)/2,by omega,by omega,rfl,by go_num,ao.out,fun t r ht hx=>?_,ag.out⟩,by simp[intOf];omega⟩
      by_cases he:t=(i+j)/2
      · rw[he,HX.out]at hx
        cases hx
        omega
      · have:=Md.rises_get HR.out HX.out hx (by omega)
        omega
  · obtain rfl:i=j:=by omega
    have hcut:=Md.find_cut HR.out d i ao.out ak.out
    by_cases hin:(i:Int)<n
    · obtain⟨x,hx⟩:∃x,T[i]?=some x:=⟨_,Zc (by rw[HN.out];omega)⟩
      obtain⟨b,o,a,ai,hb,c0,c1,c2,_⟩:=(HA.out.below aa).row hx
      have ah:=(HD.out x (Zk hx)).1
      have hc:=Md.cmp_any x.1 d (.int .i64 x.2.1) (.slice a.1 x.2.2.length a.2) wr ah.1 ah.2 h3 h4
      have HX:=Za hx
      rw[hx,Zr]at hcut
      have ae:=Za hcut
      have m0:(0:Int)≤(i:Int):=by omega
      subst ai
      clear aa hx hcut hlt
      go_wp2_with fail
      refine hc.mono ?_
      rintro e w1 ⟨rfl,af⟩
      have ag:=Za (HB.out.trans (af.mono HB.out.size))
      clear af hc c0 c1 c2
      rcases hz:(x.1-d == 0) with _|_
      · have hne:¬x.1=d:=fun e=>by simp[e]at hz
        have HH:Hid (Md.Hit T d i false):=Za ⟨fun e=>Bool.noConfusion e,fun _=>by rw[ae.out,Zl hne]⟩
        clear hne
        go_wp2_with fail
        go_ret2
        exact⟨i,false,rfl,HH.out,ag.out⟩
      · have he:x.1=d:=by have:=beq_iff_eq.1 hz;omega
        have HH:Hid (Md.Hit T d i true):=Za ⟨fun _=>⟨x,HX.out,by rw[ae.out,Zp he]⟩,fun e=>Bool.noConfusion e⟩
        clear he
        go_wp2_with fail
        go_ret2
        exact⟨i,true,rfl,HH.out,ag.out⟩
    · rw[Yn (by rw[HN.out];omega),Option.bind_none]at hcut
      have HH:Hid (Md.Hit T d i false):=Za ⟨fun e=>Bool.noConfusion e,fun _=>hcut⟩
      clear aa hcut hlt
      go_wp2_with fail
      go_ret2
      exact⟨i,false,rfl,HH.out,HB.out⟩
def Md.tv (A:Option Addr) (n c:Nat) (XA:Option Addr) (xn xc:Nat):Value:=.agg #[.slice A n c,.slice XA xn xc]
def Md.rv (r:Rw.Row) (a:Option Addr × Nat):Value:=.agg #[.int .i32 r.1,.int .i64 r.2.1,.slice a.1 r.2.2.length a.2]
def Md.rowOf (T:List Rw.Row) (d:Int):Rw.Row:=(Md.find T d).getD (0,0,[])
theorem Md.cls_of (T:List Rw.Row) (d:Int):Md.cls T d=(Md.rowOf T d).2.1:=by
 unfold Md.cls Md.rowOf
 cases Md.find T d <;> rfl
theorem Md.rmp_of (T:List Rw.Row) (d:Int):Md.rmp T d=(Md.rowOf T d).2.2:=by
 unfold Md.rmp Md.rowOf
 cases Md.find T d <;> rfl
def Md.RetFind (T:List Rw.Row) (d:Int) (w:World) (e:Ending) (w':World):Prop :=
 ∃a:Option Addr × Nat,e=.returned (.tuple #[Md.rv (Md.rowOf T d) a,.bool (Md.find T d).isSome])∧Sl w' w'.heap.size a.1 ((Md.rowOf T d).2.2.map (Value.int .i32))∧Below w.heap.size w w'
set_option maxRecDepth 100000 in
set_option maxHeartbeats 2000000 in
theorem Md.find_any (A:Option Addr) (n c:Nat) (XA:Option Addr) (xn xc:Nat) (T:List Rw.Row) (d:Int) (w:World) (hn:T.length=n) (a7:n≤1000000) (hr:Md.rises T) (hbd:Md.bd T) (h3 : -2147483648≤d) (h4:d≤2147483647) (hA:Rw.Sees w A T) :
 Calls Tryz.prog 122 #[Md.tv A n c XA xn xc,.int .i32 d] w (Md.RetFind T d w):=by
 obtain⟨wa,ao⟩:∃wa,(w.alloc (.cells #[.slice A n c,.slice XA xn xc] 105)).alloc (.cells #[.int .i32 0,.int .i64 0,.slice none 0 0] 113)=wa:=⟨_,rfl⟩
 have au:Below w.heap.size w wa:=by rw[←ao];exact ((Zd _ _).alloc (Zb _) _).alloc (by simp) _
 have ah:Rw.At wa w.heap.size 105 [.slice A n c,.slice XA xn xc]:=by rw[←ao];exact (Rw.At.new w 105 [.slice A n c,.slice XA xn xc]).alloc _
 have ag:Rw.At wa (w.heap.size+1) 113 [.int .i32 0,.int .i64 0,.slice none 0 0]:=by
  have h:=Rw.At.new (w.alloc (.cells #[.slice A n c,.slice XA xn xc] 105)) 113 [.int .i32 0,.int .i64 0,.slice none 0 0]
  rw[ZH]at h
  rw[←ao]
  exact h
 have a1:w.heap.size+1<wa.heap.size:=ag.lt
 have hS:=Md.search_any A n c T d wa hn a7 hr hbd h3 h4 (hA.below au)
 have a6:=Za ao
 have HN:=Za hn
 have HA:=Za hA
 have az:=Za au
 have z0:=ah.cell 0 rfl
 clear ao au hA hr hbd hn
 unfold Md.tv
 go_enter Tryz.func122,Tryz.ntmps122
 go_upto_region 1 with (fail)
 rw[a6.out]
 go_wp2_with fail
 refine hS.mono ?_
 rintro e w1 ⟨i,is,rfl,ai,ar⟩
 have av:=ah.below ar
 have aa:=ag.below ar
 have z2:=av.cell 0 rfl
 obtain⟨m1,m2,m3,m4,m5,m6⟩:=aa.three
 have bb:w.heap.size+1<w1.heap.size:=aa.lt
 have ae:=Za (az.out.trans (ar.mono az.out.size))
 have ap:=Za ai
 clear ar ai hS z0 ah ag a1
 have ak:=Za aa
 clear aa
 cases is
 · have hf:=ap.out.2 rfl
   have hro:Md.rowOf T d=(0,0,[]):=by unfold Md.rowOf;rw[hf];rfl
   have HF:=Za hf
   have aq:=Za hro
   clear hf hro
   go_wp2_with fail
   have af:=((ak.out.set 0 (.int .i32 0)).set 1 (.int .i64 0)).set 2 (.slice none 0 0)
   refine Yl (Rw.results2 rfl _ _ (w.heap.size+1) _ _ _ _ rfl af Tryz.underlying113 rfl (by kernel_rfl)) rfl ⟨(none,0),?_,?_,?_⟩
   · rw[aq.out,HF.out];rfl
   · rw[aq.out];exact Sl.nil _ _ _
   · exact ((ae.out.setCell (p:=⟨w.heap.size+1,0,none⟩) (by simp) _).setCell (p:=⟨w.heap.size+1,1,none⟩) (by simp) _).setCell (p:=⟨w.heap.size+1,2,none⟩) (by simp) _
 · obtain⟨r,hr,hf⟩:=ap.out.1 rfl
   obtain⟨b,o,a,a8,hb,aw,ay,ax,aj⟩:=HA.out.row hr
   have c0:=((bcell ae.out).1 b (o+i*3) hb).trans aw
   have c1:=((bcell ae.out).1 b (o+i*3+1) hb).trans ay
   have c2:=((bcell ae.out).1 b (o+i*3+2) hb).trans ax
   have ba:b<w1.heap.size:=Zf hb ae.out.size
   have m0:(0:Int)≤(i:Int):=by omega
   have m7:(i:Int)<n:=by have:=(List.getElem?_eq_some_iff.1 hr).1;have:=HN.out;omega
   have hro:Md.rowOf T d=r:=by unfold Md.rowOf;rw[hf];rfl
   have HF:=Za hf
   have aq:=Za hro
   have HM:=Za aj
   subst a8
   clear hr hf hro aj aw ay ax
   go_wp2_with fail
   have af:=((ak.out.set 0 (.int .i32 r.1)).set 1 (.int .i64 r.2.1)).set 2 (.slice a.1 r.2.2.length a.2)
   refine Yl (Rw.results2 rfl _ _ (w.heap.size+1) _ _ _ _ rfl af Tryz.underlying113 rfl (by kernel_rfl)) rfl ⟨a,?_,?_,?_⟩
   · rw[aq.out,HF.out];rfl
   · rw[aq.out]
     exact HM.out.below (((ae.out.setCell (p:=⟨w.heap.size+1,0,none⟩) (by simp) _).setCell (p:=⟨w.heap.size+1,1,none⟩) (by simp) _).setCell (p:=⟨w.heap.size+1,2,none⟩) (by simp) _) (by simpa using ae.out.size)
   · exact ((ae.out.setCell (p:=⟨w.heap.size+1,0,none⟩) (by simp) _).setCell (p:=⟨w.heap.size+1,1,none⟩) (by simp) _).setCell (p:=⟨w.heap.size+1,2,none⟩) (by simp) _
def RetSet (l:List Int) (w:World) (e:Ending) (w':World):Prop :=
 ∃A c,e=.returned (.agg #[.slice A l.length c])∧w'.ownsRow w.heap.size 21 1 (.slice A l.length c) l.length (l.map (Value.int .i32))∧Below w.heap.size w w'
theorem ret_blk {w wr:World} {cs:Array Value} {t:TypeId} (h:Below (w.heap.size+1) (w.alloc (.cells cs t)) wr):wr.heap[w.heap.size]?=some (.cells cs t (0,0))∧Below w.heap.size w wr:=by
 refine⟨(h.block w.heap.size (by omega)).trans (ZP _ _),?_⟩
 exact ((Zd _ _).alloc (Zb _) _).trans (h.mono (by omega))
theorem blk_cell {w:World} {g:Nat} {cs:Array Value} {t:TypeId} (h:w.heap[g]?=some (.cells cs t (0,0))) (i:Nat):w.cell? ⟨g,i,none⟩=cs[i]?∧w.frozen? ⟨g,i,none⟩=false:=by
 constructor
 · simp[World.cell?,h]
 · simp[World.frozen?,h]
theorem own_base {w:World} {base aa:Nat} {e:TypeId} {size n:Nat} {v:Value} {xs:List Value} (h:w.ownsRow base e size v n xs) (hb:aa≤base):w.ownsRow aa e size v n xs:=by
 obtain⟨h1,h2⟩:=h
 refine⟨h1,?_⟩
 rcases h2 with h2|⟨g,cap,ae,hv,hg,r⟩
 · exact .inl h2
 · exact .inr ⟨g,cap,ae,hv,by omega,r⟩
theorem set_cell {w:World} {g:Nat} {u v:Value} {t:TypeId} (h:w.heap[g]?=some (.cells #[u] t (0,0))):(w.setCell ⟨g,0,none⟩ v).heap[g]?=some (.cells #[v] t (0,0)):=by
 simp[World.setCell,YN,h]
def C.par (i:Nat):Bool:=((i:Int)%2 == 1)
theorem C.and_one (i:Nat) (hi:i<9223372036854775808):bits BinOp.and IntKind.i64 (i:Int) 1=((i%2:Nat):Int):=by
 have aa:(2:Int) ^ 63=9223372036854775808:=by decide
 have h:=bits_mask .i64 63 (by decide) (fun n h0 h1=>by rw[aa]at h1;rw[Z0];omega) 1 (by decide) (i:Int) (by omega) (by rw[aa];omega)
 have e:((2:Int) ^ 1-1)=1:=by decide
 rw[e]at h
 rw[h]
 omega
theorem Sl.ints {w:World} {B:Nat} {A:Option Addr} {k:IntKind} {l:List Int} (h:Sl w B A (l.map (Value.int k))) {i:Nat} {x:Int} (hx:l[i]?=some x):∃b o,A=some ⟨b,o,none⟩∧b<B∧w.cell? ⟨b,o+i,none⟩=some (.int k x)∧∀j y,l[j]?=some y→w.cell? ⟨b,o+j,none⟩=some (.int k y):=by
 have hi:i<l.length:=(List.getElem?_eq_some_iff.1 hx).1
 obtain⟨b,o,hA,hb,hc⟩:=h (by rw[Zg];omega)
 have hj:∀j y,l[j]?=some y→w.cell? ⟨b,o+j,none⟩=some (.int k y):=by
  intro j y hy
  have hj:j<l.length:=(List.getElem?_eq_some_iff.1 hy).1
  rw[hc j (by rw[Zg];omega),Zu,hy];rfl
 exact⟨b,o,hA,hb,hj i x hx,hj⟩
theorem C.enter {P:Program} {f:FuncId} {fn:Func} {c:Code} (hf:P.funcs[f]?=some fn) (aa:(fn.name == "runtime.NumGoroutine")=false) (hb:fn.body=some c) (args:Array Value) (w:World) :
 (callFunc f args).run P w=.ok (.enter f args) w:=by
 have h1:fn.name ≠ "runtime.NumGoroutine" := by simpa using aa
 simp[callFunc,hf,h1,hb]
set_option maxRecDepth 100000 in
set_option maxHeartbeats 1000000 in
theorem R.clone_any (A:Option Addr) (n c B:Nat) (l:List Int) (w:World) (hn:l.length=n) (ao:n≤1000000) (hB:B≤w.heap.size) (hA:Sl w B A (l.map (Value.int .i32))) :
 Calls Tryz.prog 42 #[.slice A n c] w fun r w'=>∃A' c',r=.returned (.slice A' n c')∧w'.ownsRow w.heap.size 21 1 (.slice A' n c') n (l.map (Value.int .i32))∧Go.RowKit.Below w.heap.size w w':=by
 obtain⟨j0,hj0,ai,aj,ak⟩:=Z7 infoRune
 have HN:=Za hn
 clear hn
 rcases A with _|ad
 · have hl:l=[]:=by
    rcases l with _|⟨x,t⟩
    · rfl
    · obtain⟨b,o,h,_⟩:=hA (by simp)
      cases h
   subst hl
   obtain rfl:0=n:=HN.out
   have ah:∀w,(binOp .eql 49 (.slice none 0 c) (.slice none 0 0)).run Tryz.prog w=.ok (.bool true) w:=fun w=>by kernel_rfl
   go_enter Tryz.func42,Tryz.ntmps42
   go_wp2
   go_ret
   exact⟨none,0,rfl,ZC _ _ _ _,Zd _ _⟩
 · have af:Go.RowKit.Below w.heap.size w (w.alloc (.cells #[] 21)):=(Zd _ _).alloc (Zb _) _
   have hS:=Za (hA.belowN af hB (Zb _))
   have ah:∀w,(binOp .eql 49 (.slice (some ad) n c) (.slice none 0 0)).run Tryz.prog w=.ok (.bool false) w:=fun w=>by first|exact Lib.run_eql_slice_nil w _ _ _ _ _ Tryz.underlying49|kernel_rfl|simp[binOp,Op.equal,Op.maxDepth,Op.equalIn,Xg Tryz.underlying49]
   have ae:(w.alloc (.cells #[] 21)).ownsRow w.heap.size 21 1 (.slice (some ⟨w.heap.size,0,none⟩) 0 0) 0 []:=⟨rfl,.inr ⟨w.heap.size,0,#[],rfl,Zb _,ZP w _,Zb _,by decide,rfl,rfl⟩⟩
   go_enter Tryz.func42,Tryz.ntmps42
   go_wp2_with (at_builtin;refine wpList_appendSl _ rfl _ _ _ rfl w.heap.size 21 j0 _ 1 4 Tryz.underlying49 hj0 ai aj ak rfl (by omega) _ 0 _ rfl ae _ (some ad) n c (l.map (Value.int .i32)) rfl (by rw[Zg,HN.out];omega) hS.out (oneCells _ _) (by simp only[maxLen];omega) (by omega) (by simp) ?_;intro v1 w2 aa ag _)
   obtain⟨A5,c5,rfl⟩:=own_form aa
   go_wp2
   go_ret
   rw[Z1]at aa
   exact⟨A5,c5,by simp,by simpa using aa,af.trans ag⟩
def Md.Ok (T:List Rw.Row):Prop:=T.length≤1000000∧Md.rises T∧Md.bd T∧∀r∈T,r.2.2.length≤1000000
def Md.Is (w:World) (v:Value) (T:List Rw.Row) (S:List Int):Prop:=∃A c XA xc,v=Md.tv A T.length c XA S.length xc∧Rw.Sees w A T∧Sl w w.heap.size XA (S.map (Value.int .i32))
theorem Md.Is.below {w w':World} {v:Value} {T:List Rw.Row} {S:List Int} (h:Md.Is w v T S) (hb:Below w.heap.size w w'):Md.Is w' v T S:=by
 obtain⟨A,c,XA,xc,h1,h2,h3⟩:=h
 exact⟨A,c,XA,xc,h1,h2.below hb,h3.below hb hb.size⟩
theorem Md.find_is {v:Value} {T:List Rw.Row} {S:List Int} {w:World} (d:Int) (ok:Md.Ok T) (h:Md.Is w v T S) (h3 : -2147483648≤d) (h4:d≤2147483647) :
 Calls Tryz.prog 122 #[v,.int .i32 d] w (Md.RetFind T d w):=by
 obtain⟨A,c,XA,xc,rfl,h2,_⟩:=h
 exact Md.find_any A T.length c XA S.length xc T d w rfl ok.1 ok.2.1 ok.2.2.1 h3 h4 h2
set_option maxRecDepth 100000 in
set_option maxHeartbeats 1000000 in
theorem Md.class_any (v:Value) (T:List Rw.Row) (S:List Int) (d:Int) (w:World) (ok:Md.Ok T) (h:Md.Is w v T S) (h3 : -2147483648≤d) (h4:d≤2147483647) :
 Calls Tryz.prog 153 #[v,.int .i32 d] w fun e w'=>e=.returned (.int .i64 (Md.cls T d))∧Below w.heap.size w w':=by
 rw[Md.cls_of]
 have hv:=h
 obtain⟨A,c,XA,xc,rfl,h2,hX⟩:=hv
 obtain⟨xn,hxn⟩:∃k,S.length=k:=⟨_,rfl⟩
 obtain⟨n,hn⟩:∃k,T.length=k:=⟨_,rfl⟩
 rw[hn,hxn]at h ⊢
 have aa:Below w.heap.size w (w.alloc (.cells #[.slice A n c,.slice XA xn xc] 105)):=(Zd _ _).alloc (Zb _) _
 have ae:Rw.At (w.alloc (.cells #[.slice A n c,.slice XA xn xc] 105)) w.heap.size 105 [.slice A n c,.slice XA xn xc]:=Rw.At.new w 105 [.slice A n c,.slice XA xn xc]
 have hF:=Md.find_is d ok (h.below aa) h3 h4
 have z0:=ae.cell 0 rfl
 have z1:=ae.cell 1 rfl
 have HB:=Za aa
 clear h h2 hX hn hxn aa ae ok
 unfold Md.tv at hF ⊢
 go_enter Tryz.func153,Tryz.ntmps153
 go_wp2_with fail
 refine hF.mono ?_
 rintro e w1 ⟨a,rfl,_,af⟩
 have ag:=Za (HB.out.trans (af.mono HB.out.size))
 clear af z0 z1 hF
 unfold Md.rv
 obtain⟨r,hr⟩:∃r,Md.rowOf T d=r:=⟨_,rfl⟩
 rw[hr]
 have HR:=Za hr
 clear hr
 go_wp2_with fail
 go_ret
 rw[HR.out]
 exact⟨rfl,ag.out.alloc ag.out.size _⟩
def Md.RetOwn (l:List Int) (w:World) (e:Ending) (w':World):Prop :=
 ∃A c,e=.returned (.slice A l.length c)∧w'.ownsRow w.heap.size 21 1 (.slice A l.length c) l.length (l.map (Value.int .i32))∧Below w.heap.size w w'
set_option maxRecDepth 100000 in
set_option maxHeartbeats 1000000 in
theorem Md.map_any (v:Value) (T:List Rw.Row) (S:List Int) (d:Int) (w:World) (ok:Md.Ok T) (h:Md.Is w v T S) (h3 : -2147483648≤d) (h4:d≤2147483647) :
 Calls Tryz.prog 152 #[v,.int .i32 d] w (Md.RetOwn (Md.mp T d) w):=by
 have hv:=h
 obtain⟨A,c,XA,xc,rfl,h2,hX⟩:=hv
 obtain⟨xn,hxn⟩:∃k,S.length=k:=⟨_,rfl⟩
 obtain⟨n,hn⟩:∃k,T.length=k:=⟨_,rfl⟩
 rw[hn,hxn]at h ⊢
 have aj:Below w.heap.size w (w.alloc (.cells #[.slice A n c,.slice XA xn xc] 105)):=(Zd _ _).alloc (Zb _) _
 have ak:Rw.At (w.alloc (.cells #[.slice A n c,.slice XA xn xc] 105)) w.heap.size 105 [.slice A n c,.slice XA xn xc]:=Rw.At.new w 105 [.slice A n c,.slice XA xn xc]
 have hF:=Md.find_is d ok (h.below aj) h3 h4
 have z0:=ak.cell 0 rfl
 have z1:=ak.cell 1 rfl
 have HB:=Za aj
 have hmb:=Md.mp_bd ok.2.2.1 d
 have hlen:(Md.rowOf T d).2.2.length≤1000000:=by
  unfold Md.rowOf
  cases hf:Md.find T d with
  | none=>exact ZE _
  | some r=>exact ok.2.2.2 r (Md.find_some hf).1
 have HP:=Za (Hg.pair_any d (w.alloc (.cells #[.slice A n c,.slice XA xn xc] 105)) h3 h4)
 obtain⟨m,hm⟩:∃m,Md.mp T d=m:=⟨_,rfl⟩
 rw[hm]at hmb ⊢
 have HM:=Za hm
 rcases hpk:Hg.pairK d with ⟨x,y,is⟩
 have hp:=HP.out
 rw[hpk]at hp
 have ag:=Za hpk
 clear h h2 hX hn hxn aj ak ok hm hpk HP
 unfold Md.tv at hF ⊢
 cases is
 · have af:m=(Md.rowOf T d).2.2:=by
    rw[←HM.out,←Md.rmp_of]
    unfold Md.mp
    rw[ag.out,Zl (by simp)]
   obtain⟨r,hr⟩:∃r,Md.rowOf T d=r:=⟨_,rfl⟩
   unfold Md.RetFind at hF
   rw[hr]at af hlen hF
   subst af
   clear hr HM ag hmb
   go_enter Tryz.func152,Tryz.ntmps152
   go_wp2_with fail
   refine hp.mono ?_
   rintro e w0 ⟨rfl,rfl⟩
   go_wp2_with fail
   refine hF.mono ?_
   rintro e w1 ⟨a,rfl,ar,ap⟩
   have aq:=Za (HB.out.trans (ap.mono HB.out.size))
   have ah:Below w1.heap.size w1 (w1.alloc (.cells #[.int .i32 r.1,.int .i64 r.2.1,.slice a.1 r.2.2.length a.2] 113)):=(Zd _ _).alloc (Zb _) _
   have hC:=R.clone_any a.1 r.2.2.length a.2 _ r.2.2 _ rfl hlen (Zb _) (ar.below ah ah.size)
   have ai:=Za (aq.out.trans (ah.mono aq.out.size))
   clear ap z0 z1 hF ar ah hp
   unfold Md.rv
   go_wp2_with fail
   refine hC.mono ?_
   rintro e w2 ⟨A',c',rfl,aa,ao⟩
   have HO:=Za (own_base aa ai.out.size)
   have au:=Za (ai.out.trans (ao.mono ai.out.size))
   clear aa ao hC
   go_wp2_with fail
   go_ret
   exact⟨A',c',rfl,HO.out,au.out⟩
 · have af:m=[x,y]:=by
    rw[←HM.out]
    unfold Md.mp
    rw[ag.out,Zp rfl]
   subst af
   clear HM ag hF hlen
   go_enter Tryz.func152,Tryz.ntmps152
   go_wp2_with fail
   refine hp.mono ?_
   rintro e w0 ⟨rfl,rfl⟩
   go_wp2_with fail
   go_ret
   have ae:=ZP (w.alloc (.cells #[.slice A n c,.slice XA xn xc] 105)) (.cells #[.int .i32 x,.int .i32 y] 21)
   rw[ZH]at ae
   exact⟨_,_,rfl,⟨rfl,.inr ⟨_,_,#[.int .i32 x,.int .i32 y],rfl,ZZ _,ae,Zb _,by decide,rfl,rfl⟩⟩,HB.out.alloc HB.out.size _⟩
set_option maxRecDepth 100000 in
theorem Pg.in_any (c:Int) (w:World):Calls Tryz.prog 100 #[.int .i32 c] w fun e w'=>e=.returned (.bool (decide (0≤c∧c≤1114111)))∧w=w':=by
 go_enter Tryz.func100,Tryz.ntmps100
 by_cases h0:0≤c
 · by_cases h1:c≤1114111
   · go_wp2
     go_ret
     exact⟨ret_bool (by simp;omega),rfl⟩
   · go_wp2
     go_ret
     exact⟨ret_bool (by simp;omega),rfl⟩
 · go_wp2
   go_ret
   exact⟨ret_bool (by simp;omega),rfl⟩
theorem Pg.and_8 (n:Int) (h0:0≤n) (h1:n≤1114111):bits .and .i32 n 255=n%256:=by
 have hm:(BitVec.ofInt 32 255).toNat=2 ^ 8-1:=by decide
 have key:(BitVec.ofInt 32 n &&& BitVec.ofInt 32 255).toNat=(n%((2 ^ 32:Nat):Int)).toNat%2 ^ 8:=by
  rw[BitVec.toNat_and,XU,hm,YK]
 show IntKind.i32.wrap ((BitVec.ofInt 32 n &&& BitVec.ofInt 32 255).toNat:Nat)=n%256
 rw[key,Xu]
 omega
def Pg.Is (w:World) (v:Value) (idx:List Int) (bl:List (List Int)):Prop :=
 ∃g A c,v=.pointer (some ⟨g,0,none⟩)∧Rw.At w g 190 (idx.map (Value.int .u16)++[.slice A bl.length c])∧Sl w w.heap.size A (bl.flatten.map (Value.int .u16))
def Pg.Of (w:World) (v:Value) (f:Int→Int):Prop:=Pg.Is w v (Pg.idx f 4352) (Pg.bls f 4352)
theorem Pg.Is.below {w w':World} {v:Value} {idx:List Int} {bl:List (List Int)} (h:Pg.Is w v idx bl) (hb:Below w.heap.size w w'):Pg.Is w' v idx bl:=by
 obtain⟨g,A,c,hv,ha,hs⟩:=h
 exact⟨g,A,c,hv,ha.below hb,hs.below hb hb.size⟩
theorem Pg.cell_last {w:World} {g:Nat} {t:TypeId} {xs:List Value} {v:Value} (h:Rw.At w g t (xs++[v])) {n:Nat} (hn:xs.length=n):w.cell? ⟨g,n,none⟩=some v :=
 h.cell n (by rw[ZL (by omega),hn,Yv];rfl)
theorem Pg.cell_at {w:World} {g:Nat} {t:TypeId} {xs:List Value} {v u:Value} (h:Rw.At w g t (xs++[v])) {n:Nat} (hn:xs[n]?=some u):w.cell? ⟨g,n,none⟩=some u :=
 h.cell n (by rw[ZW (List.getElem?_eq_some_iff.1 hn).1];exact hn)
def Pg.get (f:Int→Int) (c:Int):Int:=if 0≤c∧c≤1114111 then f c else 0
set_option maxRecDepth 100000 in
set_option maxHeartbeats 4000000 in
theorem Pg.get_any (v:Value) (f:Int→Int) (c:Int) (w:World) (h:Pg.Of w v f) :
 Calls Tryz.prog 71 #[v,.int .i32 c] w fun e w'=>e=.returned (.int .u16 (Pg.get f c))∧Below w.heap.size w w':=by
 obtain⟨g,A,cp,rfl,ae,hs⟩:=h
 obtain⟨o,ho⟩:∃o,Pg.get f c=o:=⟨_,rfl⟩
 rw[ho]
 by_cases hc:0≤c∧c≤1114111
 · obtain⟨N,hN⟩:∃N:Nat,c/256=N:=⟨(c/256).toNat,by omega⟩
   obtain⟨M,hM⟩:∃M:Nat,c%256=M:=⟨(c%256).toNat,by omega⟩
   have ar:N<4352:=by omega
   have au:M<256:=by omega
   have af:c=256*(N:Int)+M:=by omega
   have hand:=Pg.and_8 c hc.1 hc.2
   rw[hM]at hand
   have aa:=(Pg.bls_mem f 4352 (Pg.blk f N)).2 (.inr ⟨N,ar,rfl⟩)
   have ai:=Pg.idx_get f 4352 ar
   have av:=Pg.at_lt aa
   have ak:=Pg.at_get aa
   have ap:=Pg.bls_len f 4352
   obtain⟨p,hp⟩:∃p,Pg.at (Pg.bls f 4352) (Pg.blk f N)=p:=⟨_,rfl⟩
   rw[hp]at ai av ak
   have aj:=Pg.flat_get (Pg.bls f 4352) p M _ (Pg.bls_len256 f 4352) ak au
   rw[Pg.blk_get f N au]at aj
   obtain⟨bn,ah⟩:∃bn,(Pg.bls f 4352).length=bn:=⟨_,rfl⟩
   rw[ah]at av ap ae
   have z0:=Pg.cell_at ae (n:=N) (u:=.int .u16 p) (by rw[Zu,ai];rfl)
   have z1:=Pg.cell_last ae (n:=4352) (by rw[Zg,Pg.idx_len])
   obtain⟨b,o',rfl,hb,aq⟩:=hs (by rw[Zg,Pg.flat_len _ (Pg.bls_len256 f 4352),ah];omega)
   have ao:=aq (p*256+M) (by rw[Zg,Pg.flat_len _ (Pg.bls_len256 f 4352),ah];omega)
   rw[Zu,aj,Zt,←af]at ao
   have ag:f c=o:=by rw[←ho];unfold Pg.get;rw[if_pos hc]
   rw[ag]at ao
   have hI:=Pg.in_any c w
   rw[Zn hc]at hI
   have HI:=Za hI
   have ax:(N:Int)<4352:=by omega
   have a1:(0:Int)≤N:=by omega
   have a7:(M:Int)<256:=by omega
   have ay:(0:Int)≤M:=by omega
   have a6:(p:Int)<bn:=by omega
   have az:(0:Int)≤p:=by omega
   have aw:=ae.lt
   rw[←Yi]at ao
   clear hI ho hc hM af aa ai ak hp aj ah hs aq ag ap ae
   go_enter Tryz.func71,Tryz.ntmps71
   go_wp2_with fail
   refine HI.out.mono ?_
   rintro e w1 ⟨rfl,rfl⟩
   go_wp2_with fail
   go_quiet (fail)
   go_wp2_with fail
   go_ret
   exact⟨rfl,below_drewN (Zd _ _) _⟩
 · have ag:o=0:=by rw[←ho];unfold Pg.get;rw[if_neg hc]
   subst ag
   have hI:=Pg.in_any c w
   rw[Zo hc]at hI
   have HI:=Za hI
   clear hI ho hc ae hs
   go_enter Tryz.func71,Tryz.ntmps71
   go_wp2_with fail
   refine HI.out.mono ?_
   rintro e w1 ⟨rfl,rfl⟩
   go_wp2_with fail
   go_ret
   exact⟨rfl,Zd _ _⟩
end Go.Proofs.YtikiplbhlohmdaaGreatDoor
