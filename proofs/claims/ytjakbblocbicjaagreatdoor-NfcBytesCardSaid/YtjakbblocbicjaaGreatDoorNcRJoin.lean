/- The document's layer 18: characters put together, by walking its text. -/
import Derived.Test.YtjakbblocbicjaaGreatDoorNcTwo
import Derived.Test.YtjakbblocbicjaaGreatDoorNcText
import Derived.Test.YtjakbblocbicjaaGreatDoorSlCut
set_option maxRecDepth 100000
set_option maxHeartbeats 4000000
set_option linter.unusedVariables false
set_option linter.unusedSimpArgs false
namespace Go.Proofs.YtjakbblocbicjaaGreatDoor
open Go.Proofs.Tryz
open Go.RowKit
def Nc.lz (f:Int→Int) (l:List Int):Nat→Int
 | 0 => -1
 | i+1=>if f (l.getD i 0)=0 then (i:Int) else Nc.lz f l i
theorem zKx {f:Int→Int} {l:List Int} (i:Nat):∀d:Nat,(∀t,i≤t→t<i+d→f (l.getD t 0)≠0)→Nc.lz f l (i+d)=Nc.lz f l i
 | 0,_=>rfl
 | d+1,h=>by
   show (if f (l.getD (i+d) 0)=0 then ((i+d:Nat):Int) else Nc.lz f l (i+d))=_;rw[Zk (h (i+d) (by omega) (by omega))];exact zKx i d fun t h1 h2=>h t h1 (by omega)
structure Nc.Tidy (f:Int→Int) (s:Nc.St):Prop where
 mk' ::
 beh:∀x∈s.B,f x≠0
 at':∀x,s.b=some x→f x=0
 emp:s.b=none→s.pre=[]
theorem Nc.Tidy.put {f:Int→Int} {j:Int→Int→Option Int} {s:Nc.St} {c:Int} (h:Nc.Tidy f s) (hj:∀a b p,j a b=some p→f p=0):Nc.Tidy f (Nc.put f j s c):=by
 unfold Nc.put;cases hh:Nc.hit f j s c with
 | some p =>
   obtain⟨x,hx,hp,_⟩:=zBE hh;exact⟨h.beh,(fun y hy=>by cases hy;exact hj _ _ _ hp),(fun e=>by cases e)⟩
 | none =>
   simp only[];unfold Nc.app;split
   · rename_i h0;exact⟨(fun x hx=>by cases hx),(fun y hy=>by cases hy;exact h0),(fun e=>by cases e)⟩
   rename_i h0;refine⟨fun x hx=>?_,h.at',h.emp⟩;rcases List.mem_append.1 hx with g|g
   · exact h.beh x g
   rw[Zt]at g;rw[g];exact h0
theorem Nc.Tidy.run {f:Int→Int} {j:Int→Int→Option Int} (hj:∀a b p,j a b=some p→f p=0):∀(l:List Int) (s:Nc.St),Nc.Tidy f s→Nc.Tidy f (Nc.run f j s l)
 | [],s,h=>h
 | c::l,s,h=>Nc.Tidy.run hj l _ (h.put hj)
theorem Nc.Tidy.s0 (f:Int→Int):Nc.Tidy f Nc.s0:=⟨fun x hx=>(by cases hx),fun x hx=>(by cases hx),fun _=>rfl⟩
theorem Nc.Tidy.lz {f:Int→Int} {s:Nc.St} (h:Nc.Tidy f s):Nc.lz f s.out s.out.length=Nc.base s:=by
 have hB:∀t,s.pre.length+s.b.toList.length≤t→t<s.out.length→f (s.out.getD t 0)≠0:=fun t h1 h2=>by
  unfold Nc.St.out at h2 ⊢;rw[Yi,←ZD,ZH (by rw[Zd];exact h1)];simp only[Zd]at h2 ⊢;have aa:t-(s.pre.length+s.b.toList.length)<s.B.length:=by omega
  rw[Zb aa];exact h.beh _ (XS aa)
 have hl:s.out.length=(s.pre.length+s.b.toList.length)+s.B.length:=by unfold Nc.St.out;simp only[List.length_append];omega
 rw[hl,zKx _ _ (fun t h1 h2=>hB t h1 (by omega))];unfold Nc.base;cases hb:s.b with
 | none=>rw[h.emp hb];rfl
 | some x =>
   show (if f (s.out.getD s.pre.length 0)=0 then ((s.pre.length:Nat):Int) else _)=_;rw[Yi,zD3 hb];exact Zm (h.at' x hb)
theorem zRN {s:Nc.St} {x:Int} (h:s.b=some x):s.out.drop (s.pre.length+1)=s.B:=by
 have:s.out=(s.pre++[x])++s.B:=by unfold Nc.St.out;rw[h];simp
 rw[this,List.drop_left' (by simp)]
theorem zF5 (v:Value) (T:List Rw.Row) (E S:List Int) (A:Option Addr) (n c:Nat) (l:List Int) (w:World) (ok:Ud.Ok T S) (bx:C.mem S=Md.xs E) (dr:T.length≤100000) (fc:E.length≤1000000) (dy:∀r∈T,r.2.2.length≤1000) (h:Md.Doc w v T E) (hl:l.length=n) (hn:n≤100000) (cv:∀x∈l,C.isC x=true) (hA:Sl w w.heap.size A (l.map (Value.int .i64))) :
 Calls prog 40 #[v,.slice A n c] w (zBn (zBw T S l) w):=by
 obtain⟨i0,c8,cr,dc,dk⟩:=Z2 zDT;have hd:=h;obtain⟨AT,cT,XA,xc,rfl,_⟩:=hd;obtain⟨tn,eb⟩:∃k,T.length=k:=⟨_,rfl⟩;obtain⟨xn,hxn⟩:∃k,E.length=k:=⟨_,rfl⟩;rw[eb,hxn]at h ⊢;have c7:∀d W,Below w.heap.size w W→Calls prog 21 #[zAX AT tn cT XA xn xc,.int .i64 d] W fun e w'=>e=.returned (.int .i64 (Md.cls T d))∧Below W.heap.size W w':=fun d W hW=>zFW _ T E d W (by omega) (h.below hW)
 have ck:∀a b W,Below w.heap.size w W→C.isC a=true→C.isC b=true→Calls prog 64 #[zAX AT tn cT XA xn xc,.int .i64 a,.int .i64 b] W fun e w'=>e=.returned (.int .i64 ((Nc.j T S a b).getD (-1)))∧Below W.heap.size W w':=fun a b W hW h1 h2=>by
  have:=zNC _ T E a b W dr fc (h.below hW) dy (fun r hr=>(ok.bd r hr).1) (Nf.isC_i32 h1).1 (Nf.isC_i32 h1).2 (Nf.isC_i32 h2).1 (Nf.isC_i32 h2).2;rw[←bx,zRv ok]at this;exact this
 have b6:∀a b p,Nc.j T S a b=some p→Md.cls T p=0:=fun a b p h=>(zIW ok h).2.1
 have hj0:∀a b p,Nc.j T S a b=some p→0≤p:=fun a b p h=>(zIW ok h).2.2.1
 have ei:=hy' (fun k=>zFu ok (l.take k) Nc.s0 (fun x hx=>by cases hx) (fun c hc=>cv c (Z8 hc)));have cg:=fun x=>zDF ok x
 obtain⟨f,hf⟩:∃f,Md.cls T=f:=⟨_,rfl⟩;obtain⟨j,hj⟩:∃j,Nc.j T S=j:=⟨_,rfl⟩;have ec:zBw T S l=(Nc.run f j Nc.s0 l).out:=by rw[←hf,←hj];rfl
 rw[ec];rw[hf]at c7 b6 cg;rw[hj]at ck b6 hj0;rw[hf,hj]at ei;have fo:=hy' (fun k=>Nc.Tidy.run b6 (l.take k) Nc.s0 (Nc.Tidy.s0 f));unfold zAX at *;obtain⟨wa,b2⟩:∃wa,(w.alloc (.cells #[.slice AT tn cT,.slice XA xn xc] 25)).alloc (.cells #[] 3)=wa:=⟨_,rfl⟩;have bg:Below w.heap.size w wa:=by rw[←b2];exact ((Zc _ _).alloc (Za _) _).alloc (by simp) _
 have dv:Rw.At wa w.heap.size 25 [.slice AT tn cT,.slice XA xn xc]:=by
  rw[←b2];exact (Rw.At.new w 25 [.slice AT tn cT,.slice XA xn xc]).alloc _
 have b1:wa.ownsRow (w.heap.size+1) 3 1 (.slice (some ⟨w.heap.size+1,0,none⟩) 0 0) 0 []:=by
  have:=zDk (w.alloc (.cells #[.slice AT tn cT,.slice XA xn xc] 25)) 3 (by decide);rw[ZJ]at this;rw[←b2];exact this
 have eu:=hy' b2;have e2:=hy' bg;have fx:=hy' dv;have df:=hy' b1;have HL:=hy' hl;have e5:=hy' cv;have HA:=hy' hA;have c1:=hy' c7;have dx:=hy' ck;have e6:=hy' hj0;have fh:=hy' cg;clear b2 bg dv b1 hl cv hA c7 ck h eb hxn dr dy hf hj ec b6 hj0 cg bx ok;go_enter func40,ntmps40;go_upto_region 2 with (fail)
 rw[eu.o];go_wp2_with fail;go_loopw [5,7,8,9,10,11,13,14,18] (fun v5 _ _ _ _ _ _ _ i wr=>∃(k:Nat) (A':Option Addr) (cp m:Nat),k≤n∧i=.int .i64 k∧v5=.slice A' m cp∧m=(Nc.run f j Nc.s0 (l.take k)).out.length∧Rw.At wr w.heap.size 25 [.slice AT tn cT,.slice XA xn xc]∧wr.ownsRow (w.heap.size+1) 3 1 (.slice A' m cp) m ((Nc.run f j Nc.s0 (l.take k)).out.map (Value.int .i64))∧Below (w.heap.size+1) wa wr) (fun _ _ _ _ _ _ _ _ i _=>n-(intOf i).toNat)
 case atStart=>exact⟨0,_,_,0,ZF _,rfl,rfl,rfl,fx.o,df.o,Zc _ _⟩
 obtain⟨k,A',cp,m,hk,rfl,rfl,hm,bl,ah,a6⟩:=hrel;have bo:w.heap.size+1≤wr.heap.size:=bl.lt;have bp:Below w.heap.size w wr:=e2.o.trans (a6.mono (ZW _))
 by_cases hlt:k<n
 rotate_left
 · obtain rfl:k=n:=by omega
   rw[Zi (by rw[HL.o];exact Za _)]at ah hm;obtain⟨s,hs⟩:∃s,Nc.run f j Nc.s0 l=s:=⟨_,rfl⟩;rw[hs]at ah hm;have fw:=hy' hs;subst hm;have kI:¬(k:Int)<k:=by omega
   have HO:=hy' (zAR ah (ZW _));have HB:=hy' bp;clear ah bp a6 hs;go_wp2_with fail;go_ret;rw[fw.o];exact⟨_,_,rfl,HO.o,HB.o⟩
 obtain⟨x,hx⟩:∃x,l[k]?=some x:=⟨_,Zb (by rw[HL.o];exact hlt)⟩;have dz:=e5.o x (Zj hx);obtain⟨ab,ao,hA2,e9,ej⟩:=HA.o.below bp bp.size (by rw[Ze,HL.o];omega);have hc:=ej k (by rw[Ze,HL.o];exact hlt);rw[Zo,hx,Zz]at hc;have di:=Nc.run_snoc (f:=f) (j:=j) hx;have hlen:=(Nc.run_len (f:=f) (j:=j) (l.take k) Nc.s0).2.1;rw[Zr,HL.o,←hm]at hlen;have fg:Nc.s0.out.length=0:=rfl;have cw:=fo.o k;have hsc:=ei.o k;obtain⟨s,hs⟩:∃s,Nc.run f j Nc.s0 (l.take k)=s:=⟨_,rfl⟩;rw[hs]at hm ah di cw hsc;have gm:m≤100000:=by omega
 have kI:(k:Int)<n:=by omega
 have k0:(0:Int)≤k:=by omega
 have bf:=hy' di;have dl:=hy' cw;have gf:=hy' hsc;have HM:=hy' hm;have aj:=hy' bl;have aa:=hy' ah;have a7:=hy' a6;have ea:=hy' dz;have a1:=hy' bp;subst hA2;clear hx dz ej di hlen fg cw hsc hs hm bl ah a6 bp;obtain⟨wo,rfl⟩:∃wo:World,wo=wr:=⟨_,rfl⟩;have fy:=hy' dl.o.lz;have bc:=aj.o;have eo:=bc.cell 0 rfl;have e8:=bc.cell 1 rfl;have fe:=bc.lt;clear bc;go_wp2_with fail;clear hc eo e8 fe e9;go_loopw [8,9,10,24] (fun v8 _ _ i2 w2=>∃(t:Nat),t≤m∧i2=.int .i64 t∧v8=.int .i64 (Nc.lz f s.out t)∧Below wo.heap.size wo w2) (fun _ _ _ i2 _=>m-(intOf i2).toNat)
 case atStart=>exact⟨0,ZF _,rfl,rfl,Zc _ _⟩
 obtain⟨t,ht,rfl,rfl,aw⟩:=hrel;have av:=aj.o.below aw;have z0:=av.cell 0 rfl;have z1:=av.cell 1 rfl;have zl:=av.lt;have fk:=hy' av;have ap:=hy' aw;clear av aw
 by_cases htm:t<m
 · obtain⟨y,hy⟩:∃y,s.out[t]?=some y:=⟨_,Zb (by rw[←HM.o];exact htm)⟩;obtain⟨gb,go',dm,b7,bz⟩:=(Sl.of_own aa.o).below ap.o ap.o.size (by rw[Ze,←HM.o];omega);have b9:=bz t (by rw[Ze,←HM.o];exact htm);rw[Zo,hy,Zz]at b9;have tI:(t:Int)<m:=by omega
   have t0:(0:Int)≤t:=by omega
   have cu:Nc.lz f s.out (t+1)=if f y=0 then (t:Int) else Nc.lz f s.out t:=by
    show (if f (s.out.getD t 0)=0 then (t:Int) else Nc.lz f s.out t)=_;rw[Yi,hy];rfl
   have ef:=hy' (c1.o y wr (a1.o.trans (ap.o.mono a1.o.size)));obtain⟨q,hq⟩:∃q,f y=q:=⟨_,rfl⟩;rw[hq]at ef cu;have bw:=hy' cu;subst dm;clear hy bz cu hq;go_wp2_with fail;refine ef.o.mono ?_;rintro e w5 ⟨rfl,dw⟩;have en:=hy' (ap.o.trans (dw.mono ap.o.size));clear dw z0 z1 zl b9 b7;rcases hqz:(q == 0) with _|_
   · have bm:¬q=0:=by simpa using hqz
     have HE:=hy' (bw.o.trans (Zk bm));clear bm;go_wp2_with fail;exact⟨⟨t+1,by omega,by first|rfl|go_num,by rw[HE.o],en.o⟩,by simp[intOf];omega⟩
   have bm:q=0:=by simpa using hqz
   have HE:=hy' (bw.o.trans (Zm bm));clear bm;go_wp2_with fail;exact⟨⟨t+1,by omega,by first|rfl|go_num,by rw[HE.o],en.o⟩,by simp[intOf];omega⟩
 obtain rfl:t=m:=by omega
 have tI:¬(t:Int)<t:=by omega
 rw[show Nc.lz f s.out t=Nc.base s by rw[HM.o];exact fy.o];obtain⟨w6,rfl⟩:∃w6:World,w6=wr:=⟨_,rfl⟩;clear htm ht;cases hsb:s.b with
 | none =>
   have bg:Nc.base s = -1:=by unfold Nc.base;rw[hsb]
   have ay:Nc.hit f j s x=none:=by unfold Nc.hit;rw[hsb];split <;> rfl
   have ag:Nc.put f j s x=Nc.app f s x:=by unfold Nc.put;rw[ay]
   have ai:=hy' ag;rw[bg];clear bg ag;have af:=ap;clear z0 z1 zl;have ak:=hy' (zA4 aa.o af.o (Za _));have ax:=hy' (aj.o.below af.o);have bt:w.heap.size+1≤w6.heap.size:=Zh bo af.o.size;go_wp2_with (first|(at_builtin;refine zAa _ rfl _ _ _ rfl (w.heap.size+1) 3 i0 _ 8 underlying23 c8 cr dc dk rfl _ t _ rfl ak.o _ rfl rfl (by simp only[maxLen];omega) (by omega) bt ?_;intro v9 w9 ae bi;obtain⟨A9,c9,rfl⟩:=zA3 ae)|fail);refine⟨⟨k+1,A9,c9,t+1,by omega,by first|rfl|go_num,rfl,?_,ax.o.below' bi (ZO _),?_,a7.o.trans ((af.o.mono bo).trans bi)⟩,by simp[intOf];omega⟩
   · rw[bf.o,ai.o,zAk,Zd,←HM.o];rfl
   rw[bf.o,ai.o,zAk,ZL];exact ae
 | some x0 =>
   obtain⟨pl,cb⟩:∃q,s.pre.length=q:=⟨_,rfl⟩;have bg:Nc.base s=(pl:Int):=by unfold Nc.base;rw[hsb];show ((s.pre.length:Nat):Int)=_;rw[cb]
   have cc:=zRN hsb;have b5:=zD3 hsb;rw[cb]at cc b5;have ed:pl<t:=by rw[HM.o];exact (List.getElem?_eq_some_iff.1 b5).1
   have dp:s.B.length=t-(pl+1):=by rw[←cc,ZN,←HM.o]
   have gj:=dl.o.at' x0 hsb;have bs:=gf.o x0 (zOK hsb);rw[bg];obtain⟨gb,go',dm,b7,bz⟩:=(Sl.of_own aa.o) (by rw[Ze,←HM.o];omega);cases dm
   obtain⟨rfl,ez,gi,fm⟩:=zFh aa.o;have cf:=bz pl (by rw[Ze,←HM.o];exact ed);rw[Zo,b5,Zz,Z1]at cf
   have fz:t≤cp:=by
    rcases aa.o.2 with ⟨hv,h0⟩|⟨g',e4,gq,hv,hg,hb,h1,h2,h3,h4⟩
    · cases hv
    cases hv;omega
   have et:=hy' cc;have br:=hy' dp;have a8:=hy' hsb;have ep:=hy' cb;have ek:=hy' bs;have eh:=hy' cf;have bq:=hy' (And.intro b7 ez);have ft:=hy' ((Sl.of_own aa.o).below ap.o ap.o.size);have p0:(0:Int)≤pl:=by omega
   have p1:¬(pl:Int)<0:=by omega
   have p2:(pl:Int)+1≤t:=by omega
   have p3:(pl:Int)+1≤cp:=by omega
   clear bg cc b5 dp bz cf hsb cb bs fm b7;go_upto_region 14 with (fail)
   go_cut [42,43,44] (fun fq fp e3 wx=>(∃(Aq:Option Addr) (cq:Nat),fq=.slice Aq (t-(pl+1)) cq∧Sl w6 w6.heap.size Aq (s.B.map (Value.int .i64)))∧fp=.int .i64 ((t-(pl+1):Nat))∧e3=.int .i64 0∧wx=w6)
   case first =>
    by_cases hce:cp=pl+1
    · obtain rfl:cp=pl+1:=hce;obtain rfl:t=pl+1:=by omega
      go_wp2_with fail;go_meet;exact⟨⟨some ⟨gb,0,none⟩,0,by rw[Ym],by rw[ZG (show s.B.length=0 by rw[br.o,Ym])];exact Sl.nil _ _ _⟩,by first|rfl|simp,rfl,rfl⟩
    have fj:¬cp=pl+1:=hce;go_wp2_with fail;go_meet;refine⟨⟨some ⟨gb,pl+1,none⟩,cp-(pl+1),rfl,?_⟩,by first|rfl|simp,rfl,rfl⟩;have:=ft.o.dropN (pl+1);rw[Z1,←Kq,et.o]at this;exact this
   obtain⟨⟨Aq,cq,rfl,eg⟩,rfl,rfl,dh⟩:=hcut;replace dh:=dh.symm;subst dh;obtain⟨bn,cj⟩:∃q,t-(pl+1)=q:=⟨_,rfl⟩;rw[cj]at br ⊢;have fu:=hy' eg;have gg:=hy' cj;have ew:bn≤100000:=by omega
   clear eg cj z0 z1 zl;obtain⟨q,hq⟩:∃q,f x=q:=⟨_,rfl⟩
   have ct:Hy (∀W,Below w6.heap.size w6 W→Calls prog 21 #[.agg #[.slice AT tn cT,.slice XA xn xc],.int .i64 x] W fun e w'=>e=.returned (.int .i64 q)∧Below W.heap.size W w'):=hy' fun W hW=>by
    have:=c1.o x W (a1.o.trans ((ap.o.trans (hW.mono ap.o.size)).mono a1.o.size));rw[hq]at this;exact this
   have cd:=hy' hq;clear hq;go_wp2_with fail;go_loopw [11,13,44] (fun v11 _ i3 w3=>∃(u:Nat),u≤bn∧i3=.int .i64 u∧v11=.bool ((s.B.take u).any fun y=>decide (q≤f y))∧Below w6.heap.size w6 w3) (fun _ _ i3 _=>bn-(intOf i3).toNat)
   case atStart=>exact⟨0,ZF _,rfl,rfl,Zc _ _⟩
   obtain⟨u,hu,rfl,rfl,bh⟩:=hrel;have az:=hy' bh;obtain⟨w7,rfl⟩:∃w7:World,w7=wr:=⟨_,rfl⟩;clear bh
   by_cases hub:u<bn
   · obtain⟨y,hy⟩:∃y,s.B[u]?=some y:=⟨_,Zb (by rw[br.o];exact hub)⟩;have cn:=dl.o.beh y (Zj hy);obtain⟨hb,ho,e7,gl,dt⟩:=fu.o.below az.o az.o.size (by rw[Ze,br.o];omega);have b9:=dt u (by rw[Ze,br.o];exact hub);rw[Zo,hy,Zz]at b9;have uI:(u:Int)<bn:=by omega
     have u0:(0:Int)≤u:=by omega
     have c6:((s.B.take (u+1)).any fun y=>decide (q≤f y))=(((s.B.take u).any fun y=>decide (q≤f y))||decide (q≤f y)):=by
      rw[ZA,hy,Qz];simp
     obtain⟨r,hr⟩:∃r,f y=r:=⟨_,rfl⟩;rw[hr]at c6 cn
     have b3:Hy (∀W,Below w7.heap.size w7 W→Calls prog 21 #[.agg #[.slice AT tn cT,.slice XA xn xc],.int .i64 y] W fun e w'=>e=.returned (.int .i64 r)∧Below W.heap.size W w'):=hy' fun W hW=>by
      have:=c1.o y W (a1.o.trans ((ap.o.trans ((az.o.trans (hW.mono az.o.size)).mono ap.o.size)).mono a1.o.size));rw[hr]at this;exact this
     have cz:Hy (∀W,Below w7.heap.size w7 W→Calls prog 21 #[.agg #[.slice AT tn cT,.slice XA xn xc],.int .i64 x] W fun e w'=>e=.returned (.int .i64 q)∧Below W.heap.size W w'):=hy' fun W hW=>ct.o W (az.o.trans (hW.mono az.o.size))
     have dn:Hy (∀W,Below w7.heap.size w7 W→(∀x:Stg.Later Stg.Ex W,x.val.cell? ⟨w.heap.size,0,none⟩=some (.slice AT tn cT))∧(∀x:Stg.Later Stg.Ex W,x.val.cell? ⟨w.heap.size,1,none⟩=some (.slice XA xn xc))):=hy' fun W hW =>
      have hT:=((aj.o.below ap.o).below az.o).below hW
      ⟨Stg.cells (hT.cell 0 rfl) hT.lt,Stg.cells (hT.cell 1 rfl) hT.lt⟩
     have gh:(r == 0)=false:=by simpa using cn
     have b8:=hy' c6;have ar:=hy' (Zc w7.heap.size w7).drew;obtain⟨bb,bu⟩:∃b,((s.B.take u).any fun y=>decide (q≤f y))=b:=⟨_,rfl⟩;rw[bu]at b8 ⊢;subst e7;clear hy cn dt c6 hr bu;go_upto_region 17 with (fail)
     refine Stg.wp_region (by kernel_rfl) Stg.Ex Stg.Ex.rel ?_;obtain⟨f0,f1⟩:=dn.o w7.drew ar.o;refine Stg.read 0 (by kernel_rfl) w7.drew rfl ?_;intro K hK;go_big_quiet_op;go_big_quiet_on;refine Stg.readW (by kernel_rfl) ?_;intro K hK;go_big_quiet_op;go_big_quiet_on;refine Stg.cl 21 _ _ rfl func21 [.agg #[.slice AT tn cT,.slice XA xn xc],.int .i64 y] rfl w7.drew _ (b3.o w7.drew ar.o) (by kernel_rfl) rfl ?_;rintro e q1 ⟨rfl,hb⟩;refine⟨_,rfl,hb,?_⟩;have bj:=hy' (ar.o.trans (hb.mono ar.o.size));clear hb;intro A' aq;simp only[Act.put,Zl,Zv,Zs]at aq;subst aq
     (iterate 2 (refine Stg.readW (by kernel_rfl) ?_;intro K hK;go_big_quiet_op;go_big_quiet_on));clear f0 f1;obtain⟨f0,f1⟩:=dn.o q1 bj.o;refine Stg.read 0 (by kernel_rfl) q1 rfl ?_;intro K hK;go_big_quiet_op;go_big_quiet_on;refine Stg.readW (by kernel_rfl) ?_;intro K hK;go_big_quiet_op;go_big_quiet_on;refine Stg.cl 21 _ _ rfl func21 [.agg #[.slice AT tn cT,.slice XA xn xc],.int .i64 y] rfl q1 _ (b3.o q1 bj.o) (by kernel_rfl) rfl ?_;rintro e q2 ⟨rfl,hb⟩;refine⟨_,rfl,hb,?_⟩;have ch:=hy' (bj.o.trans (hb.mono bj.o.size));clear hb;intro A' aq;simp only[Act.put,Zl,Zv,Zs]at aq;subst aq;refine Stg.read 1 (by kernel_rfl) q1 rfl ?_;intro K hK;go_big_quiet_op;go_big_quiet_on;refine Stg.readW (by kernel_rfl) ?_;intro K hK;go_big_quiet_op;go_big_quiet_on;refine Stg.cl 21 _ _ rfl func21 [.agg #[.slice AT tn cT,.slice XA xn xc],.int .i64 x] rfl q2 _ (cz.o q2 ch.o) (by kernel_rfl) rfl ?_;rintro e q3 ⟨rfl,hb⟩;refine⟨_,rfl,hb,?_⟩;have ey:=hy' (ch.o.trans (hb.mono ch.o.size));clear hb;intro A' aq;simp only[Act.put,Zl,Zv,Zs]at aq;subst aq
     (iterate 2 (refine Stg.readW (by kernel_rfl) ?_;intro K hK;go_big_quiet_op;go_big_quiet_on));clear f0 f1;refine Stg.nil q3 rfl ?_;have ee:=hy' (az.o.trans (ey.o.mono az.o.size));obtain⟨d,hd⟩:∃d,decide (q≤r)=d:=⟨_,rfl⟩;rw[hd]at b8
     by_cases hqr:q≤r
     · have cm:d=true:=by rw[←hd];exact Zp hqr
       subst cm;have hge:r≥q:=hqr;clear hd;go_wp2_with fail;exact⟨⟨u+1,by omega,by first|rfl|go_num,by rw[b8.o];simp,ee.o⟩,by simp[intOf];omega⟩
     have cm:d=false:=by rw[←hd];exact Zq hqr
     subst cm;have hge:¬r≥q:=hqr;clear hd;go_wp2_with fail;exact⟨⟨u+1,by omega,by first|rfl|go_num,by rw[b8.o];simp,ee.o⟩,by simp[intOf];omega⟩
   obtain rfl:u=bn:=by omega
   rw[Zi (by rw[br.o];exact Za _)];have uI:¬(u:Int)<u:=by omega
   have af:=hy' (ap.o.trans (az.o.mono ap.o.size))
   have au:zC2 f s.B<q↔(s.B.any fun y=>decide (q≤f y))=false:=by
    rw[zIg,XJ];have bm:=(fh.o x).1;rw[cd.o]at bm;constructor
    · rintro⟨_,h⟩ y hy;have:=h y hy;simp;omega
    intro h;refine⟨by omega,fun y hy=>?_⟩;have:=h y hy;simp at this;omega
   obtain⟨bb,bu⟩:∃b,(s.B.any fun y=>decide (q≤f y))=b:=⟨_,rfl⟩;rw[bu]at au ⊢;clear bu hub hu;cases bb
   rotate_left
   · have ay:Nc.hit f j s x=none:=by unfold Nc.hit;rw[cd.o,if_neg (fun h=>by have:=au.1 h;cases this)]
     have ag:Nc.put f j s x=Nc.app f s x:=by unfold Nc.put;rw[ay]
     have ai:=hy' ag;clear ay ag au;have ak:=hy' (zA4 aa.o af.o (Za _));have ax:=hy' (aj.o.below af.o);have bt:w.heap.size+1≤w7.heap.size:=Zh bo af.o.size;go_wp2_with (first|(at_builtin;refine zAa _ rfl _ _ _ rfl (w.heap.size+1) 3 i0 _ 8 underlying23 c8 cr dc dk rfl _ t _ rfl ak.o _ rfl rfl (by simp only[maxLen];omega) (by omega) bt ?_;intro v9 w9 ae bi;obtain⟨A9,c9,rfl⟩:=zA3 ae)|fail);refine⟨⟨k+1,A9,c9,t+1,by omega,by first|rfl|go_num,rfl,?_,ax.o.below' bi (ZO _),?_,a7.o.trans ((af.o.mono bo).trans bi)⟩,by simp[intOf];omega⟩
     · rw[bf.o,ai.o,zAk,Zd,←HM.o];rfl
     rw[bf.o,ai.o,zAk,ZL];exact ae
   have ba:=au.2 rfl;clear au
   have b4:Hy (∀W,Below w7.heap.size w7 W→(∀x:Stg.Later Stg.Ex W,x.val.cell? ⟨w.heap.size,0,none⟩=some (.slice AT tn cT))∧(∀x:Stg.Later Stg.Ex W,x.val.cell? ⟨w.heap.size,1,none⟩=some (.slice XA xn xc))∧(∀u:Stg.Later Stg.Ex W,u.val.cell? ⟨gb,pl,none⟩=some (.int .i64 x0))):=hy' fun W hW =>
    have cx:=af.o.trans (hW.mono af.o.size);have hT:=aj.o.below cx
    ⟨Stg.cells (hT.cell 0 rfl) hT.lt,Stg.cells (hT.cell 1 rfl) hT.lt,Stg.cells (((zAQ cx).1 _ _ bq.o.1).trans eh.o) (Zf bq.o.1 cx.size)⟩
   have ar:=hy' (Zc w7.heap.size w7).drew;have pI:(pl:Int)<t:=by omega
   cases hj0:j x0 x with
   | none =>
     have cy:Hy (∀W,Below w7.heap.size w7 W→Calls prog 64 #[.agg #[.slice AT tn cT,.slice XA xn xc],.int .i64 x0,.int .i64 x] W fun e w'=>e=.returned (.int .i64 (-1))∧Below W.heap.size W w'):=hy' fun W hW=>by
      have:=dx.o x0 x W (a1.o.trans ((af.o.trans (hW.mono af.o.size)).mono a1.o.size)) ek.o ea.o;rw[hj0]at this;exact this
     have ay:Nc.hit f j s x=none:=by unfold Nc.hit;rw[cd.o,if_pos ba,a8.o];exact hj0
     have ag:Nc.put f j s x=Nc.app f s x:=by unfold Nc.put;rw[ay]
     have ai:=hy' ag;clear ay ag ba hj0;go_upto_region 21 with (fail)
     refine Stg.wp_region (by kernel_rfl) Stg.Ex Stg.Ex.rel ?_;obtain⟨f0,f1,e0⟩:=b4.o w7.drew ar.o;refine Stg.read 0 (by kernel_rfl) w7.drew rfl ?_;intro K hK;go_big_quiet_op;go_big_quiet_on;(iterate 3 (refine Stg.readW (by kernel_rfl) ?_;intro K hK;go_big_quiet_op;go_big_quiet_on));refine Stg.read 0 (by kernel_rfl) w7.drew rfl ?_;intro K hK;go_big_quiet_op;go_big_quiet_on;refine Stg.readW (by kernel_rfl) ?_;intro K hK;go_big_quiet_op;go_big_quiet_on;refine Stg.cl 64 _ _ rfl func64 [.agg #[.slice AT tn cT,.slice XA xn xc],.int .i64 x0,.int .i64 x] rfl w7.drew _ (cy.o w7.drew ar.o) (by kernel_rfl) rfl ?_;rintro e q1 ⟨rfl,hb⟩;refine⟨_,rfl,hb,?_⟩;have bj:=hy' (ar.o.trans (hb.mono ar.o.size));clear hb;intro A' aq;simp only[Act.put,Zl,Zv,Zs]at aq;subst aq
     refine Stg.readW (by kernel_rfl) ?_;intro K hK;go_big_quiet_op;go_big_quiet_on;clear f0 f1 e0;refine Stg.nil q1 rfl ?_;have bk:=hy' (af.o.trans (bj.o.mono af.o.size));clear af;have af:=bk;have ak:=hy' (zA4 aa.o af.o (Za _));have ax:=hy' (aj.o.below af.o);have bt:w.heap.size+1≤q1.heap.size:=Zh bo af.o.size;go_wp2_with (first|(at_builtin;refine zAa _ rfl _ _ _ rfl (w.heap.size+1) 3 i0 _ 8 underlying23 c8 cr dc dk rfl _ t _ rfl ak.o _ rfl rfl (by simp only[maxLen];omega) (by omega) bt ?_;intro v9 w9 ae bi;obtain⟨A9,c9,rfl⟩:=zA3 ae)|fail);refine⟨⟨k+1,A9,c9,t+1,by omega,by first|rfl|go_num,rfl,?_,ax.o.below' bi (ZO _),?_,a7.o.trans ((af.o.mono bo).trans bi)⟩,by simp[intOf];omega⟩
     · rw[bf.o,ai.o,zAk,Zd,←HM.o];rfl
     rw[bf.o,ai.o,zAk,ZL];exact ae
   | some p =>
     have cy:Hy (∀W,Below w7.heap.size w7 W→Calls prog 64 #[.agg #[.slice AT tn cT,.slice XA xn xc],.int .i64 x0,.int .i64 x] W fun e w'=>e=.returned (.int .i64 p)∧Below W.heap.size W w'):=hy' fun W hW=>by
      have:=dx.o x0 x W (a1.o.trans ((af.o.trans (hW.mono af.o.size)).mono a1.o.size)) ek.o ea.o;rw[hj0]at this;exact this
     have e1:=e6.o _ _ _ hj0;have ay:Nc.hit f j s x=some p:=by unfold Nc.hit;rw[cd.o,if_pos ba,a8.o];exact hj0
     have ag:Nc.put f j s x=⟨s.pre,some p,s.B⟩:=by unfold Nc.put;rw[ay]
     have ai:=hy' ag;have gp:p≥0:=e1;clear ay ag ba hj0;go_upto_region 21 with (fail)
     refine Stg.wp_region (by kernel_rfl) Stg.Ex Stg.Ex.rel ?_;obtain⟨f0,f1,e0⟩:=b4.o w7.drew ar.o;refine Stg.read 0 (by kernel_rfl) w7.drew rfl ?_;intro K hK;go_big_quiet_op;go_big_quiet_on;(iterate 3 (refine Stg.readW (by kernel_rfl) ?_;intro K hK;go_big_quiet_op;go_big_quiet_on));refine Stg.read 0 (by kernel_rfl) w7.drew rfl ?_;intro K hK;go_big_quiet_op;go_big_quiet_on;refine Stg.readW (by kernel_rfl) ?_;intro K hK;go_big_quiet_op;go_big_quiet_on;refine Stg.cl 64 _ _ rfl func64 [.agg #[.slice AT tn cT,.slice XA xn xc],.int .i64 x0,.int .i64 x] rfl w7.drew _ (cy.o w7.drew ar.o) (by kernel_rfl) rfl ?_;rintro e q1 ⟨rfl,hb⟩;refine⟨_,rfl,hb,?_⟩;have bj:=hy' (ar.o.trans (hb.mono ar.o.size));clear hb;intro A' aq;simp only[Act.put,Zl,Zv,Zs]at aq;subst aq
     refine Stg.readW (by kernel_rfl) ?_;intro K hK;go_big_quiet_op;go_big_quiet_on;clear f0 f1 e0;refine Stg.nil q1 rfl ?_;have bk:=hy' (af.o.trans (bj.o.mono af.o.size));have du:=hy' (zA4 aa.o bk.o (Za _));have yc:=((zAQ bk.o).1 _ pl bq.o.1).trans eh.o;have yl:=Zf bq.o.1 bk.o.size;have yf:=(zFh du.o).2.2.2 pl;go_wp2_with fail;refine⟨⟨k+1,some ⟨gb,0,none⟩,cp,t,by omega,by first|rfl|go_num,rfl,?_,(aj.o.below bk.o).other (by have:=bq.o.2;omega) _,?_,(a7.o.trans (bk.o.mono bo)).setCell (p:=⟨gb,pl,none⟩) bq.o.2 _⟩,by simp[intOf];omega⟩
     · rw[bf.o,ai.o,zCO a8.o,Y0,←HM.o]
     rw[bf.o,ai.o,zCO a8.o,QF,ep.o];exact zNs du.o (by rw[Ze,←HM.o];exact ed) _
end Go.Proofs.YtjakbblocbicjaaGreatDoor
