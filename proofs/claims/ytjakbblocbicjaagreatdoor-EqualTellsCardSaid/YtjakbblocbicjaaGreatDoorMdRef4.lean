/- order.Of, by walking its text. -/
import Derived.Test.YtjakbblocbicjaaGreatDoorOrWalk
set_option maxRecDepth 100000
set_option maxHeartbeats 8000000
set_option linter.unusedVariables false
set_option linter.unusedSimpArgs false
namespace Go.Proofs.YtjakbblocbicjaaGreatDoor
open Go.Proofs.Tryz
open Go.RowKit
theorem Ss.At.of_own {w:World} {base g n cap:Nat} {l:List Int} (hl:l.length=n) (h:w.ownsRow base 21 1 (.slice (some ⟨g,0,none⟩) n cap) n (l.map (Value.int .i32))):Ss.At w g cap l∧base≤g∧n≤cap∧cap≤maxLen:=by
 rcases h.2 with ⟨hv,_⟩|⟨g',ae,aa,hv,hg,hb,h1,h2,h3,h4⟩
 · cases hv
 simp only[ZZ,Zg,YZ,YQ,Qx]at hv;obtain⟨rfl,rfl⟩:=hv;refine⟨⟨aa.toList.drop n,?_,?_⟩,hg,h1,h2⟩
 · have e:aa.toList.length=aa.size:=XV;rw[ZN,e,h3,hl];omega
 unfold Rw.At;rw[Xj]at h4;rw[←h4,ZI];simpa using hb
theorem Ss.At.own {w:World} {base g n cap:Nat} {Z:List Int} (h:Ss.At w g cap Z) (hl:Z.length=n) (hb:base≤g) (hc:n≤cap) (hm:cap≤maxLen):w.ownsRow base 21 1 (.slice (some ⟨g,0,none⟩) n cap) n (Z.map (Value.int .i32)):=by
 obtain⟨R,hs,ha⟩:=h;refine⟨by rw[Ze,hl,Xj],.inr ⟨g,cap,_,rfl,hb,ha,hc,hm,?_,?_⟩⟩
 · simp;omega
 rw[Xj];simp[hl]
theorem Or.of_any (v:Value) (T:List Rw.Row) (S:List Int) (A:Option Addr) (n c:Nat) (l:List Int) (w:World) (ok:Ud.Ok T S) (h:Ud.Is w v T S) (hl:l.length=n) (hn:n≤100000) (hA:Sl w w.heap.size A (l.map (Value.int .i32))) (bb:∀bm cd k N,(∀(args:Array Value) (w:World),(callFunc bm args).run prog w=.ok (.enter bm args) w)→zE7 bm cd k N) :
 Calls prog 88 #[v,.slice A n c] w (Md.RetOwn (Or.of (Md.cls T) l) w):=by
 have a7:Below w.heap.size w (w.alloc (.cells #[v] 29)):=(Zc _ _).alloc (Za _) _;obtain⟨wa,bh⟩:∃wa,w.alloc (.cells #[v] 29)=wa:=⟨_,rfl⟩;have b9:Rw.At wa w.heap.size 29 [v]:=by rw[←bh];exact Rw.At.new w 29 [v]
 rw[bh]at a7;have bw:=zBY A n c w.heap.size l wa hl (Zh hn (by decide)) a7.size (hA.below a7 (Za _));obtain⟨pv,cp,_⟩:=h.form;have ck:=hy' bh;have bn:=hy' a7;have cj:=hy' b9;have cg:=hy' h;have b5:=hy' ok;have HL:=hy' hl;have ct:=hy' bb;obtain⟨f,hf⟩:∃f,Md.cls T=f:=⟨_,rfl⟩;rw[hf];have HF:=hy' hf;subst cp;clear bh a7 b9 h ok hl bb hA hf;go_enter func88,ntmps88;go_upto_region 1 with (fail)
 rw[ck.o];go_wp2_with fail;refine bw.mono ?_;rintro e w1 ⟨A1,c1,rfl,ai,bi⟩;have bt:=hy' (bn.o.trans (bi.mono bn.o.size));have bu:=hy' (cj.o.below bi);rcases ai.2 with ⟨hv,h0⟩|⟨g,cap,dc,hv,hg,cu,k1,k2,k3,k4⟩
 · simp only[ZZ]at hv;obtain⟨rfl,rfl,rfl⟩:=hv;have c6:l=[]:=ZG HL.o;subst c6;clear ai bi bw;go_wp2_with fail;go_loopw [7,8] (fun vi _ wr=>vi=.int .i64 0∧wr=w1) (fun _ _ _=>0)
   case round =>
    obtain⟨rfl,rfl⟩:=hrel;go_wp2_with fail;go_ret;exact⟨none,0,rfl,ZE _ _ _ _,bt.o⟩
   exact⟨rfl,rfl⟩
 simp only[ZZ]at hv;obtain⟨rfl,_,bs⟩:=hv;replace bs:=bs.symm;subst bs;obtain⟨ch,cf,cv,c7⟩:=Ss.At.of_own HL.o ai;have cz:w.heap.size+1≤g:=Zh (show w.heap.size+1≤wa.heap.size from cj.o.lt) hg;have br:∀W,w1.grownBy W (some g)→Below w.heap.size w W:=fun W hW=>bt.o.grown hW bt.o.size (by intro k hk;simp only[Zg]at hk;omega)
 have ah:∀W,w1.grownBy W (some g)→W.cell? ⟨w.heap.size,0,none⟩=some (.pointer (some ⟨pv,0,none⟩))∧w.heap.size<W.heap.size:=fun W hW=>by
  have:=bu.o.grown hW (by simp only[QB,Zg];omega);exact⟨this.cell 0 rfl,this.lt⟩
 have aq:Ss.Cmp 118 (some ⟨w.heap.size,0,none⟩) f g w1:=fun W hW x y=>by
  have:=zMb _ T S w.heap.size x y W b5.o (cg.o.below (br W hW)) (ah W hW).1 (ah W hW).2;rw[HF.o]at this;exact this
 have a1:=fun (o n1 bp:Nat) (P1 L1 Q1:List Int) (W:World) (hW:w1.grownBy W (some g))=>Or.sort_any 118 (some ⟨w.heap.size,0,none⟩) f zMc (fun N=>ct.o _ _ _ N zMc) cap g o n1 bp P1 L1 Q1 W (aq.grown hW)
 have ap:=hy' a1;have b7:=hy' br;have bz:=hy' ah;have cq:=hy' aq;have b3:=hy' ch;have bl:Hy (w.heap.size≤g∧n≤cap∧cap≤maxLen):=hy' ⟨Zh (by have:=bn.o.size;exact this) cf,cv,c7⟩;clear ai bi bw cu k3 k4 k1 k2 br ah aq ch cf cz hg a1;go_wp2_with fail;go_loopw [7,8] (fun vi _ wr=>∃(j:Nat) (Z:List Int),vi=.int .i64 j∧Z.length=n∧j≤n+1∧((j≤n∧∃q,Or.Pre f (l.take j) q∧Z=q++l.drop j)∨(n<j∧Or.R f l Z))∧Ss.At wr g cap Z∧w1.grownBy wr (some g)) (fun vi _ _=>n+1-(intOf vi).toNat)
 case atStart=>exact⟨0,l,rfl,HL.o,by omega,.inl ⟨by omega,[],by simpa using Or.Pre.nil,by simp⟩,b3.o,zAP _ _⟩
 obtain⟨j,Z,rfl,b4,hj,aj,ag,bg⟩:=hrel
 by_cases hlt:j<n
 rotate_left
 · have jI:¬(j:Int)<n:=by omega
   have hR:Or.R f l Z:=by
    rcases aj with ⟨cr,q,ae,rfl⟩|⟨_,h⟩
    · obtain rfl:j=n:=by omega
      rw[Yh (by rw[HL.o];exact Za _)];have h:=ae.app (Or.R.run (f:=f) (a:=[]) (b:=[]) (fun x hx=>by simp at hx) (zGe f) (Ss.eqv.refl _ _));rw[Z3,Zi (by rw[HL.o];exact Za _)]at h;exact h
    exact h
   have hZ:Z=Or.of f l:=(Or.R.unique (zBP f l) hR);have bk:(Or.of f l).length=n:=by rw[←hZ];exact b4
   rw[hZ]at ag;have ao:=ag.own (n:=n) (base:=w.heap.size) bk bl.o.1 bl.o.2.1 bl.o.2.2;have HO:=hy' ao;have cx:=hy' (b7.o wr bg);have cm:=hy' bk;clear hR hZ ag ao bg bk b4;go_wp2_with fail;go_ret;unfold Md.RetOwn;rw[cm.o];exact⟨_,_,rfl,HO.o,cx.o⟩
 rcases aj with ⟨_,q,ae,rfl⟩|⟨cr,_⟩
 rotate_left
 · omega
 have b6:q.length=j:=by rw[ae.length,Zr,HL.o];omega
 have av:=hy' b6;have a8:=hy' ae;have bq:=hy' ag;have cn:=hy' bg;have jI:(j:Int)<n:=by omega
 clear b6 ae ag bg b4;go_wp2_with fail;obtain⟨wo,rfl⟩:∃wo:World,wo=wr:=⟨_,rfl⟩;go_loopw [8] (fun vi wq=>∃i:Nat,j≤i∧i≤n∧vi=.int .i64 i∧(∀x∈(l.drop j).take (i-j),0<f x)∧Ss.At wq g cap (q++l.drop j)∧w1.grownBy wq (some g)) (fun vi _=>n-(intOf vi).toNat)
 case atStart=>exact⟨j,Za _,by omega,rfl,by simp,bq.o,cn.o⟩
 obtain⟨i,cw,c8,rfl,hpos,aa,ax⟩:=hrel;have bc:=hy' hpos;have bx:=hy' ax;have au:=hy' aa;obtain⟨b1,b2⟩:=bz.o wr ax;have xb:=Ext.cells b1 b2;have gl:=aa.lt
 by_cases hie:i<n
 rotate_left
 · obtain rfl:i=n:=by omega
   have iI:¬(i:Int)<i:=by omega
   have ak:(l.drop j).take (i-j)=l.drop j:=Zi (by rw[ZN,HL.o];exact Za _);rw[ak]at hpos;have bf:=hy' hpos;have hlen:(l.drop j).length=i-j:=by rw[ZN,HL.o]
   have hS:=hy' (ap.o j (i-j) (cap-j) q (l.drop j) [] wr ax (by simpa using aa) av.o hlen (by omega));have ar:=hy' hlen;clear xb b1 ak hpos hlen aa ax hS;go_wp2_with fail;refine zA7 (by kernel_rfl) (by kernel_rfl) ?_
   repeat (go_big_quiet_step (fail))
   refine wpQuiet_nil ?_;intro xw;have h1:=au.o.below xw.below;have h2:=zA0 bx.o (Ss.grown_below xw.below);have hS:=hy' (ap.o j (i-j) (cap-j) q (l.drop j) [] xw.val h2 (by simpa using h1) av.o ar.o (by omega));have H2:=hy' h2;clear h1 h2;go_wp2_with fail;refine hS.out.mono ?_;rintro e w2 ⟨rfl,⟨C,sC,eC,af⟩,a6⟩;have ba:Ss.At w2 g cap (q++C):=by simpa using af
   have aw:Or.R f l (q++C):=by
    have h:=a8.o.app (Or.R.run bf.o sC eC);rw[ZI]at h;exact h
   have ay:(q++C).length=i:=aw.length.trans HL.o;have N1:=hy' ba;have N2:=hy' aw;have N3:=hy' ay;have N4:=hy' (zA0 H2.o a6);clear ba aw ay sC eC af a6 hS;go_wp2_with fail;exact⟨⟨i+1,q++C,by first|rfl|go_num,N3.o,by omega,.inr ⟨by omega,N2.o⟩,N1.o,N4.o⟩,by simp[intOf];omega⟩
 obtain⟨y,hy⟩:∃y,l[i]?=some y:=⟨_,Zb (by rw[HL.o];exact hie)⟩
 have cb:(q++l.drop j)[i]?=some y:=by
  rw[ZH (by rw[av.o];exact cw),av.o,Xk,show j+(i-j)=i by omega];exact hy
 have cy:=aa.cell cb;have xy:=Ext.cells cy gl
 have CC:=hy' (Ext.call (w:=wr) fun W hW=>by
  have:=Ud.class_any _ T S y W b5.o (cg.o.below (b7.o W (zA0 ax (Ss.grown_below hW))));rw[HF.o]at this;exact this)
 have iI:(i:Int)<n:=by omega
 have i0:(0:Int)≤i:=by omega
 have cc:(l.drop j).take (i+1-j)=(l.drop j).take (i-j)++[y]:=by
  rw[show i+1-j=i-j+1 by omega,ZA,Xk,show j+(i-j)=i by omega,hy];rfl
 have b8:=hy' cc;have HY:=hy' hy;obtain⟨u,hu⟩:∃u,f y=u:=⟨_,rfl⟩;rw[hu]at CC;have HU:=hy' hu;clear hpos ax aa hy cb cc hu
 by_cases hup:0<u
 · have bo:u > 0:=hup;go_wp2_with fail;refine zA7 (by kernel_rfl) (by kernel_rfl) ?_
   repeat (go_big_quiet_step ((go_at_call 52;with_reducible exact CC.o _)))
   refine wpQuiet_nil ?_;intro xw;have H1:=hy' (au.o.below xw.below);have H2:=hy' (zA0 bx.o (Ss.grown_below xw.below));clear xb xy b1 cy;go_wp2_with fail;refine⟨⟨i+1,by omega,by omega,by go_num,?_,H1.o,H2.o⟩,by simp[intOf];omega⟩;rw[b8.o];intro x hx;rcases List.mem_append.1 hx with hx|hx
   · exact bc.o x hx
   rw[Zt]at hx;rw[hx,HU.o];exact hup
 have bo:¬u > 0:=hup;go_wp2_with fail;refine zA7 (by kernel_rfl) (by kernel_rfl) ?_
 repeat (go_big_quiet_step ((go_at_call 52;with_reducible exact CC.o _)))
 refine wpQuiet_nil ?_;intro xw
 have hdr:l.drop j=(l.drop j).take (i-j)++y::l.drop (i+1):=by
  obtain⟨u1,u2⟩:=List.getElem?_eq_some_iff.1 HY.o;have h1:l.drop i=y::l.drop (i+1):=by rw[ZR u1,u2]
  rw[←h1];have h2:=(ZI (i-j) (l.drop j)).symm;rw[Qe,show j+(i-j)=i by omega]at h2;exact h2
 have hlen:((l.drop j).take (i-j)).length=i-j:=by rw[Zr,ZN,HL.o];omega
 have az:l.take (i+1)=l.take j++((l.drop j).take (i-j)++[y]):=by
  have h:=b8.o;rw[←h,←QS,show j+(i+1-j)=i+1 by omega]
 have h1:=au.o.below xw.below;rw[hdr]at h1;have h2:=zA0 bx.o (Ss.grown_below xw.below);have hS:=hy' (ap.o j (i-j) (cap-j) q ((l.drop j).take (i-j)) (y::l.drop (i+1)) xw.val h2 h1 av.o hlen (by omega));have H2:=hy' h2;have bj:=hy' az;have ar:=hy' hlen;clear xb xy b1 cy hdr hlen az h1 h2;go_wp2_with fail;refine hS.out.mono ?_;rintro e w2 ⟨rfl,⟨C,sC,eC,af⟩,a6⟩;have ba:Ss.At w2 g cap ((q++(C++[y]))++l.drop (i+1)):=by simpa using af
 have aw:Or.Pre f (l.take (i+1)) (q++(C++[y])):=by
  rw[bj.o];exact Or.Pre.snoc a8.o bc.o sC eC (by rw[HU.o];omega)
 have ay:((q++(C++[y]))++l.drop (i+1)).length=n:=by
  have h1:=eC.length;rw[ar.o]at h1;have h2:=av.o;have h3:=HL.o;simp;omega
 have N1:=hy' ba;have N2:=hy' aw;have N3:=hy' ay;have N4:=hy' (zA0 H2.o a6);clear ba aw ay sC eC af a6 hS;go_wp2_with fail;exact⟨⟨i+1,(q++(C++[y]))++l.drop (i+1),by first|rfl|go_num,N3.o,by omega,.inl ⟨by omega,_,N2.o,rfl⟩,N1.o,N4.o⟩,by simp[intOf];omega⟩
theorem zGY:∀(rs:List Rw.Row) (ads:List (Option Addr × Nat)) (r:Rw.Row) (a:Option Addr × Nat),ads.length=rs.length →
 zBm (rs++[r]) (ads++[a])=zBm rs ads++[.int .i64 r.1,.int .i64 r.2.1,.slice a.1 r.2.2.length a.2]
 | [],[],r,a,_=>rfl
 | [],_::_,_,_,h=>by simp at h
 | q::rs,[],r,a,h=>by simp at h
 | q::rs,b::ads,r,a,h=>by
   simp only[Zx,zBm];rw[zGY rs ads r a (by simpa using h)]
def Rw.MapsI (w:World) (rs:List Rw.Row) (ads:List (Option Addr × Nat)):Prop:=∀(i:Nat) (r:Rw.Row) (a:Option Addr × Nat),rs[i]?=some r→ads[i]?=some a→Slt w 3 a.1 (r.2.2.map (Value.int .i64))
theorem Rw.MapsI.app {w:World} {rs:List Rw.Row} {ads:List (Option Addr × Nat)} (h:Rw.MapsI w rs ads) (hl:ads.length=rs.length) {r:Rw.Row} {a:Option Addr × Nat} (hr:Slt w 3 a.1 (r.2.2.map (Value.int .i64))):Rw.MapsI w (rs++[r]) (ads++[a]):=by
 intro i q x hq hx;rcases Z0 i rs.length with hi|hi
 · rw[ZS hi]at hq;rw[ZS (by omega)]at hx;exact h i q x hq hx
 rw[ZH hi]at hq;rw[ZH (by omega)]at hx;obtain⟨j,hj⟩:∃j,i-rs.length=j:=⟨_,rfl⟩;rw[hl,hj]at hx;rw[hj]at hq;rcases j with _|j
 · simp at hq hx;subst hq hx;exact hr
 simp at hq
theorem Rw.MapsI.below {w w':World} {rs:List Rw.Row} {ads:List (Option Addr × Nat)} (h:Rw.MapsI w rs ads) (hb:Below w.heap.size w w'):Rw.MapsI w' rs ads:=fun i r a h1 h2=>(h i r a h1 h2).below hb
theorem Rw.MapsI.grown {w w':World} {rs:List Rw.Row} {ads:List (Option Addr × Nat)} {row:Option Nat} (h:Rw.MapsI w rs ads) (hg:w.grownBy w' row) (hr:∀k,row=some k→∀cs z,w.heap[k]?≠some (.cells cs 3 z)):Rw.MapsI w' rs ads :=
 fun i r a h1 h2=>(h i r a h1 h2).grown hg hr
theorem zIM {w:World} {A:Option Addr} {rs:List Rw.Row} {ads:List (Option Addr × Nat)} (hl:ads.length=rs.length) (hs:Slt w 39 A (zBm rs ads)) (hm:Rw.MapsI w rs ads):Rw.SeesI w A rs :=
 ⟨ads,hl,hs.sl,fun i r a h1 h2=>(hm i r a h1 h2).sl⟩
theorem Rw.At.slt {w:World} {b:Nat} {t:TypeId} {cs:List Value} (h:Rw.At w b t cs):Slt w t (some ⟨b,0,none⟩) cs :=
 fun _=>⟨b,0,cs.toArray,rfl,h,fun i _=>by simp⟩
theorem zOB:(prog.info? 39).map (fun i=>(i.zero,i.size,i.bytes))=some (some (.agg #[.int .i64 0,.int .i64 0,.slice none 0 0]),3,40):=by kernel_rfl
def Md.Doc (w:World) (v:Value) (T:List Rw.Row) (E:List Int):Prop:=∃A c XA xc,v=zAX A T.length c XA E.length xc∧Rw.SeesI w A T∧Sl w w.heap.size XA (E.map (Value.int .i64))
theorem Md.Doc.below {w w':World} {v:Value} {T:List Rw.Row} {E:List Int} (h:Md.Doc w v T E) (hb:Below w.heap.size w w'):Md.Doc w' v T E:=by
 obtain⟨A,c,XA,xc,h1,h2,h3⟩:=h;exact⟨A,c,XA,xc,h1,h2.below hb,h3.below hb hb.size⟩
theorem Md.in_any (A:Option Addr) (n c:Nat) (l:List Int) (d:Int) (w:World) (hn:l.length=n) (aj:n≤1000000) (hA:Sl w w.heap.size A (l.map (Value.int .i64))) :
 Calls prog 117 #[.slice A n c,.int .i64 d] w fun e w'=>e=.returned (.bool (decide (d∈l)))∧w=w':=by
 obtain⟨o,ho⟩:∃o,decide (d∈l)=o:=⟨_,rfl⟩;rw[ho];have HO:=hy' ho;have HN:=hy' hn;have HA:=hy' hA;clear ho hn hA;go_enter func117,ntmps117;go_wp2_with fail;go_loop [9] (fun i=>∃k:Nat,k≤n∧i=.int .i64 k∧d∉l.take k) (fun i=>n-(intOf i).toNat)
 case atStart=>exact⟨0,ZF _,rfl,by simp⟩
 obtain⟨k,hk,rfl,ag⟩:=hrel;have af:=hy' ag;clear ag
 by_cases hlt:k<n
 rotate_left
 · obtain rfl:n=k:=by omega
   have aa:o=false:=by
    rw[←HO.o];have:=af.o;rw[Zi (by rw[HN.o];exact Za _)]at this;exact Zq this
   have ae:=hy' aa;clear aa hlt;go_wp2_with fail;go_ret;exact⟨by rw[ae.o];rfl,rfl⟩
 obtain⟨x,hx⟩:∃x,l[k]?=some x:=⟨_,Zb (by rw[HN.o];exact hlt)⟩;obtain⟨ab,ao,rfl,ak,ah⟩:=HA.o (by rw[Ze,HN.o];omega);have hc:=ah k (by rw[Ze,HN.o];exact hlt);rw[Zo,hx,Zz]at hc;have ap:(k:Int)<n:=by omega
 have HX:=hy' hx;clear ah hx;rcases hxd:(x == d) with _|_
 · have hne:¬x=d:=by simpa using hxd
   have ai:Hy (d∉l.take (k+1)):=hy' (by
    rw[ZA,HX.o];intro h;rcases List.mem_append.1 h with h|h
    · exact af.o h
    simp at h;exact hne h.symm)
   clear hne;go_wp2_with fail;go_round
   case rel=>exact⟨k+1,by omega,by go_num,ai.o⟩
   simp[intOf];omega
 have he:x=d:=beq_iff_eq.1 hxd
 have aa:o=true:=by
  rw[←HO.o];exact Zp (by rw[←he];exact Zj HX.o)
 have ae:=hy' aa;clear he aa;go_wp2_with fail;go_ret;exact⟨by rw[ae.o];rfl,rfl⟩
theorem Md.find_take {T:List Rw.Row} {k:Nat} {r:Rw.Row} {c:Int} (hr:T[k]?=some r) (aa:∀q∈T.take k,q.1≠c) (he:r.1=c):Md.find T c=some r:=by
 obtain⟨h1,h2⟩:=List.getElem?_eq_some_iff.1 hr;rw[←ZI k T,ZR h1,h2];unfold Md.find;rw[List.find?_append,List.find?_eq_none.2 (fun q hq=>by simpa using aa q hq)];simp[he]
theorem zK8 {T:List Rw.Row} {k:Nat} {c:Int} (hk:T.length≤k) (aa:∀q∈T.take k,q.1≠c):Md.find T c=none:=by
 rw[Zi hk]at aa;exact zDd aa
theorem Md.no_succ {T:List Rw.Row} {k:Nat} {r:Rw.Row} {c:Int} (hr:T[k]?=some r) (aa:∀q∈T.take k,q.1≠c) (he:¬r.1=c):∀q∈T.take (k+1),q.1≠c:=by
 rw[ZA,hr];intro q hq;rcases List.mem_append.1 hq with hq|hq
 · exact aa q hq
 simp at hq;subst hq;exact he
theorem zFW (v:Value) (T:List Rw.Row) (E:List Int) (d:Int) (w:World) (a1:T.length≤1000000) (h:Md.Doc w v T E) :
 Calls prog 21 #[v,.int .i64 d] w fun e w'=>e=.returned (.int .i64 (Md.cls T d))∧Below w.heap.size w w':=by
 obtain⟨A,c,XA,xc,rfl,h2,hX⟩:=h;obtain⟨n,hn⟩:∃k,T.length=k:=⟨_,rfl⟩;obtain⟨xn,hxn⟩:∃k,E.length=k:=⟨_,rfl⟩;rw[hn]at a1 ⊢;rw[hxn];obtain⟨res,ae⟩:∃k,Md.cls T d=k:=⟨_,rfl⟩;rw[ae];have ai:Below w.heap.size w (w.alloc (.cells #[.slice A n c,.slice XA xn xc] 25)):=(Zc _ _).alloc (Za _) _;have ap:Rw.At (w.alloc (.cells #[.slice A n c,.slice XA xn xc] 25)) w.heap.size 25 [.slice A n c,.slice XA xn xc]:=Rw.At.new w 25 [.slice A n c,.slice XA xn xc];obtain⟨wa,ao⟩:∃wa,w.alloc (.cells #[.slice A n c,.slice XA xn xc] 25)=wa:=⟨_,rfl⟩;rw[ao]at ai ap;have z0:=ap.cell 0 rfl;have az:=hy' ao;have aj:=hy' ai;have ar:=hy' (h2.below ai);have HN:=hy' hn;have ag:=hy' ae;clear ao ai ap hn hxn ae h2 hX;unfold zAX;go_enter func21,ntmps21;go_upto_region 1 with (fail)
 rw[az.o];go_wp2_with fail;go_loopw [10] (fun i wr=>∃k:Nat,k≤n∧i=.int .i64 k∧(∀q∈T.take k,q.1≠d)∧Below wa.heap.size wa wr) (fun i _=>n-(intOf i).toNat)
 case atStart=>exact⟨0,ZF _,rfl,by simp,Zc _ _⟩
 obtain⟨k,hk,rfl,aw,aa⟩:=hrel;have au:=hy' aw;have ak:=hy' aa;clear aw
 by_cases hlt:k<n
 · obtain⟨r,hr⟩:∃r,T[k]?=some r:=⟨_,Zb (by rw[HN.o];exact hlt)⟩;obtain⟨b,o,a,ax,hb,c0,c1,c2,a6⟩:=(ar.o.below aa).row hr;have a7:(k:Int)<n:=by omega
   have ah:=Rw.At.new wr 39 [.int .i64 r.1,.int .i64 r.2.1,.slice a.1 r.2.2.length a.2];obtain⟨x0,x1,x2,_,_,_⟩:=ah.three;have av:=hy' (aa.alloc aa.size (.cells #[.int .i64 r.1,.int .i64 r.2.1,.slice a.1 r.2.2.length a.2] 39));have HR:=hy' hr;subst ax;clear hr a6 aa ah;rcases hxd:(r.1 == d) with _|_
   · have ay:=hy' (Md.no_succ HR.o au.o (by simpa using hxd));go_wp2_with fail;exact⟨⟨k+1,by omega,by go_num,ay.o,av.o⟩,by simp[intOf];omega⟩
   have af:res=r.2.1:=by
    rw[←ag.o];unfold Md.cls;rw[Md.find_take HR.o au.o (beq_iff_eq.1 hxd)];rfl
   have aq:=hy' af;clear af;go_wp2_with fail;go_ret;exact⟨by rw[aq.o];rfl,aj.o.trans (av.o.mono aj.o.size)⟩
 obtain rfl:n=k:=by omega
 have af:res=0:=by
  rw[←ag.o];unfold Md.cls;rw[zK8 (by rw[HN.o];exact Za _) au.o];rfl
 have aq:=hy' af;clear af hlt;go_wp2_with fail;go_ret;exact⟨by rw[aq.o];rfl,aj.o.trans (ak.o.mono aj.o.size)⟩
theorem zNv (T:List Rw.Row) (c:Int):(∃a b,zA6 c=[a,b]∧Md.mp T c=[a,b])∨(∃a b t,zA6 c=[a,b,t]∧Md.mp T c=[c-(t-4519),t]∧0≤t∧t≤60000∧0≤c∧c≤60000)∨(zA6 c=[]∧Md.mp T c=zAV T c):=by
 by_cases h4:zA2 c=4
 · have hs:=zAt c (.inl h4);refine .inl ⟨4352+(c-44032)/588,4449+(c-44032)%588/28,?_,?_⟩
   · unfold zA6;grind
   unfold Md.mp;rw[zAO c h4];simp
 by_cases h5:zA2 c=5
 · have hs:=zAt c (.inr h5);refine .inr (.inl ⟨4352+(c-44032)/588,4449+(c-44032)%588/28,4519+(c-44032)%28,?_,?_,by omega,by omega,by omega,by omega⟩)
   · unfold zA6;grind
   unfold Md.mp;rw[zAW c h5];simp;omega
 refine .inr (.inr ⟨?_,?_⟩)
 · unfold zA6;grind
 unfold Md.mp;rw[zBM c h4 h5];simp
theorem zHq {w:World} {e:TypeId} {xs:List Value}:Sl (w.alloc (.cells xs.toArray e)) (w.alloc (.cells xs.toArray e)).heap.size (some ⟨w.heap.size,0,none⟩) xs:=Sl.lit rfl e (0,0) (ZT w _)
theorem zIN (v:Value) (T:List Rw.Row) (E:List Int) (d:Int) (w:World) (bi:T.length≤1000000) (h:Md.Doc w v T E) (h3 : -2147483648≤d) (h4:d≤2147483647) :
 Calls prog 57 #[v,.int .i64 d] w (RetInts .i64 (Md.mp T d) w):=by
 obtain⟨A,c,XA,xc,rfl,h2,hX⟩:=h;obtain⟨n,hn⟩:∃k,T.length=k:=⟨_,rfl⟩;obtain⟨xn,hxn⟩:∃k,E.length=k:=⟨_,rfl⟩;rw[hn]at bi ⊢;rw[hxn];have av:=zNv T d;obtain⟨res,ah⟩:∃k,Md.mp T d=k:=⟨_,rfl⟩;rw[ah]at av ⊢;have az:Below w.heap.size w (w.alloc (.cells #[.slice A n c,.slice XA xn xc] 25)):=(Zc _ _).alloc (Za _) _;have ba:Rw.At (w.alloc (.cells #[.slice A n c,.slice XA xn xc] 25)) w.heap.size 25 [.slice A n c,.slice XA xn xc]:=Rw.At.new w 25 [.slice A n c,.slice XA xn xc];have HP:=hy' (zHi d (w.alloc (.cells #[.slice A n c,.slice XA xn xc] 25)) h3 h4);have a8:=hy' az;have ag:=hy' (h2.below az);have bf:=hy' ba;have HN:=hy' hn;have ak:=hy' av;obtain⟨sp,af⟩:∃l,zA6 d=l:=⟨_,rfl⟩;rw[af]at HP ak;clear az ba hn hxn ah h2 hX av af;unfold zAX;go_enter func57,ntmps57;go_wp2_with fail;refine HP.o.mono ?_;rintro e w1 ⟨A1,c1,rfl,a6,ar⟩;have bc:=hy' a6;have ae:=hy' (a8.o.trans (ar.mono a8.o.size));have aw:=hy' (bf.o.below ar);have ap:=hy' (ag.o.below ar);clear a6 ar HP bf ag;rcases ak.o with ⟨a,b,hs,hm⟩|⟨a,b,t,hs,hm,t0,t1,d0,d1⟩|⟨hs,hm⟩
 · subst hs hm;clear ak;go_wp2_with fail;go_ret;exact⟨A1,c1,rfl,bc.o,ae.o⟩
 · subst hs hm;obtain⟨ab,ao,hA,bo,bh⟩:=bc.o (by simp);have hc:w1.cell? ⟨ab,ao+2,none⟩=some (.int .i64 t):=by simpa using bh 2 (by simp)
   have e1:IntKind.i64.wrap (t-4519)=t-4519:=by rw[Z4];omega
   have e2:IntKind.i64.wrap (d-(t-4519))=d-(t-4519):=by rw[Z4];omega
   have bn:w1.drew.cell? ⟨ab,ao+2,none⟩=some (.int .i64 t):=hc;subst hA;clear ak bh;go_wp2_with fail;go_region
   all_goals
    go_wp2_with fail;go_ret;have bj:Below w1.heap.size w1 (w1.alloc (.cells #[.int .i64 (d-(t-4519)),.int .i64 t] 3)).drew:=((Zc _ _).alloc (Za _) _).drew;exact⟨_,_,rfl,(zHq (w:=w1) (e:=3) (xs:=[.int .i64 (d-(t-4519)),.int .i64 t])),ae.o.trans (bj.mono ae.o.size)⟩
 subst hs hm;clear ak;have aq:=aw.o;have z0:=aq.cell 0 rfl;clear aq;go_wp2_with fail;go_loopw [30] (fun i wr=>∃k:Nat,k≤n∧i=.int .i64 k∧(∀q∈T.take k,q.1≠d)∧Below w1.heap.size w1 wr) (fun i _=>n-(intOf i).toNat)
 case atStart=>exact⟨0,ZF _,rfl,by simp,Zc _ _⟩
 obtain⟨k,hk,rfl,a7,aa⟩:=hrel;have a1:=hy' a7;have ay:=hy' aa;clear a7
 by_cases hlt:k<n
 · obtain⟨r,hr⟩:∃r,T[k]?=some r:=⟨_,Zb (by rw[HN.o];exact hlt)⟩;obtain⟨b,o,a,bk,hb,c0,c1,c2,bg⟩:=(ap.o.below aa).row hr;have bp:(k:Int)<n:=by omega
   have ai:=Rw.At.new wr 39 [.int .i64 r.1,.int .i64 r.2.1,.slice a.1 r.2.2.length a.2];obtain⟨x0,x1,x2,_,_,_⟩:=ai.three;have ax:Below wr.heap.size wr (wr.alloc (.cells #[.int .i64 r.1,.int .i64 r.2.1,.slice a.1 r.2.2.length a.2] 39)):=(Zc _ _).alloc (Za _) _;have bm:=hy' (bg.below ax ax.size);have bb:=hy' (aa.alloc aa.size (.cells #[.int .i64 r.1,.int .i64 r.2.1,.slice a.1 r.2.2.length a.2] 39));have HR:=hy' hr;subst bk;clear hr bg aa ai ax;rcases hxd:(r.1 == d) with _|_
   · have bl:=hy' (Md.no_succ HR.o a1.o (by simpa using hxd));go_wp2_with fail;exact⟨⟨k+1,by omega,by go_num,bl.o,bb.o⟩,by simp[intOf];omega⟩
   have aj:zAV T d=r.2.2:=by
    unfold zAV;rw[Md.find_take HR.o a1.o (beq_iff_eq.1 hxd)];rfl
   have au:=hy' aj;clear aj;go_wp2_with fail;go_ret;rw[au.o];exact⟨a.1,a.2,rfl,bm.o,ae.o.trans (bb.o.mono ae.o.size)⟩
 obtain rfl:n=k:=by omega
 have aj:zAV T d=[]:=by
  unfold zAV;rw[zK8 (by rw[HN.o];exact Za _) a1.o];rfl
 have au:=hy' aj;clear aj hlt;go_wp2_with fail;go_ret;rw[au.o];exact⟨none,0,rfl,Sl.nil _ _ _,ae.o.trans (ay.o.mono ae.o.size)⟩
def zK9 (l:List Int) (b:Bool) (w:World) (e:Ending) (w':World):Prop :=
 ∃A c,e=.returned (.tuple #[.slice A l.length c,.bool b])∧Sl w' w'.heap.size A (l.map (Value.int .i64))∧Below w.heap.size w w'
theorem zMd {mp:Int→List Int} {L:List Int} {k:Nat} {x:Int} (h:L[k]?=some x):Md.step mp (L.take (k+1))=Md.step mp (L.take k)++Md.one mp x:=by
 unfold Md.step;rw[ZA,h];simp
theorem zKT {mp:Int→List Int} {L:List Int} {k:Nat} {x:Int} (h:L[k]?=some x):Md.plain mp (L.take (k+1))=(Md.plain mp (L.take k)&&(mp x).isEmpty):=by
 unfold Md.plain;rw[ZA,h];simp
theorem Md.step_len {mp:Int→List Int} (h:∀c,(mp c).length≤1000) (L:List Int):(Md.step mp L).length≤1000*L.length:=by
 induction L with
 | nil=>simp[Md.step]
 | cons x l ih =>
   have:(Md.one mp x).length≤1000:=by
    unfold Md.one;split
    · simp
    exact h x
   unfold Md.step at ih ⊢;rw[Y7,Zd,ZB];omega
theorem Md.step_bd {mp:Int→List Int} (h:∀c,∀d∈mp c,-2147483648≤d∧d≤2147483647) {L:List Int} (hL:∀c∈L,-2147483648≤c∧c≤2147483647):∀c∈Md.step mp L,-2147483648≤c∧c≤2147483647:=by
 intro c hc;unfold Md.step at hc;obtain⟨x,hx,aa⟩:=List.mem_flatMap.1 hc;unfold Md.one at aa;split at aa
 · simp at aa;subst aa;exact hL c hx
 exact h x c aa
theorem zDk (w:World) (e:TypeId) (hs:0<1):(w.alloc (.cells #[] e)).ownsRow w.heap.size e 1 (.slice (some ⟨w.heap.size,0,none⟩) 0 0) 0 [] :=
 ⟨rfl,.inr ⟨w.heap.size,0,#[],rfl,Za _,ZT w _,Za _,by decide,rfl,rfl⟩⟩
theorem zMe (v:Value) (T:List Rw.Row) (E:List Int) (A:Option Addr) (n c:Nat) (L:List Int) (w:World) (b3:T.length≤1000000) (h:Md.Doc w v T E) (bg:∀c,(Md.mp T c).length≤1000) (hn:L.length=n) (cf:n≤1000) (hL:∀c∈L,-2147483648≤c∧c≤2147483647) (hA:Sl w w.heap.size A (L.map (Value.int .i64))) :
 Calls prog 53 #[v,.slice A n c] w (zK9 (Md.step (Md.mp T) L) (!Md.plain (Md.mp T) L) w):=by
 obtain⟨i0,bp,bw,br,bu⟩:=Z2 zDT;have HM:Hy (∀(d:Int) (W:World),Below w.heap.size w W → -2147483648≤d→d≤2147483647→Calls prog 57 #[v,.int .i64 d] W (RetInts .i64 (Md.mp T d) W)):=hy' fun d W hW a b=>zIN v T E d W b3 (h.below hW) a b
 obtain⟨AT,cT,XA,xc,rfl,h2,hX⟩:=h;obtain⟨tn,bn⟩:∃k,T.length=k:=⟨_,rfl⟩;obtain⟨xn,hxn⟩:∃k,E.length=k:=⟨_,rfl⟩;rw[bn,hxn]at HM ⊢
 have hlen:∀k,k≤n→(Md.step (Md.mp T) (L.take k)).length≤1000*k:=fun k hk=>by
  have:=Md.step_len bg (L.take k);rw[Zr,hn]at this;omega
 have a1:=hy' hlen;have b6:=hy' bg;have HN:=hy' hn;have HL:=hy' hL;obtain⟨res,aj⟩:∃r,Md.step (Md.mp T) L=r:=⟨_,rfl⟩;obtain⟨rb,bf⟩:∃r,Md.plain (Md.mp T) L=r:=⟨_,rfl⟩;rw[aj,bf];have a7:=hy' aj;have cb:=hy' bf;obtain⟨wa,au⟩:∃wa,(w.alloc (.cells #[.slice AT tn cT,.slice XA xn xc] 25)).alloc (.cells #[] 3)=wa:=⟨_,rfl⟩;have bc:Below w.heap.size w wa:=by rw[←au];exact ((Zc _ _).alloc (Za _) _).alloc (by simp) _
 have az:Rw.At wa w.heap.size 25 [.slice AT tn cT,.slice XA xn xc]:=by
  rw[←au];exact (Rw.At.new w 25 [.slice AT tn cT,.slice XA xn xc]).alloc _
 have ak:wa.ownsRow (w.heap.size+1) 3 1 (.slice (some ⟨w.heap.size+1,0,none⟩) 0 0) 0 []:=by
  have:=zDk (w.alloc (.cells #[.slice AT tn cT,.slice XA xn xc] 25)) 3 (by decide);rw[ZJ]at this;rw[←au];exact this
 have bo:=hy' bc;have HA:=hy' (hA.below bc (Za _));have b7:w.heap.size+1≤wa.heap.size:=az.lt;have b5:=hy' au;clear hlen bg hn hL aj bf bn hxn au bc hA h2 hX;unfold zAX at *;go_enter func53,ntmps53;go_upto_region 2 with (fail)
 rw[b5.o];go_wp2_with fail;go_loopw [6,7,14] (fun v6 v7 i wr=>∃(k:Nat) (v:Value),k≤n∧i=.int .i64 k∧v6=v∧v7=.bool (!Md.plain (Md.mp T) (L.take k))∧Rw.At wr w.heap.size 25 [.slice AT tn cT,.slice XA xn xc]∧wr.ownsRow (w.heap.size+1) 3 1 v (Md.step (Md.mp T) (L.take k)).length ((Md.step (Md.mp T) (L.take k)).map (Value.int .i64))∧Below (w.heap.size+1) wa wr) (fun _ _ i _=>n-(intOf i).toNat)
 case atStart=>exact⟨0,_,ZF _,rfl,rfl,rfl,az,ak,Zc _ _⟩
 obtain⟨k,v,hk,rfl,rfl,rfl,af,aa,ae⟩:=hrel;have bq:w.heap.size+1≤wr.heap.size:=af.lt;have bt:=a1.o k hk
 by_cases hlt:k<n
 · obtain⟨x,hx⟩:∃x,L[k]?=some x:=⟨_,Zb (by rw[HN.o];exact hlt)⟩;have hxb:=HL.o x (Zj hx);obtain⟨ab,ao,hA2,ch,bz⟩:=HA.o (by rw[Ze,HN.o];omega);have hc:=bz k (by rw[Ze,HN.o];exact hlt);rw[Zo,hx,Zz,←(zAQ ae).1 _ _ (by omega)]at hc;have hM:=HM.o x wr (bo.o.trans (ae.mono (ZW _))) hxb.1 hxb.2;have ay:=zMd (mp:=Md.mp T) hx;have a6:=zKT (mp:=Md.mp T) hx;have b1:=b6.o x;unfold Md.one at ay;obtain⟨S,hS⟩:∃S,Md.step (Md.mp T) (L.take k)=S:=⟨_,rfl⟩;obtain⟨p,hp⟩:∃p,Md.plain (Md.mp T) (L.take k)=p:=⟨_,rfl⟩;obtain⟨m,hm⟩:∃m,Md.mp T x=m:=⟨_,rfl⟩;obtain⟨sl,bh⟩:∃sl,S.length=sl:=⟨_,rfl⟩;rw[hS,hm]at ay;rw[hp,hm]at a6;rw[hS]at aa bt;rw[hm]at hM b1;rw[bh]at aa bt;rw[hp];have kI:(k:Int)<n:=by omega
   have k0:(0:Int)≤k:=by omega
   have z0:=af.cell 0 rfl;have z1:=af.cell 1 rfl;have b2:=hy' ay;have bl:=hy' a6;have ar:=hy' aa;have bb:=hy' af;have ba:=hy' ae;have bx:=hy' bh;subst hA2;clear az ak hx bz ay a6 hS hp hm bh aa af ae;go_wp2_with fail;refine hM.mono ?_;rintro e w1 ⟨A1,c1,rfl,bm,aw⟩;have ah:=zA4 ar.o aw (Za _);have ax:=bb.o.below aw;have bi:=aw.size;have ai:=hy' ah;have aq:=hy' ax;have b9:=hy' bm;have bk:=hy' (ba.o.trans (aw.mono bq));have bs:w.heap.size+1≤w1.heap.size:=Zh bq bi;clear ah ax bm aw hM z0 z1 hc;rcases m with _|⟨m0,mr⟩
   · go_wp2_with (first|(at_builtin;refine zAa _ rfl _ _ _ rfl (w.heap.size+1) 3 i0 _ 8 underlying23 bp bw br bu rfl _ sl _ rfl ai.o _ rfl rfl (by simp only[maxLen];omega) (by omega) bs ?_;intro v1 w4 ag av)|fail);refine⟨⟨k+1,v1,by omega,by go_num,rfl,by rw[bl.o];simp,aq.o.below' av (ZO _),?_,bk.o.trans av⟩,by simp[intOf];omega⟩;rw[b2.o,Zm trivial,Zd,bx.o,ZL];exact ag
   have ap:((m0::mr).map (Value.int .i64)).length=(m0::mr).length*1:=by simp
   obtain⟨q,hq⟩:∃q,(m0::mr).length=q:=⟨_,rfl⟩;have b4:¬q=0:=by rw[←hq];simp
   have cd:((q:Int) == 0)=false:=by simp;omega
   rw[hq]at b1 ap ⊢;have HQ:=hy' hq;have bj:∀u∈(m0::mr).map (Value.int .i64),u.oneCell'=true:=zF8 .i64 _;have cc:=hy' bj;have a8:=hy' ap;clear hq b4 bj ap;go_wp2_with (first|(at_builtin;refine zAe _ rfl _ _ _ rfl (w.heap.size+1) 3 i0 _ 1 8 underlying23 bp bw br bu rfl (by omega) _ sl _ rfl ai.o _ A1 q c1 ((m0::mr).map (Value.int .i64)) rfl a8.o b9.o cc.o (by simp only[maxLen];omega) (by omega) bs ?_;intro v1 w4 ag av cg)|fail);refine⟨⟨k+1,v1,by omega,by go_num,rfl,by rw[bl.o];simp,aq.o.below' av (ZO _),?_,bk.o.trans av⟩,by simp[intOf];omega⟩;rw[b2.o,Zk (by simp),Zd,bx.o,ZL,HQ.o];exact ag
 obtain rfl:n=k:=by omega
 rw[Zi (by rw[HN.o];exact Za _),a7.o]at aa;rw[Zi (by rw[HN.o];exact Za _),cb.o];obtain⟨A4,c4,rfl⟩:=zA3 aa;have HS:=hy' (Sl.of_own aa);have b8:=hy' (bo.o.trans (ae.mono (ZW _)));clear aa ae af az ak hlt;go_wp2_with fail;go_ret2;exact⟨A4,c4,rfl,HS.o,b8.o⟩
def zCM (o:Option (List Int)) (w:World) (e:Ending) (w':World):Prop :=
 ∃A c,e=.returned (.tuple #[.slice A (o.getD []).length c,.bool o.isSome])∧Sl w' w'.heap.size A ((o.getD []).map (Value.int .i64))∧Below w.heap.size w w'
theorem zMf {T:List Rw.Row} (h:∀r∈T,r.2.2.length≤1000) (c:Int):(Md.mp T c).length≤1000:=by
 unfold Md.mp zAV;split
 · simp
 cases hf:Md.find T c with
 | none=>decide
 | some r=>exact h r (zAq hf).1
theorem zEJ (v:Value) (T:List Rw.Row) (E:List Int) (d:Int) (w:World) (bo:T.length≤100000) (h:Md.Doc w v T E) (hbd:Md.bd T) (bl:∀r∈T,r.2.2.length≤1000) (h3 : -2147483648≤d) (h4:d≤2147483647) :
 Calls prog 20 #[v,.int .i64 d] w (zCM (Md.full T d) w):=by
 have bi:=zMf bl;have hmb:=zI2 hbd;have av:zDX (Md.mp T) (T.length+4) [d]=Md.full T d:=zOR (Md.mp T) (T.length+3) d
 have HS:Hy (∀(A:Option Addr) (c:Nat) (L:List Int) (W:World),Below w.heap.size w W→L.length≤32→(∀c∈L,-2147483648≤c∧c≤2147483647)→Sl W W.heap.size A (L.map (Value.int .i64)) →
  Calls prog 53 #[v,.slice A L.length c] W (zK9 (Md.step (Md.mp T) L) (!Md.plain (Md.mp T) L) W)):=hy' fun A c L W hW hl hb hs=>zMe v T E A L.length c L W (by omega) (h.below hW) bi rfl (by omega) hb hs
 obtain⟨AT,cT,XA,xc,rfl,h2,hX⟩:=h;obtain⟨tn,a1⟩:∃k,T.length=k:=⟨_,rfl⟩;obtain⟨xn,hxn⟩:∃k,E.length=k:=⟨_,rfl⟩;rw[a1]at bo av;rw[a1,hxn]at HS ⊢;obtain⟨o,ho⟩:∃o,Md.full T d=o:=⟨_,rfl⟩;rw[ho]at av ⊢;obtain⟨wa,ao⟩:∃wa,(w.alloc (.cells #[.slice AT tn cT,.slice XA xn xc] 25)).alloc (.cells #[.int .i64 d] 3)=wa:=⟨_,rfl⟩;have bh:Below w.heap.size w wa:=by rw[←ao];exact ((Zc _ _).alloc (Za _) _).alloc (by simp) _
 have bf:Rw.At wa w.heap.size 25 [.slice AT tn cT,.slice XA xn xc]:=by
  rw[←ao];exact (Rw.At.new w 25 [.slice AT tn cT,.slice XA xn xc]).alloc _
 have bk:Sl wa wa.heap.size (some ⟨w.heap.size+1,0,none⟩) ([d].map (Value.int .i64)):=by
  have:=zHq (w:=w.alloc (.cells #[.slice AT tn cT,.slice XA xn xc] 25)) (e:=3) (xs:=[.int .i64 d]);simp only[ZJ]at this;rw[←ao];simp only[ZJ];exact this
 have ag:=hy' bh;have br:=hy' ao;have bx:=hy' bf;have bs:=hy' hmb;have bm:=hy' av;have bu:=hy' bk;clear bi hmb av a1 hxn ho ao bh bf bk h2 hX hbd bl;unfold zAX at *;go_enter func20,ntmps20;go_upto_region 2 with (fail)
 rw[br.o];go_wp2_with fail;go_loopw [6,7] (fun v6 i wr=>∃(k:Nat) (A:Option Addr) (c:Nat) (L:List Int),k≤tn+4∧i=.int .i64 k∧v6=.slice A L.length c∧Sl wr wr.heap.size A (L.map (Value.int .i64))∧L.length≤32∧(∀c∈L,-2147483648≤c∧c≤2147483647)∧zDX (Md.mp T) (tn+4-k) L=o∧Below wa.heap.size wa wr) (fun _ i _=>tn+4-(intOf i).toNat)
 case atStart=>exact⟨0,some ⟨w.heap.size+1,0,none⟩,1,[d],ZF _,rfl,rfl,bu.o,by simp,by simp;omega,bm.o,Zc _ _⟩
 obtain⟨k,A,c,L,hk,rfl,rfl,hs,hl,hb,ak,ae⟩:=hrel;have af:=bx.o.below ae;have z0:=af.cell 0 rfl;have z1:=af.cell 1 rfl;have aj:=hy' ae;have ap:=hy' ak;have hS:=HS.o A c L wr (ag.o.trans (ae.mono ag.o.size)) hl hb hs;have b1:=hy' hs;have HB:=hy' hb;have e1:IntKind.i64.wrap ((tn:Int)+3)=(tn:Int)+3:=by rw[Z4];omega
 by_cases hlt:k<tn+4
 · obtain⟨q,hq⟩:∃q,tn+4-k=q+1:=⟨tn+4-k-1,by omega⟩;have au:=ap.o;rw[hq,zDX]at au;have bg:tn+4-(k+1)=q:=by omega
   have ay:=Md.step_bd bs.o HB.o;obtain⟨nx,ah⟩:∃nx,Md.step (Md.mp T) L=nx:=⟨_,rfl⟩;obtain⟨pl,ba⟩:∃pl,Md.plain (Md.mp T) L=pl:=⟨_,rfl⟩;rw[ah,ba]at au hS;rw[ah]at ay;have bb:=hy' au;have bt:=hy' bg;have bp:=hy' ay;have bz:(k:Int)≤(tn:Int)+3:=by omega
   have bq:decide ((k:Int)≤(tn:Int)+3)=true:=Zp bz;clear hs hb ak ae af au bg hq ah ba ay;go_wp2_with fail;refine hS.mono ?_;rintro e w1 ⟨A1,c1,rfl,a8,aw⟩;have ax:=hy' (aj.o.trans (aw.mono aj.o.size));have aq:=b1.o.below aw aw.size;have az:=hy' aq;have bw:=hy' a8;clear a8 aw hS z0 z1 aq;cases pl
   · obtain⟨nl,ar⟩:∃nl,nx.length=nl:=⟨_,rfl⟩;have bj:=hy' ar;have a6:=bb.o;rw[Zk (by decide),ar]at a6;rw[ar];have bc:=hy' a6;clear ar a6
     by_cases hbig:32<nl
     · have aa:o=none:=by rw[←bc.o,Zm hbig]
       have bn:decide ((32:Int)<nl)=true:=Zp (by omega);have ai:=hy' aa;clear aa;go_wp2_with fail;go_ret2;rw[ai.o];exact⟨none,0,rfl,Sl.nil _ _ _,ag.o.trans (ax.o.mono ag.o.size)⟩
     have aa:zDX (Md.mp T) q nx=o:=by rw[←bc.o,Zk hbig]
     have bn:decide ((32:Int)<nl)=false:=Zq (by omega);have ai:=hy' aa;clear aa;go_wp2_with fail;exact⟨⟨k+1,A1,c1,nx,by omega,by go_num,by rw[bj.o],bw.o,by rw[bj.o];omega,bp.o,by rw[bt.o];exact ai.o,ax.o⟩,by simp[intOf];omega⟩
   have aa:o=some L:=by rw[←bb.o,Zm rfl]
   have ai:=hy' aa;clear aa;go_wp2_with fail;go_ret2;rw[ai.o];exact⟨A,c,rfl,az.o,ag.o.trans (ax.o.mono ag.o.size)⟩
 have a7:k=tn+4:=by omega
 have aa:o=none:=by
  rw[←ap.o,a7,Ym];rfl
 have ai:=hy' aa;have bq:decide ((k:Int)≤(tn:Int)+3)=false:=Zq (by omega);clear aa a7 hs hb ak ae af hS;go_wp2_with fail;go_ret2;rw[ai.o];exact⟨none,0,rfl,Sl.nil _ _ _,ag.o.trans (aj.o.mono ag.o.size)⟩
end Go.Proofs.YtjakbblocbicjaaGreatDoor
