/- order.Of, by walking its text. -/
import Derived.Test.YthngjlllojiacaaGreatDoorOrWalk
set_option maxRecDepth 100000
set_option maxHeartbeats 8000000
set_option linter.unusedVariables false
set_option linter.unusedSimpArgs false
namespace Go.Proofs.YthngjlllojiacaaGreatDoor
open Go.Proofs.Tryz
open Go.RowKit
theorem Ss.At.of_own {w:World} {base g n cap:Nat} {l:List Int} (hl:l.length=n) (h:w.ownsRow base 21 1 (.slice (some ⟨g,0,none⟩) n cap) n (l.map (Value.int .i32))):Ss.At w g cap l∧base≤g∧n≤cap∧cap≤maxLen:=by
 rcases h.2 with ⟨hv,_⟩|⟨g',ae,aa,hv,hg,hb,h1,h2,h3,h4⟩
 · cases hv
 simp only[Z2,Zg,YR,YH,Qr]at hv;obtain⟨rfl,rfl⟩:=hv;refine⟨⟨aa.toList.drop n,?_,?_⟩,hg,h1,h2⟩
 · have e:aa.toList.length=aa.size:=XW;rw[ZM,e,h3,hl];omega
 unfold Rw.At;rw[Xi]at h4;rw[←h4,ZE];simpa using hb
theorem Ss.At.own {w:World} {base g n cap:Nat} {Z:List Int} (h:Ss.At w g cap Z) (hl:Z.length=n) (hb:base≤g) (hc:n≤cap) (hm:cap≤maxLen):w.ownsRow base 21 1 (.slice (some ⟨g,0,none⟩) n cap) n (Z.map (Value.int .i32)):=by
 obtain⟨R,hs,ha⟩:=h;refine⟨by rw[Ze,hl,Xi],.inr ⟨g,cap,_,rfl,hb,ha,hc,hm,?_,?_⟩⟩
 · simp;omega
 rw[Xi];simp[hl]
theorem Or.of_any (v:Value) (T:List Rw.Row) (S:List Int) (A:Option Addr) (n c:Nat) (l:List Int) (w:World) (ok:Ud.Ok T S) (h:Ud.Is w v T S) (hl:l.length=n) (hn:n≤100000) (hA:Sl w w.heap.size A (l.map (Value.int .i32))) (ba:∀bu cd k N,(∀(args:Array Value) (w:World),(callFunc bu args).run prog w=.ok (.enter bu args) w)→zE6 bu cd k N) :
 Calls prog 114 #[v,.slice A n c] w (Md.RetOwn (Or.of (Md.cls T) l) w):=by
 have a7:Below w.heap.size w (w.alloc (.cells #[v] 23)):=(Zc _ _).alloc (Za _) _;obtain⟨wa,bh⟩:∃wa,w.alloc (.cells #[v] 23)=wa:=⟨_,rfl⟩;have b9:Rw.At wa w.heap.size 23 [v]:=by rw[←bh];exact Rw.At.new w 23 [v]
 rw[bh]at a7;have bk:=zBU A n c w.heap.size l wa hl (Zh hn (by decide)) a7.size (hA.below a7 (Za _));obtain⟨pv,cz,_⟩:=h.form;have cv:=hy' bh;have bt:=hy' a7;have b6:=hy' b9;have cc:=hy' h;have b5:=hy' ok;have HL:=hy' hl;have cq:=hy' ba;obtain⟨f,hf⟩:∃f,Md.cls T=f:=⟨_,rfl⟩;rw[hf];have HF:=hy' hf;subst cz;clear bh a7 b9 h ok hl ba hA hf;go_enter func114,ntmps114;go_upto_region 1 with (fail)
 rw[cv.o];go_wp2_with fail;refine bk.mono ?_;rintro e w1 ⟨A1,c1,rfl,ai,bi⟩;have bj:=hy' (bt.o.trans (bi.mono bt.o.size));have bp:=hy' (b6.o.below bi);rcases ai.2 with ⟨hv,h0⟩|⟨g,cap,dc,hv,hg,c6,k1,k2,k3,k4⟩
 · simp only[Z2]at hv;obtain⟨rfl,rfl,rfl⟩:=hv;have c7:l=[]:=ZD HL.o;subst c7;clear ai bi bk;go_wp2_with fail;go_loopw [7,8] (fun vi _ wr=>vi=.int .i64 0∧wr=w1) (fun _ _ _=>0)
   case round =>
    obtain⟨rfl,rfl⟩:=hrel;go_wp2_with fail;go_ret;exact⟨none,0,rfl,ZI _ _ _ _,bj.o⟩
   exact⟨rfl,rfl⟩
 simp only[Z2]at hv;obtain⟨rfl,_,bs⟩:=hv;replace bs:=bs.symm;subst bs;obtain⟨cf,cj,cu,cp⟩:=Ss.At.of_own HL.o ai;have cm:w.heap.size+1≤g:=Zh (show w.heap.size+1≤wa.heap.size from b6.o.lt) hg;have bn:∀W,w1.grownBy W (some g)→Below w.heap.size w W:=fun W hW=>bj.o.grown hW bj.o.size (by intro k hk;simp only[Zg]at hk;omega)
 have ah:∀W,w1.grownBy W (some g)→W.cell? ⟨w.heap.size,0,none⟩=some (.pointer (some ⟨pv,0,none⟩))∧w.heap.size<W.heap.size:=fun W hW=>by
  have:=bp.o.grown hW (by simp only[Qv,Zg];omega);exact⟨this.cell 0 rfl,this.lt⟩
 have au:Ss.Cmp 148 (some ⟨w.heap.size,0,none⟩) f g w1:=fun W hW x y=>by
  have:=zLR _ T S w.heap.size x y W b5.o (cc.o.below (bn W hW)) (ah W hW).1 (ah W hW).2;rw[HF.o]at this;exact this
 have a8:=fun (o n1 bq:Nat) (P1 L1 Q1:List Int) (W:World) (hW:w1.grownBy W (some g))=>Or.sort_any 148 (some ⟨w.heap.size,0,none⟩) f zLS (fun N=>cq.o _ _ _ N zLS) cap g o n1 bq P1 L1 Q1 W (au.grown hW)
 have aq:=hy' a8;have b7:=hy' bn;have bx:=hy' ah;have cr:=hy' au;have bo:=hy' cf;have bw:Hy (w.heap.size≤g∧n≤cap∧cap≤maxLen):=hy' ⟨Zh (by have:=bt.o.size;exact this) cj,cu,cp⟩;clear ai bi bk c6 k3 k4 k1 k2 bn ah au cf cj cm hg a8;go_wp2_with fail;go_loopw [7,8] (fun vi _ wr=>∃(j:Nat) (Z:List Int),vi=.int .i64 j∧Z.length=n∧j≤n+1∧((j≤n∧∃q,Or.Pre f (l.take j) q∧Z=q++l.drop j)∨(n<j∧Or.R f l Z))∧Ss.At wr g cap Z∧w1.grownBy wr (some g)) (fun vi _ _=>n+1-(intOf vi).toNat)
 case atStart=>exact⟨0,l,rfl,HL.o,by omega,.inl ⟨by omega,[],by simpa using Or.Pre.nil,by simp⟩,bo.o,zAO _ _⟩
 obtain⟨j,Z,rfl,b4,hj,ak,ag,bg⟩:=hrel
 by_cases hlt:j<n
 rotate_left
 · have jI:¬(j:Int)<n:=by omega
   have hR:Or.R f l Z:=by
    rcases ak with ⟨ct,q,ae,rfl⟩|⟨_,h⟩
    · obtain rfl:j=n:=by omega
      rw[YD (by rw[HL.o];exact Za _)];have h:=ae.app (Or.R.run (f:=f) (a:=[]) (b:=[]) (fun x hx=>by simp at hx) (zG3 f) (Ss.eqv.refl _ _));rw[Z3,Zi (by rw[HL.o];exact Za _)]at h;exact h
    exact h
   have hZ:Z=Or.of f l:=(Or.R.unique (zBN f l) hR);have b3:(Or.of f l).length=n:=by rw[←hZ];exact b4
   rw[hZ]at ag;have aj:=ag.own (n:=n) (base:=w.heap.size) b3 bw.o.1 bw.o.2.1 bw.o.2.2;have HO:=hy' aj;have cx:=hy' (b7.o wr bg);have ck:=hy' b3;clear hR hZ ag aj bg b3 b4;go_wp2_with fail;go_ret;unfold Md.RetOwn;rw[ck.o];exact⟨_,_,rfl,HO.o,cx.o⟩
 rcases ak with ⟨_,q,ae,rfl⟩|⟨ct,_⟩
 rotate_left
 · omega
 have cg:q.length=j:=by rw[ae.length,Zr,HL.o];omega
 have aw:=hy' cg;have bb:=hy' ae;have bm:=hy' ag;have cn:=hy' bg;have jI:(j:Int)<n:=by omega
 clear cg ae ag bg b4;go_wp2_with fail;obtain⟨wo,rfl⟩:∃wo:World,wo=wr:=⟨_,rfl⟩;go_loopw [8] (fun vi wq=>∃i:Nat,j≤i∧i≤n∧vi=.int .i64 i∧(∀x∈(l.drop j).take (i-j),0<f x)∧Ss.At wq g cap (q++l.drop j)∧w1.grownBy wq (some g)) (fun vi _=>n-(intOf vi).toNat)
 case atStart=>exact⟨j,Za _,by omega,rfl,by simp,bm.o,cn.o⟩
 obtain⟨i,cw,c8,rfl,hpos,aa,ax⟩:=hrel;have a6:=hy' hpos;have bz:=hy' ax;have ar:=hy' aa;obtain⟨b1,b2⟩:=bx.o wr ax;have xb:=Ext.cells b1 b2;have gl:=aa.lt
 by_cases hie:i<n
 rotate_left
 · obtain rfl:i=n:=by omega
   have iI:¬(i:Int)<i:=by omega
   have ao:(l.drop j).take (i-j)=l.drop j:=Zi (by rw[ZM,HL.o];exact Za _);rw[ao]at hpos;have bc:=hy' hpos;have hlen:(l.drop j).length=i-j:=by rw[ZM,HL.o]
   have hS:=hy' (aq.o j (i-j) (cap-j) q (l.drop j) [] wr ax (by simpa using aa) aw.o hlen (by omega));have ap:=hy' hlen;clear xb b1 ao hpos hlen aa ax hS;go_wp2_with fail;refine zA7 (by kernel_rfl) (by kernel_rfl) ?_
   repeat (go_big_quiet_step (fail))
   refine wpQuiet_nil ?_;intro xw;have h1:=ar.o.below xw.below;have h2:=zA0 bz.o (Ss.grown_below xw.below);have hS:=hy' (aq.o j (i-j) (cap-j) q (l.drop j) [] xw.val h2 (by simpa using h1) aw.o ap.o (by omega));have H2:=hy' h2;clear h1 h2;go_wp2_with fail;refine hS.out.mono ?_;rintro e w2 ⟨rfl,⟨C,sC,eC,af⟩,a1⟩;have ay:Ss.At w2 g cap (q++C):=by simpa using af
   have av:Or.R f l (q++C):=by
    have h:=bb.o.app (Or.R.run bc.o sC eC);rw[ZE]at h;exact h
   have az:(q++C).length=i:=av.length.trans HL.o;have N1:=hy' ay;have N2:=hy' av;have N3:=hy' az;have N4:=hy' (zA0 H2.o a1);clear ay av az sC eC af a1 hS;go_wp2_with fail;exact⟨⟨i+1,q++C,by first|rfl|go_num,N3.o,by omega,.inr ⟨by omega,N2.o⟩,N1.o,N4.o⟩,by simp[intOf];omega⟩
 obtain⟨y,hy⟩:∃y,l[i]?=some y:=⟨_,Zb (by rw[HL.o];exact hie)⟩
 have b8:(q++l.drop j)[i]?=some y:=by
  rw[ZJ (by rw[aw.o];exact cw),aw.o,Xj,show j+(i-j)=i by omega];exact hy
 have cy:=aa.cell b8;have xy:=Ext.cells cy gl
 have CC:=hy' (Ext.call (w:=wr) fun W hW=>by
  have:=Ud.class_any _ T S y W b5.o (cc.o.below (b7.o W (zA0 ax (Ss.grown_below hW))));rw[HF.o]at this;exact this)
 have iI:(i:Int)<n:=by omega
 have i0:(0:Int)≤i:=by omega
 have cb:(l.drop j).take (i+1-j)=(l.drop j).take (i-j)++[y]:=by
  rw[show i+1-j=i-j+1 by omega,ZA,Xj,show j+(i-j)=i by omega,hy];rfl
 have ch:=hy' cb;have HY:=hy' hy;obtain⟨u,hu⟩:∃u,f y=u:=⟨_,rfl⟩;rw[hu]at CC;have HU:=hy' hu;clear hpos ax aa hy b8 cb hu
 by_cases hup:0<u
 · have br:u > 0:=hup;go_wp2_with fail;refine zA7 (by kernel_rfl) (by kernel_rfl) ?_
   repeat (go_big_quiet_step ((go_at_call 41;with_reducible exact CC.o _)))
   refine wpQuiet_nil ?_;intro xw;have H1:=hy' (ar.o.below xw.below);have H2:=hy' (zA0 bz.o (Ss.grown_below xw.below));clear xb xy b1 cy;go_wp2_with fail;refine⟨⟨i+1,by omega,by omega,by go_num,?_,H1.o,H2.o⟩,by simp[intOf];omega⟩;rw[ch.o];intro x hx;rcases List.mem_append.1 hx with hx|hx
   · exact a6.o x hx
   rw[Zp]at hx;rw[hx,HU.o];exact hup
 have br:¬u > 0:=hup;go_wp2_with fail;refine zA7 (by kernel_rfl) (by kernel_rfl) ?_
 repeat (go_big_quiet_step ((go_at_call 41;with_reducible exact CC.o _)))
 refine wpQuiet_nil ?_;intro xw
 have hdr:l.drop j=(l.drop j).take (i-j)++y::l.drop (i+1):=by
  obtain⟨u1,u2⟩:=List.getElem?_eq_some_iff.1 HY.o;have h1:l.drop i=y::l.drop (i+1):=by rw[ZR u1,u2]
  rw[←h1];have h2:=(ZE (i-j) (l.drop j)).symm;rw[XM,show j+(i-j)=i by omega]at h2;exact h2
 have hlen:((l.drop j).take (i-j)).length=i-j:=by rw[Zr,ZM,HL.o];omega
 have bf:l.take (i+1)=l.take j++((l.drop j).take (i-j)++[y]):=by
  have h:=ch.o;rw[←h,←Qn,show j+(i+1-j)=i+1 by omega]
 have h1:=ar.o.below xw.below;rw[hdr]at h1;have h2:=zA0 bz.o (Ss.grown_below xw.below);have hS:=hy' (aq.o j (i-j) (cap-j) q ((l.drop j).take (i-j)) (y::l.drop (i+1)) xw.val h2 h1 aw.o hlen (by omega));have H2:=hy' h2;have bl:=hy' bf;have ap:=hy' hlen;clear xb xy b1 cy hdr hlen bf h1 h2;go_wp2_with fail;refine hS.out.mono ?_;rintro e w2 ⟨rfl,⟨C,sC,eC,af⟩,a1⟩;have ay:Ss.At w2 g cap ((q++(C++[y]))++l.drop (i+1)):=by simpa using af
 have av:Or.Pre f (l.take (i+1)) (q++(C++[y])):=by
  rw[bl.o];exact Or.Pre.snoc bb.o a6.o sC eC (by rw[HU.o];omega)
 have az:((q++(C++[y]))++l.drop (i+1)).length=n:=by
  have h1:=eC.length;rw[ap.o]at h1;have h2:=aw.o;have h3:=HL.o;simp;omega
 have N1:=hy' ay;have N2:=hy' av;have N3:=hy' az;have N4:=hy' (zA0 H2.o a1);clear ay av az sC eC af a1 hS;go_wp2_with fail;exact⟨⟨i+1,(q++(C++[y]))++l.drop (i+1),by first|rfl|go_num,N3.o,by omega,.inl ⟨by omega,_,N2.o,rfl⟩,N1.o,N4.o⟩,by simp[intOf];omega⟩
theorem zGL:∀(rs:List Rw.Row) (ads:List (Option Addr × Nat)) (r:Rw.Row) (a:Option Addr × Nat),ads.length=rs.length →
 zBj (rs++[r]) (ads++[a])=zBj rs ads++[.int .i64 r.1,.int .i64 r.2.1,.slice a.1 r.2.2.length a.2]
 | [],[],r,a,_=>rfl
 | [],_::_,_,_,h=>by simp at h
 | q::rs,[],r,a,h=>by simp at h
 | q::rs,b::ads,r,a,h=>by
   simp only[Zo,zBj];rw[zGL rs ads r a (by simpa using h)]
def Rw.MapsI (w:World) (rs:List Rw.Row) (ads:List (Option Addr × Nat)):Prop:=∀(i:Nat) (r:Rw.Row) (a:Option Addr × Nat),rs[i]?=some r→ads[i]?=some a→Slt w 3 a.1 (r.2.2.map (Value.int .i64))
theorem Rw.MapsI.app {w:World} {rs:List Rw.Row} {ads:List (Option Addr × Nat)} (h:Rw.MapsI w rs ads) (hl:ads.length=rs.length) {r:Rw.Row} {a:Option Addr × Nat} (hr:Slt w 3 a.1 (r.2.2.map (Value.int .i64))):Rw.MapsI w (rs++[r]) (ads++[a]):=by
 intro i q x hq hx;rcases ZZ i rs.length with hi|hi
 · rw[ZS hi]at hq;rw[ZS (by omega)]at hx;exact h i q x hq hx
 rw[ZJ hi]at hq;rw[ZJ (by omega)]at hx;obtain⟨j,hj⟩:∃j,i-rs.length=j:=⟨_,rfl⟩;rw[hl,hj]at hx;rw[hj]at hq;rcases j with _|j
 · simp at hq hx;subst hq hx;exact hr
 simp at hq
theorem Rw.MapsI.below {w w':World} {rs:List Rw.Row} {ads:List (Option Addr × Nat)} (h:Rw.MapsI w rs ads) (hb:Below w.heap.size w w'):Rw.MapsI w' rs ads:=fun i r a h1 h2=>(h i r a h1 h2).below hb
theorem Rw.MapsI.grown {w w':World} {rs:List Rw.Row} {ads:List (Option Addr × Nat)} {row:Option Nat} (h:Rw.MapsI w rs ads) (hg:w.grownBy w' row) (hr:∀k,row=some k→∀cs z,w.heap[k]?≠some (.cells cs 3 z)):Rw.MapsI w' rs ads :=
 fun i r a h1 h2=>(h i r a h1 h2).grown hg hr
theorem zIw {w:World} {A:Option Addr} {rs:List Rw.Row} {ads:List (Option Addr × Nat)} (hl:ads.length=rs.length) (hs:Slt w 74 A (zBj rs ads)) (hm:Rw.MapsI w rs ads):Rw.SeesI w A rs :=
 ⟨ads,hl,hs.sl,fun i r a h1 h2=>(hm i r a h1 h2).sl⟩
theorem Rw.At.slt {w:World} {b:Nat} {t:TypeId} {cs:List Value} (h:Rw.At w b t cs):Slt w t (some ⟨b,0,none⟩) cs :=
 fun _=>⟨b,0,cs.toArray,rfl,h,fun i _=>by simp⟩
theorem zO8:(prog.info? 74).map (fun i=>(i.zero,i.size,i.bytes))=some (some (.agg #[.int .i64 0,.int .i64 0,.slice none 0 0]),3,40):=by kernel_rfl
def Md.Doc (w:World) (v:Value) (T:List Rw.Row) (E:List Int):Prop:=∃A c XA xc,v=zBd A T.length c XA E.length xc∧Rw.SeesI w A T∧Sl w w.heap.size XA (E.map (Value.int .i64))
theorem Md.Doc.below {w w':World} {v:Value} {T:List Rw.Row} {E:List Int} (h:Md.Doc w v T E) (hb:Below w.heap.size w w'):Md.Doc w' v T E:=by
 obtain⟨A,c,XA,xc,h1,h2,h3⟩:=h;exact⟨A,c,XA,xc,h1,h2.below hb,h3.below hb hb.size⟩
theorem Md.in_any (A:Option Addr) (n c:Nat) (l:List Int) (d:Int) (w:World) (hn:l.length=n) (ap:n≤1000000) (hA:Sl w w.heap.size A (l.map (Value.int .i64))) :
 Calls prog 146 #[.slice A n c,.int .i64 d] w fun e w'=>e=.returned (.bool (decide (d∈l)))∧w=w':=by
 obtain⟨o,ho⟩:∃o,decide (d∈l)=o:=⟨_,rfl⟩;rw[ho];have HO:=hy' ho;have HN:=hy' hn;have HA:=hy' hA;clear ho hn hA;go_enter func146,ntmps146;go_wp2_with fail;go_loop [9] (fun i=>∃k:Nat,k≤n∧i=.int .i64 k∧d∉l.take k) (fun i=>n-(intOf i).toNat)
 case atStart=>exact⟨0,ZG _,rfl,by simp⟩
 obtain⟨k,hk,rfl,ah⟩:=hrel;have ag:=hy' ah;clear ah
 by_cases hlt:k<n
 rotate_left
 · obtain rfl:n=k:=by omega
   have aa:o=false:=by
    rw[←HO.o];have:=ag.o;rw[Zi (by rw[HN.o];exact Za _)]at this;exact Zt this
   have ae:=hy' aa;clear aa hlt;go_wp2_with fail;go_ret;exact⟨by rw[ae.o];rfl,rfl⟩
 obtain⟨x,hx⟩:∃x,l[k]?=some x:=⟨_,Zb (by rw[HN.o];exact hlt)⟩;obtain⟨ab,ao,rfl,ak,af⟩:=HA.o (by rw[Ze,HN.o];omega);have hc:=af k (by rw[Ze,HN.o];exact hlt);rw[Zw,hx,Zx]at hc;have aj:(k:Int)<n:=by omega
 have HX:=hy' hx;clear af hx;rcases hxd:(x == d) with _|_
 · have hne:¬x=d:=by simpa using hxd
   have ai:Hy (d∉l.take (k+1)):=hy' (by
    rw[ZA,HX.o];intro h;rcases List.mem_append.1 h with h|h
    · exact ag.o h
    simp at h;exact hne h.symm)
   clear hne;go_wp2_with fail;go_round
   case rel=>exact⟨k+1,by omega,by go_num,ai.o⟩
   simp[intOf];omega
 have he:x=d:=beq_iff_eq.1 hxd
 have aa:o=true:=by
  rw[←HO.o];exact Zu (by rw[←he];exact Zk HX.o)
 have ae:=hy' aa;clear he aa;go_wp2_with fail;go_ret;exact⟨by rw[ae.o];rfl,rfl⟩
theorem Md.find_take {T:List Rw.Row} {k:Nat} {r:Rw.Row} {c:Int} (hr:T[k]?=some r) (aa:∀q∈T.take k,q.1≠c) (he:r.1=c):Md.find T c=some r:=by
 obtain⟨h1,h2⟩:=List.getElem?_eq_some_iff.1 hr;rw[←ZE k T,ZR h1,h2];unfold Md.find;rw[List.find?_append,List.find?_eq_none.2 (fun q hq=>by simpa using aa q hq)];simp[he]
theorem zJO {T:List Rw.Row} {k:Nat} {c:Int} (hk:T.length≤k) (aa:∀q∈T.take k,q.1≠c):Md.find T c=none:=by
 rw[Zi hk]at aa;exact zDe aa
theorem Md.no_succ {T:List Rw.Row} {k:Nat} {r:Rw.Row} {c:Int} (hr:T[k]?=some r) (aa:∀q∈T.take k,q.1≠c) (he:¬r.1=c):∀q∈T.take (k+1),q.1≠c:=by
 rw[ZA,hr];intro q hq;rcases List.mem_append.1 hq with hq|hq
 · exact aa q hq
 simp at hq;subst hq;exact he
theorem zFN (v:Value) (T:List Rw.Row) (E:List Int) (d:Int) (w:World) (a6:T.length≤1000000) (h:Md.Doc w v T E) :
 Calls prog 71 #[v,.int .i64 d] w fun e w'=>e=.returned (.int .i64 (Md.cls T d))∧Below w.heap.size w w':=by
 obtain⟨A,c,XA,xc,rfl,h2,hX⟩:=h;obtain⟨n,hn⟩:∃k,T.length=k:=⟨_,rfl⟩;obtain⟨xn,hxn⟩:∃k,E.length=k:=⟨_,rfl⟩;rw[hn]at a6 ⊢;rw[hxn];obtain⟨res,ae⟩:∃k,Md.cls T d=k:=⟨_,rfl⟩;rw[ae];have ai:Below w.heap.size w (w.alloc (.cells #[.slice A n c,.slice XA xn xc] 38)):=(Zc _ _).alloc (Za _) _;have ao:Rw.At (w.alloc (.cells #[.slice A n c,.slice XA xn xc] 38)) w.heap.size 38 [.slice A n c,.slice XA xn xc]:=Rw.At.new w 38 [.slice A n c,.slice XA xn xc];obtain⟨wa,au⟩:∃wa,w.alloc (.cells #[.slice A n c,.slice XA xn xc] 38)=wa:=⟨_,rfl⟩;rw[au]at ai ao;have z0:=ao.cell 0 rfl;have ax:=hy' au;have aj:=hy' ai;have ar:=hy' (h2.below ai);have HN:=hy' hn;have ah:=hy' ae;clear au ai ao hn hxn ae h2 hX;unfold zBd;go_enter func71,ntmps71;go_upto_region 1 with (fail)
 rw[ax.o];go_wp2_with fail;go_loopw [10] (fun i wr=>∃k:Nat,k≤n∧i=.int .i64 k∧(∀q∈T.take k,q.1≠d)∧Below wa.heap.size wa wr) (fun i _=>n-(intOf i).toNat)
 case atStart=>exact⟨0,ZG _,rfl,by simp,Zc _ _⟩
 obtain⟨k,hk,rfl,aw,aa⟩:=hrel;have ap:=hy' aw;have ak:=hy' aa;clear aw
 by_cases hlt:k<n
 · obtain⟨r,hr⟩:∃r,T[k]?=some r:=⟨_,Zb (by rw[HN.o];exact hlt)⟩;obtain⟨b,o,a,ay,hb,c0,c1,c2,a1⟩:=(ar.o.below aa).row hr;have a7:(k:Int)<n:=by omega
   have af:=Rw.At.new wr 74 [.int .i64 r.1,.int .i64 r.2.1,.slice a.1 r.2.2.length a.2];obtain⟨x0,x1,x2,_,_,_⟩:=af.three;have av:=hy' (aa.alloc aa.size (.cells #[.int .i64 r.1,.int .i64 r.2.1,.slice a.1 r.2.2.length a.2] 74));have HR:=hy' hr;subst ay;clear hr a1 aa af;rcases hxd:(r.1 == d) with _|_
   · have az:=hy' (Md.no_succ HR.o ap.o (by simpa using hxd));go_wp2_with fail;exact⟨⟨k+1,by omega,by go_num,az.o,av.o⟩,by simp[intOf];omega⟩
   have ag:res=r.2.1:=by
    rw[←ah.o];unfold Md.cls;rw[Md.find_take HR.o ap.o (beq_iff_eq.1 hxd)];rfl
   have aq:=hy' ag;clear ag;go_wp2_with fail;go_ret;exact⟨by rw[aq.o];rfl,aj.o.trans (av.o.mono aj.o.size)⟩
 obtain rfl:n=k:=by omega
 have ag:res=0:=by
  rw[←ah.o];unfold Md.cls;rw[zJO (by rw[HN.o];exact Za _) ap.o];rfl
 have aq:=hy' ag;clear ag hlt;go_wp2_with fail;go_ret;exact⟨by rw[aq.o];rfl,aj.o.trans (ak.o.mono aj.o.size)⟩
theorem zN7 (T:List Rw.Row) (c:Int):(∃a b,zA6 c=[a,b]∧Md.mp T c=[a,b])∨(∃a b t,zA6 c=[a,b,t]∧Md.mp T c=[c-(t-4519),t]∧0≤t∧t≤60000∧0≤c∧c≤60000)∨(zA6 c=[]∧Md.mp T c=zAS T c):=by
 by_cases h4:zA2 c=4
 · have hs:=zAt c (.inl h4);refine .inl ⟨4352+(c-44032)/588,4449+(c-44032)%588/28,?_,?_⟩
   · unfold zA6;grind
   unfold Md.mp;rw[zAN c h4];simp
 by_cases h5:zA2 c=5
 · have hs:=zAt c (.inr h5);refine .inr (.inl ⟨4352+(c-44032)/588,4449+(c-44032)%588/28,4519+(c-44032)%28,?_,?_,by omega,by omega,by omega,by omega⟩)
   · unfold zA6;grind
   unfold Md.mp;rw[zAT c h5];simp;omega
 refine .inr (.inr ⟨?_,?_⟩)
 · unfold zA6;grind
 unfold Md.mp;rw[zBI c h4 h5];simp
theorem zHd {w:World} {e:TypeId} {xs:List Value}:Sl (w.alloc (.cells xs.toArray e)) (w.alloc (.cells xs.toArray e)).heap.size (some ⟨w.heap.size,0,none⟩) xs:=zCa rfl e (0,0) (ZV w _)
theorem zIx (v:Value) (T:List Rw.Row) (E:List Int) (d:Int) (w:World) (bj:T.length≤1000000) (h:Md.Doc w v T E) (h3 : -2147483648≤d) (h4:d≤2147483647) :
 Calls prog 107 #[v,.int .i64 d] w (zCR .i64 (Md.mp T d) w):=by
 obtain⟨A,c,XA,xc,rfl,h2,hX⟩:=h;obtain⟨n,hn⟩:∃k,T.length=k:=⟨_,rfl⟩;obtain⟨xn,hxn⟩:∃k,E.length=k:=⟨_,rfl⟩;rw[hn]at bj ⊢;rw[hxn];have aw:=zN7 T d;obtain⟨res,ah⟩:∃k,Md.mp T d=k:=⟨_,rfl⟩;rw[ah]at aw ⊢;have ay:Below w.heap.size w (w.alloc (.cells #[.slice A n c,.slice XA xn xc] 38)):=(Zc _ _).alloc (Za _) _;have a6:Rw.At (w.alloc (.cells #[.slice A n c,.slice XA xn xc] 38)) w.heap.size 38 [.slice A n c,.slice XA xn xc]:=Rw.At.new w 38 [.slice A n c,.slice XA xn xc];have HP:=hy' (zH5 d (w.alloc (.cells #[.slice A n c,.slice XA xn xc] 38)) h3 h4);have a7:=hy' ay;have aq:=hy' (h2.below ay);have bb:=hy' a6;have HN:=hy' hn;have ag:=hy' aw;obtain⟨sp,af⟩:∃l,zA6 d=l:=⟨_,rfl⟩;rw[af]at HP ag;clear ay a6 hn hxn ah h2 hX aw af;unfold zBd;go_enter func107,ntmps107;go_wp2_with fail;refine HP.o.mono ?_;rintro e w1 ⟨A1,c1,rfl,bg,ar⟩;have bf:=hy' bg;have ae:=hy' (a7.o.trans (ar.mono a7.o.size));have az:=hy' (bb.o.below ar);have ap:=hy' (aq.o.below ar);clear bg ar HP bb aq;rcases ag.o with ⟨a,b,hs,hm⟩|⟨a,b,t,hs,hm,t0,t1,d0,d1⟩|⟨hs,hm⟩
 · subst hs hm;clear ag;go_wp2_with fail;go_ret;exact⟨A1,c1,rfl,bf.o,ae.o⟩
 · subst hs hm;obtain⟨ab,ao,hA,bo,ba⟩:=bf.o (by simp);have hc:w1.cell? ⟨ab,ao+2,none⟩=some (.int .i64 t):=by simpa using ba 2 (by simp)
   have e1:IntKind.i64.wrap (t-4519)=t-4519:=by rw[Z5];omega
   have e2:IntKind.i64.wrap (d-(t-4519))=d-(t-4519):=by rw[Z5];omega
   have bp:w1.drew.cell? ⟨ab,ao+2,none⟩=some (.int .i64 t):=hc;subst hA;clear ag ba;go_wp2_with fail;go_region
   all_goals
    go_wp2_with fail;go_ret;have bk:Below w1.heap.size w1 (w1.alloc (.cells #[.int .i64 (d-(t-4519)),.int .i64 t] 3)).drew:=((Zc _ _).alloc (Za _) _).drew;exact⟨_,_,rfl,(zHd (w:=w1) (e:=3) (xs:=[.int .i64 (d-(t-4519)),.int .i64 t])),ae.o.trans (bk.mono ae.o.size)⟩
 subst hs hm;clear ag;have ak:=az.o;have z0:=ak.cell 0 rfl;clear ak;go_wp2_with fail;go_loopw [30] (fun i wr=>∃k:Nat,k≤n∧i=.int .i64 k∧(∀q∈T.take k,q.1≠d)∧Below w1.heap.size w1 wr) (fun i _=>n-(intOf i).toNat)
 case atStart=>exact⟨0,ZG _,rfl,by simp,Zc _ _⟩
 obtain⟨k,hk,rfl,bh,aa⟩:=hrel;have av:=hy' bh;have ax:=hy' aa;clear bh
 by_cases hlt:k<n
 · obtain⟨r,hr⟩:∃r,T[k]?=some r:=⟨_,Zb (by rw[HN.o];exact hlt)⟩;obtain⟨b,o,a,bi,hb,c0,c1,c2,a8⟩:=(ap.o.below aa).row hr;have bn:(k:Int)<n:=by omega
   have aj:=Rw.At.new wr 74 [.int .i64 r.1,.int .i64 r.2.1,.slice a.1 r.2.2.length a.2];obtain⟨x0,x1,x2,_,_,_⟩:=aj.three;have au:Below wr.heap.size wr (wr.alloc (.cells #[.int .i64 r.1,.int .i64 r.2.1,.slice a.1 r.2.2.length a.2] 74)):=(Zc _ _).alloc (Za _) _;have bl:=hy' (a8.below au au.size);have bc:=hy' (aa.alloc aa.size (.cells #[.int .i64 r.1,.int .i64 r.2.1,.slice a.1 r.2.2.length a.2] 74));have HR:=hy' hr;subst bi;clear hr a8 aa aj au;rcases hxd:(r.1 == d) with _|_
   · have bm:=hy' (Md.no_succ HR.o av.o (by simpa using hxd));go_wp2_with fail;exact⟨⟨k+1,by omega,by go_num,bm.o,bc.o⟩,by simp[intOf];omega⟩
   have ai:zAS T d=r.2.2:=by
    unfold zAS;rw[Md.find_take HR.o av.o (beq_iff_eq.1 hxd)];rfl
   have a1:=hy' ai;clear ai;go_wp2_with fail;go_ret;rw[a1.o];exact⟨a.1,a.2,rfl,bl.o,ae.o.trans (bc.o.mono ae.o.size)⟩
 obtain rfl:n=k:=by omega
 have ai:zAS T d=[]:=by
  unfold zAS;rw[zJO (by rw[HN.o];exact Za _) av.o];rfl
 have a1:=hy' ai;clear ai hlt;go_wp2_with fail;go_ret;rw[a1.o];exact⟨none,0,rfl,Sl.nil _ _ _,ae.o.trans (ax.o.mono ae.o.size)⟩
def zJP (l:List Int) (b:Bool) (w:World) (e:Ending) (w':World):Prop :=
 ∃A c,e=.returned (.tuple #[.slice A l.length c,.bool b])∧Sl w' w'.heap.size A (l.map (Value.int .i64))∧Below w.heap.size w w'
theorem zLT {mp:Int→List Int} {L:List Int} {k:Nat} {x:Int} (h:L[k]?=some x):Md.step mp (L.take (k+1))=Md.step mp (L.take k)++Md.one mp x:=by
 unfold Md.step;rw[ZA,h];simp
theorem zKw {mp:Int→List Int} {L:List Int} {k:Nat} {x:Int} (h:L[k]?=some x):Md.plain mp (L.take (k+1))=(Md.plain mp (L.take k)&&(mp x).isEmpty):=by
 unfold Md.plain;rw[ZA,h];simp
theorem Md.step_len {mp:Int→List Int} (h:∀c,(mp c).length≤1000) (L:List Int):(Md.step mp L).length≤1000*L.length:=by
 induction L with
 | nil=>simp[Md.step]
 | cons x l ih =>
   have:(Md.one mp x).length≤1000:=by
    unfold Md.one;split
    · simp
    exact h x
   unfold Md.step at ih ⊢;rw[Y7,Zd,ZF];omega
theorem Md.step_bd {mp:Int→List Int} (h:∀c,∀d∈mp c,-2147483648≤d∧d≤2147483647) {L:List Int} (hL:∀c∈L,-2147483648≤c∧c≤2147483647):∀c∈Md.step mp L,-2147483648≤c∧c≤2147483647:=by
 intro c hc;unfold Md.step at hc;obtain⟨x,hx,aa⟩:=List.mem_flatMap.1 hc;unfold Md.one at aa;split at aa
 · simp at aa;subst aa;exact hL c hx
 exact h x c aa
theorem zDk (w:World) (e:TypeId) (hs:0<1):(w.alloc (.cells #[] e)).ownsRow w.heap.size e 1 (.slice (some ⟨w.heap.size,0,none⟩) 0 0) 0 [] :=
 ⟨rfl,.inr ⟨w.heap.size,0,#[],rfl,Za _,ZV w _,Za _,by decide,rfl,rfl⟩⟩
theorem zLU (v:Value) (T:List Rw.Row) (E:List Int) (A:Option Addr) (n c:Nat) (L:List Int) (w:World) (b7:T.length≤1000000) (h:Md.Doc w v T E) (bh:∀c,(Md.mp T c).length≤1000) (hn:L.length=n) (cg:n≤1000) (hL:∀c∈L,-2147483648≤c∧c≤2147483647) (hA:Sl w w.heap.size A (L.map (Value.int .i64))) :
 Calls prog 70 #[v,.slice A n c] w (zJP (Md.step (Md.mp T) L) (!Md.plain (Md.mp T) L) w):=by
 obtain⟨i0,bt,bk,bl,b1⟩:=Z7 zFy;have HM:Hy (∀(d:Int) (W:World),Below w.heap.size w W → -2147483648≤d→d≤2147483647→Calls prog 107 #[v,.int .i64 d] W (zCR .i64 (Md.mp T d) W)):=hy' fun d W hW a b=>zIx v T E d W b7 (h.below hW) a b
 obtain⟨AT,cT,XA,xc,rfl,h2,hX⟩:=h;obtain⟨tn,bm⟩:∃k,T.length=k:=⟨_,rfl⟩;obtain⟨xn,hxn⟩:∃k,E.length=k:=⟨_,rfl⟩;rw[bm,hxn]at HM ⊢
 have hlen:∀k,k≤n→(Md.step (Md.mp T) (L.take k)).length≤1000*k:=fun k hk=>by
  have:=Md.step_len bh (L.take k);rw[Zr,hn]at this;omega
 have a1:=hy' hlen;have b3:=hy' bh;have HN:=hy' hn;have HL:=hy' hL;obtain⟨res,aj⟩:∃r,Md.step (Md.mp T) L=r:=⟨_,rfl⟩;obtain⟨rb,bi⟩:∃r,Md.plain (Md.mp T) L=r:=⟨_,rfl⟩;rw[aj,bi];have bb:=hy' aj;have b4:=hy' bi;obtain⟨wa,au⟩:∃wa,(w.alloc (.cells #[.slice AT tn cT,.slice XA xn xc] 38)).alloc (.cells #[] 3)=wa:=⟨_,rfl⟩;have bg:Below w.heap.size w wa:=by rw[←au];exact ((Zc _ _).alloc (Za _) _).alloc (by simp) _
 have ay:Rw.At wa w.heap.size 38 [.slice AT tn cT,.slice XA xn xc]:=by
  rw[←au];exact (Rw.At.new w 38 [.slice AT tn cT,.slice XA xn xc]).alloc _
 have ap:wa.ownsRow (w.heap.size+1) 3 1 (.slice (some ⟨w.heap.size+1,0,none⟩) 0 0) 0 []:=by
  have:=zDk (w.alloc (.cells #[.slice AT tn cT,.slice XA xn xc] 38)) 3 (by decide);rw[ZK]at this;rw[←au];exact this
 have bo:=hy' bg;have HA:=hy' (hA.below bg (Za _));have b8:w.heap.size+1≤wa.heap.size:=ay.lt;have b9:=hy' au;clear hlen bh hn hL aj bi bm hxn au bg hA h2 hX;unfold zBd at *;go_enter func70,ntmps70;go_upto_region 2 with (fail)
 rw[b9.o];go_wp2_with fail;go_loopw [6,7,14] (fun v6 v7 i wr=>∃(k:Nat) (v:Value),k≤n∧i=.int .i64 k∧v6=v∧v7=.bool (!Md.plain (Md.mp T) (L.take k))∧Rw.At wr w.heap.size 38 [.slice AT tn cT,.slice XA xn xc]∧wr.ownsRow (w.heap.size+1) 3 1 v (Md.step (Md.mp T) (L.take k)).length ((Md.step (Md.mp T) (L.take k)).map (Value.int .i64))∧Below (w.heap.size+1) wa wr) (fun _ _ i _=>n-(intOf i).toNat)
 case atStart=>exact⟨0,_,ZG _,rfl,rfl,rfl,ay,ap,Zc _ _⟩
 obtain⟨k,v,hk,rfl,rfl,rfl,af,aa,ae⟩:=hrel;have bp:w.heap.size+1≤wr.heap.size:=af.lt;have bz:=a1.o k hk
 by_cases hlt:k<n
 · obtain⟨x,hx⟩:∃x,L[k]?=some x:=⟨_,Zb (by rw[HN.o];exact hlt)⟩;have hxb:=HL.o x (Zk hx);obtain⟨ab,ao,hA2,cd,bq⟩:=HA.o (by rw[Ze,HN.o];omega);have hc:=bq k (by rw[Ze,HN.o];exact hlt);rw[Zw,hx,Zx,←(zAP ae).1 _ _ (by omega)]at hc;have hM:=HM.o x wr (bo.o.trans (ae.mono (ZW _))) hxb.1 hxb.2;have az:=zLT (mp:=Md.mp T) hx;have bc:=zKw (mp:=Md.mp T) hx;have bx:=b3.o x;unfold Md.one at az;obtain⟨S,hS⟩:∃S,Md.step (Md.mp T) (L.take k)=S:=⟨_,rfl⟩;obtain⟨p,hp⟩:∃p,Md.plain (Md.mp T) (L.take k)=p:=⟨_,rfl⟩;obtain⟨m,hm⟩:∃m,Md.mp T x=m:=⟨_,rfl⟩;obtain⟨sl,a7⟩:∃sl,S.length=sl:=⟨_,rfl⟩;rw[hS,hm]at az;rw[hp,hm]at bc;rw[hS]at aa bz;rw[hm]at hM bx;rw[a7]at aa bz;rw[hp];have kI:(k:Int)<n:=by omega
   have k0:(0:Int)≤k:=by omega
   have z0:=af.cell 0 rfl;have z1:=af.cell 1 rfl;have b2:=hy' az;have bs:=hy' bc;have aq:=hy' aa;have ba:=hy' af;have bf:=hy' ae;have br:=hy' a7;subst hA2;clear ay ap hx bq az bc hS hp hm a7 aa af ae;go_wp2_with fail;refine hM.mono ?_;rintro e w1 ⟨A1,c1,rfl,bu,av⟩;have ah:=zA4 aq.o av (Za _);have ax:=ba.o.below av;have a8:=av.size;have ai:=hy' ah;have aw:=hy' ax;have cb:=hy' bu;have bn:=hy' (bf.o.trans (av.mono bp));have bw:w.heap.size+1≤w1.heap.size:=Zh bp a8;clear ah ax bu av hM z0 z1 hc;rcases m with _|⟨m0,mr⟩
   · go_wp2_with (first|(at_builtin;refine zAi _ rfl _ _ _ rfl (w.heap.size+1) 3 i0 _ 8 underlying36 bt bk bl b1 rfl _ sl _ rfl ai.o _ rfl rfl (by simp only[maxLen];omega) (by omega) bw ?_;intro v1 w4 ag ar)|fail);refine⟨⟨k+1,v1,by omega,by go_num,rfl,by rw[bs.o];simp,aw.o.below' ar (ZN _),?_,bn.o.trans ar⟩,by simp[intOf];omega⟩;rw[b2.o,Zl trivial,Zd,br.o,ZO];exact ag
   have ak:((m0::mr).map (Value.int .i64)).length=(m0::mr).length*1:=by simp
   obtain⟨q,hq⟩:∃q,(m0::mr).length=q:=⟨_,rfl⟩;have b5:¬q=0:=by rw[←hq];simp
   have ch:((q:Int) == 0)=false:=by simp;omega
   rw[hq]at bx ak ⊢;have HQ:=hy' hq;have bj:∀u∈(m0::mr).map (Value.int .i64),u.oneCell'=true:=zF0 .i64 _;have b6:=hy' bj;have a6:=hy' ak;clear hq b5 bj ak;go_wp2_with (first|(at_builtin;refine zAd _ rfl _ _ _ rfl (w.heap.size+1) 3 i0 _ 1 8 underlying36 bt bk bl b1 rfl (by omega) _ sl _ rfl ai.o _ A1 q c1 ((m0::mr).map (Value.int .i64)) rfl a6.o cb.o b6.o (by simp only[maxLen];omega) (by omega) bw ?_;intro v1 w4 ag ar cf)|fail);refine⟨⟨k+1,v1,by omega,by go_num,rfl,by rw[bs.o];simp,aw.o.below' ar (ZN _),?_,bn.o.trans ar⟩,by simp[intOf];omega⟩;rw[b2.o,Zj (by simp),Zd,br.o,ZO,HQ.o];exact ag
 obtain rfl:n=k:=by omega
 rw[Zi (by rw[HN.o];exact Za _),bb.o]at aa;rw[Zi (by rw[HN.o];exact Za _),b4.o];obtain⟨A4,c4,rfl⟩:=zA3 aa;have HS:=hy' (Sl.of_own aa);have cc:=hy' (bo.o.trans (ae.mono (ZW _)));clear aa ae af ay ap hlt;go_wp2_with fail;go_ret2;exact⟨A4,c4,rfl,HS.o,cc.o⟩
def zFa (o:Option (List Int)) (w:World) (e:Ending) (w':World):Prop :=
 ∃A c,e=.returned (.tuple #[.slice A (o.getD []).length c,.bool o.isSome])∧Sl w' w'.heap.size A ((o.getD []).map (Value.int .i64))∧Below w.heap.size w w'
theorem zLV {T:List Rw.Row} (h:∀r∈T,r.2.2.length≤1000) (c:Int):(Md.mp T c).length≤1000:=by
 unfold Md.mp zAS;split
 · simp
 cases hf:Md.find T c with
 | none=>decide
 | some r=>exact h r (zAq hf).1
theorem zHe (v:Value) (T:List Rw.Row) (E:List Int) (d:Int) (w:World) (bn:T.length≤100000) (h:Md.Doc w v T E) (hbd:Md.bd T) (bk:∀r∈T,r.2.2.length≤1000) (h3 : -2147483648≤d) (h4:d≤2147483647) :
 Calls prog 36 #[v,.int .i64 d] w (zFa (Md.full T d) w):=by
 have bl:=zLV bk;have hmb:=zHO hbd;have av:zDW (Md.mp T) (T.length+4) [d]=Md.full T d:=zOr (Md.mp T) (T.length+3) d
 have HS:Hy (∀(A:Option Addr) (c:Nat) (L:List Int) (W:World),Below w.heap.size w W→L.length≤32→(∀c∈L,-2147483648≤c∧c≤2147483647)→Sl W W.heap.size A (L.map (Value.int .i64)) →
  Calls prog 70 #[v,.slice A L.length c] W (zJP (Md.step (Md.mp T) L) (!Md.plain (Md.mp T) L) W)):=hy' fun A c L W hW hl hb hs=>zLU v T E A L.length c L W (by omega) (h.below hW) bl rfl (by omega) hb hs
 obtain⟨AT,cT,XA,xc,rfl,h2,hX⟩:=h;obtain⟨tn,ax⟩:∃k,T.length=k:=⟨_,rfl⟩;obtain⟨xn,hxn⟩:∃k,E.length=k:=⟨_,rfl⟩;rw[ax]at bn av;rw[ax,hxn]at HS ⊢;obtain⟨o,ho⟩:∃o,Md.full T d=o:=⟨_,rfl⟩;rw[ho]at av ⊢;obtain⟨wa,aq⟩:∃wa,(w.alloc (.cells #[.slice AT tn cT,.slice XA xn xc] 38)).alloc (.cells #[.int .i64 d] 3)=wa:=⟨_,rfl⟩;have bh:Below w.heap.size w wa:=by rw[←aq];exact ((Zc _ _).alloc (Za _) _).alloc (by simp) _
 have a8:Rw.At wa w.heap.size 38 [.slice AT tn cT,.slice XA xn xc]:=by
  rw[←aq];exact (Rw.At.new w 38 [.slice AT tn cT,.slice XA xn xc]).alloc _
 have ba:Sl wa wa.heap.size (some ⟨w.heap.size+1,0,none⟩) ([d].map (Value.int .i64)):=by
  have:=zHd (w:=w.alloc (.cells #[.slice AT tn cT,.slice XA xn xc] 38)) (e:=3) (xs:=[.int .i64 d]);simp only[ZK]at this;rw[←aq];simp only[ZK];exact this
 have ag:=hy' bh;have bq:=hy' aq;have bt:=hy' a8;have bz:=hy' hmb;have bo:=hy' av;have br:=hy' ba;clear bl hmb av ax hxn ho aq bh a8 ba h2 hX hbd bk;unfold zBd at *;go_enter func36,ntmps36;go_upto_region 2 with (fail)
 rw[bq.o];go_wp2_with fail;go_loopw [6,7] (fun v6 i wr=>∃(k:Nat) (A:Option Addr) (c:Nat) (L:List Int),k≤tn+4∧i=.int .i64 k∧v6=.slice A L.length c∧Sl wr wr.heap.size A (L.map (Value.int .i64))∧L.length≤32∧(∀c∈L,-2147483648≤c∧c≤2147483647)∧zDW (Md.mp T) (tn+4-k) L=o∧Below wa.heap.size wa wr) (fun _ i _=>tn+4-(intOf i).toNat)
 case atStart=>exact⟨0,some ⟨w.heap.size+1,0,none⟩,1,[d],ZG _,rfl,rfl,br.o,by simp,by simp;omega,bo.o,Zc _ _⟩
 obtain⟨k,A,c,L,hk,rfl,rfl,hs,hl,hb,ah,ae⟩:=hrel;have af:=bt.o.below ae;have z0:=af.cell 0 rfl;have z1:=af.cell 1 rfl;have ak:=hy' ae;have ao:=hy' ah;have hS:=HS.o A c L wr (ag.o.trans (ae.mono ag.o.size)) hl hb hs;have bp:=hy' hs;have HB:=hy' hb;have e1:IntKind.i64.wrap ((tn:Int)+3)=(tn:Int)+3:=by rw[Z5];omega
 by_cases hlt:k<tn+4
 · obtain⟨q,hq⟩:∃q,tn+4-k=q+1:=⟨tn+4-k-1,by omega⟩;have au:=ao.o;rw[hq,zDW]at au;have bi:tn+4-(k+1)=q:=by omega
   have a6:=Md.step_bd bz.o HB.o;obtain⟨nx,ai⟩:∃nx,Md.step (Md.mp T) L=nx:=⟨_,rfl⟩;obtain⟨pl,bf⟩:∃pl,Md.plain (Md.mp T) L=pl:=⟨_,rfl⟩;rw[ai,bf]at au hS;rw[ai]at a6;have bg:=hy' au;have bs:=hy' bi;have bu:=hy' a6;have bm:(k:Int)≤(tn:Int)+3:=by omega
   have bx:decide ((k:Int)≤(tn:Int)+3)=true:=Zu bm;clear hs hb ah ae af au bi hq ai bf a6;go_wp2_with fail;refine hS.mono ?_;rintro e w1 ⟨A1,c1,rfl,bj,ar⟩;have ay:=hy' (ak.o.trans (ar.mono ak.o.size));have ap:=bp.o.below ar ar.size;have a1:=hy' ap;have bw:=hy' bj;clear bj ar hS z0 z1 ap;cases pl
   · obtain⟨nl,aw⟩:∃nl,nx.length=nl:=⟨_,rfl⟩;have a7:=hy' aw;have az:=bg.o;rw[Zj (by decide),aw]at az;rw[aw];have bc:=hy' az;clear aw az
     by_cases hbig:32<nl
     · have aa:o=none:=by rw[←bc.o,Zl hbig]
       have b1:decide ((32:Int)<nl)=true:=Zu (by omega);have aj:=hy' aa;clear aa;go_wp2_with fail;go_ret2;rw[aj.o];exact⟨none,0,rfl,Sl.nil _ _ _,ag.o.trans (ay.o.mono ag.o.size)⟩
     have aa:zDW (Md.mp T) q nx=o:=by rw[←bc.o,Zj hbig]
     have b1:decide ((32:Int)<nl)=false:=Zt (by omega);have aj:=hy' aa;clear aa;go_wp2_with fail;exact⟨⟨k+1,A1,c1,nx,by omega,by go_num,by rw[a7.o],bw.o,by rw[a7.o];omega,bu.o,by rw[bs.o];exact aj.o,ay.o⟩,by simp[intOf];omega⟩
   have aa:o=some L:=by rw[←bg.o,Zl rfl]
   have aj:=hy' aa;clear aa;go_wp2_with fail;go_ret2;rw[aj.o];exact⟨A,c,rfl,a1.o,ag.o.trans (ay.o.mono ag.o.size)⟩
 have bb:k=tn+4:=by omega
 have aa:o=none:=by
  rw[←ao.o,bb,Ye];rfl
 have aj:=hy' aa;have bx:decide ((k:Int)≤(tn:Int)+3)=false:=Zt (by omega);clear aa bb hs hb ah ae af hS;go_wp2_with fail;go_ret2;rw[aj.o];exact⟨none,0,rfl,Sl.nil _ _ _,ag.o.trans (ak.o.mono ag.o.size)⟩
end Go.Proofs.YthngjlllojiacaaGreatDoor
