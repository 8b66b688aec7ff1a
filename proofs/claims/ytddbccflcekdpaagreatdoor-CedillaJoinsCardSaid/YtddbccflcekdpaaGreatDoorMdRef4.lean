/- order.Of, by walking its text. -/
import Derived.Test.YtddbccflcekdpaaGreatDoorOrWalk
set_option maxRecDepth 100000
set_option maxHeartbeats 8000000
set_option linter.unusedVariables false
set_option linter.unusedSimpArgs false
namespace Go.Proofs.YtddbccflcekdpaaGreatDoor
open Go.Proofs.Tryz
open Go.RowKit
theorem Ss.At.of_own {w:World} {base g n cap:Nat} {l:List Int} (hl:l.length=n) (h:w.ownsRow base 21 1 (.slice (some ⟨g,0,none⟩) n cap) n (l.map (Value.int .i32))):Ss.At w g cap l∧base≤g∧n≤cap∧cap≤maxLen:=by
 rcases h.2 with ⟨hv,_⟩|⟨g',ae,aa,hv,hg,hb,h1,h2,h3,h4⟩
 · cases hv
 simp only[Z3,Zh,YT,Xd,QG]at hv;obtain⟨rfl,rfl⟩:=hv;refine⟨⟨aa.toList.drop n,?_,?_⟩,hg,h1,h2⟩
 · have e:aa.toList.length=aa.size:=XX;rw[ZO,e,h3,hl];omega
 unfold Rw.At;rw[Xm]at h4;rw[←h4,ZF];simpa using hb
theorem Ss.At.own {w:World} {base g n cap:Nat} {Z:List Int} (h:Ss.At w g cap Z) (hl:Z.length=n) (hb:base≤g) (hc:n≤cap) (hm:cap≤maxLen):w.ownsRow base 21 1 (.slice (some ⟨g,0,none⟩) n cap) n (Z.map (Value.int .i32)):=by
 obtain⟨R,hs,ha⟩:=h;refine⟨by rw[Ze,hl,Xm],.inr ⟨g,cap,_,rfl,hb,ha,hc,hm,?_,?_⟩⟩
 · simp;omega
 rw[Xm];simp[hl]
theorem Or.of_any (v:Value) (T:List Rw.Row) (S:List Int) (A:Option Addr) (n c:Nat) (l:List Int) (w:World) (ok:Ud.Ok T S) (h:Ud.Is w v T S) (hl:l.length=n) (hn:n≤100000) (hA:Sl w w.heap.size A (l.map (Value.int .i32))) (a8:∀bu cd k N,(∀(args:Array Value) (w:World),(callFunc bu args).run prog w=.ok (.enter bu args) w)→zEi bu cd k N) :
 Calls prog 100 #[v,.slice A n c] w (Md.RetOwn (Or.of (Md.cls T) l) w):=by
 have bc:Below w.heap.size w (w.alloc (.cells #[v] 28)):=(Zc _ _).alloc (Za _) _;obtain⟨wa,bh⟩:∃wa,w.alloc (.cells #[v] 28)=wa:=⟨_,rfl⟩;have b8:Rw.At wa w.heap.size 28 [v]:=by rw[←bh];exact Rw.At.new w 28 [v]
 rw[bh]at bc;have bz:=zC0 A n c w.heap.size l wa hl (Zi hn (by decide)) bc.size (hA.below bc (Za _));obtain⟨pv,cr,_⟩:=h.form;have cq:=hy' bh;have bp:=hy' bc;have cf:=hy' b8;have cj:=hy' h;have cb:=hy' ok;have HL:=hy' hl;have cw:=hy' a8;obtain⟨f,hf⟩:∃f,Md.cls T=f:=⟨_,rfl⟩;rw[hf];have HF:=hy' hf;subst cr;clear bh bc b8 h ok hl a8 hA hf;go_enter func100,ntmps100;go_upto_region 1 with (fail)
 rw[cq.o];go_wp2_with fail;refine bz.mono ?_;rintro e w1 ⟨A1,c1,rfl,ai,bi⟩;have b4:=hy' (bp.o.trans (bi.mono bp.o.size));have bn:=hy' (cf.o.below bi);rcases ai.2 with ⟨hv,h0⟩|⟨g,cap,c8,hv,hg,cn,k1,k2,k3,k4⟩
 · simp only[Z3]at hv;obtain⟨rfl,rfl,rfl⟩:=hv;have ct:l=[]:=Zz HL.o;subst ct;clear ai bi bz;go_wp2_with fail;go_loopw [7,8] (fun vi _ wr=>vi=.int .i64 0∧wr=w1) (fun _ _ _=>0)
   case round =>
    obtain⟨rfl,rfl⟩:=hrel;go_wp2_with fail;go_ret;exact⟨none,0,rfl,ZI _ _ _ _,b4.o⟩
   exact⟨rfl,rfl⟩
 simp only[Z3]at hv;obtain⟨rfl,_,bq⟩:=hv;replace bq:=bq.symm;subst bq;obtain⟨cg,b6,cu,cp⟩:=Ss.At.of_own HL.o ai;have ck:w.heap.size+1≤g:=Zi (show w.heap.size+1≤wa.heap.size from cf.o.lt) hg;have b3:∀W,w1.grownBy W (some g)→Below w.heap.size w W:=fun W hW=>b4.o.grown hW b4.o.size (by intro k hk;simp only[Zh]at hk;omega)
 have ah:∀W,w1.grownBy W (some g)→W.cell? ⟨w.heap.size,0,none⟩=some (.pointer (some ⟨pv,0,none⟩))∧w.heap.size<W.heap.size:=fun W hW=>by
  have:=bn.o.grown hW (by simp only[QK,Zh];omega);exact⟨this.cell 0 rfl,this.lt⟩
 have ap:Ss.Cmp 129 (some ⟨w.heap.size,0,none⟩) f g w1:=fun W hW x y=>by
  have:=zMi _ T S w.heap.size x y W cb.o (cj.o.below (b3 W hW)) (ah W hW).1 (ah W hW).2;rw[HF.o]at this;exact this
 have ba:=fun (o n1 bt:Nat) (P1 L1 Q1:List Int) (W:World) (hW:w1.grownBy W (some g))=>Or.sort_any 129 (some ⟨w.heap.size,0,none⟩) f zMj (fun N=>cw.o _ _ _ N zMj) cap g o n1 bt P1 L1 Q1 W (ap.grown hW)
 have ar:=hy' ba;have ch:=hy' b3;have bw:=hy' ah;have cz:=hy' ap;have bk:=hy' cg;have bj:Hy (w.heap.size≤g∧n≤cap∧cap≤maxLen):=hy' ⟨Zi (by have:=bp.o.size;exact this) b6,cu,cp⟩;clear ai bi bz cn k3 k4 k1 k2 b3 ah ap cg b6 ck hg ba;go_wp2_with fail;go_loopw [7,8] (fun vi _ wr=>∃(j:Nat) (Z:List Int),vi=.int .i64 j∧Z.length=n∧j≤n+1∧((j≤n∧∃q,Or.Pre f (l.take j) q∧Z=q++l.drop j)∨(n<j∧Or.R f l Z))∧Ss.At wr g cap Z∧w1.grownBy wr (some g)) (fun vi _ _=>n+1-(intOf vi).toNat)
 case atStart=>exact⟨0,l,rfl,HL.o,by omega,.inl ⟨by omega,[],by simpa using Or.Pre.nil,by simp⟩,bk.o,zAU _ _⟩
 obtain⟨j,Z,rfl,bm,hj,ao,ae,bg⟩:=hrel
 by_cases hlt:j<n
 rotate_left
 · have jI:¬(j:Int)<n:=by omega
   have hR:Or.R f l Z:=by
    rcases ao with ⟨cm,q,af,rfl⟩|⟨_,h⟩
    · obtain rfl:j=n:=by omega
      rw[Ye (by rw[HL.o];exact Za _)];have h:=af.app (Or.R.run (f:=f) (a:=[]) (b:=[]) (fun x hx=>by simp at hx) (zGe f) (Ss.eqv.refl _ _));rw[Z4,Zm (by rw[HL.o];exact Za _)]at h;exact h
    exact h
   have hZ:Z=Or.of f l:=(Or.R.unique (zBQ f l) hR);have bo:(Or.of f l).length=n:=by rw[←hZ];exact bm
   rw[hZ]at ae;have aj:=ae.own (n:=n) (base:=w.heap.size) bo bj.o.1 bj.o.2.1 bj.o.2.2;have HO:=hy' aj;have cv:=hy' (ch.o wr bg);have c7:=hy' bo;clear hR hZ ae aj bg bo bm;go_wp2_with fail;go_ret;unfold Md.RetOwn;rw[c7.o];exact⟨_,_,rfl,HO.o,cv.o⟩
 rcases ao with ⟨_,q,af,rfl⟩|⟨cm,_⟩
 rotate_left
 · omega
 have b7:q.length=j:=by rw[af.length,Zq,HL.o];omega
 have aw:=hy' b7;have az:=hy' af;have bl:=hy' ae;have c6:=hy' bg;have jI:(j:Int)<n:=by omega
 clear b7 af ae bg bm;go_wp2_with fail;obtain⟨wo,rfl⟩:∃wo:World,wo=wr:=⟨_,rfl⟩;go_loopw [8] (fun vi wq=>∃i:Nat,j≤i∧i≤n∧vi=.int .i64 i∧(∀x∈(l.drop j).take (i-j),0<f x)∧Ss.At wq g cap (q++l.drop j)∧w1.grownBy wq (some g)) (fun vi _=>n-(intOf vi).toNat)
 case atStart=>exact⟨j,Za _,by omega,rfl,by simp,bl.o,c6.o⟩
 obtain⟨i,cx,dc,rfl,hpos,aa,av⟩:=hrel;have bf:=hy' hpos;have bx:=hy' av;have au:=hy' aa;obtain⟨b1,b2⟩:=bw.o wr av;have xb:=Ext.cells b1 b2;have gl:=aa.lt
 by_cases hie:i<n
 rotate_left
 · obtain rfl:i=n:=by omega
   have iI:¬(i:Int)<i:=by omega
   have ak:(l.drop j).take (i-j)=l.drop j:=Zm (by rw[ZO,HL.o];exact Za _);rw[ak]at hpos;have a6:=hy' hpos;have hlen:(l.drop j).length=i-j:=by rw[ZO,HL.o]
   have hS:=hy' (ar.o j (i-j) (cap-j) q (l.drop j) [] wr av (by simpa using aa) aw.o hlen (by omega));have aq:=hy' hlen;clear xb b1 ak hpos hlen aa av hS;go_wp2_with fail;refine zAa (by kernel_rfl) (by kernel_rfl) ?_
   repeat (go_big_quiet_step (fail))
   refine wpQuiet_nil ?_;intro xw;have h1:=au.o.below xw.below;have h2:=zA0 bx.o (Ss.grown_below xw.below);have hS:=hy' (ar.o j (i-j) (cap-j) q (l.drop j) [] xw.val h2 (by simpa using h1) aw.o aq.o (by omega));have H2:=hy' h2;clear h1 h2;go_wp2_with fail;refine hS.out.mono ?_;rintro e w2 ⟨rfl,⟨C,sC,eC,ag⟩,a1⟩;have ay:Ss.At w2 g cap (q++C):=by simpa using ag
   have ax:Or.R f l (q++C):=by
    have h:=az.o.app (Or.R.run a6.o sC eC);rw[ZF]at h;exact h
   have a7:(q++C).length=i:=ax.length.trans HL.o;have N1:=hy' ay;have N2:=hy' ax;have N3:=hy' a7;have N4:=hy' (zA0 H2.o a1);clear ay ax a7 sC eC ag a1 hS;go_wp2_with fail;exact⟨⟨i+1,q++C,by first|rfl|go_num,N3.o,by omega,.inr ⟨by omega,N2.o⟩,N1.o,N4.o⟩,by simp[intOf];omega⟩
 obtain⟨y,hy⟩:∃y,l[i]?=some y:=⟨_,Zb (by rw[HL.o];exact hie)⟩
 have cc:(q++l.drop j)[i]?=some y:=by
  rw[ZJ (by rw[aw.o];exact cx),aw.o,Xe,show j+(i-j)=i by omega];exact hy
 have cy:=aa.cell cc;have xy:=Ext.cells cy gl
 have CC:=hy' (Ext.call (w:=wr) fun W hW=>by
  have:=Ud.class_any _ T S y W cb.o (cj.o.below (ch.o W (zA0 av (Ss.grown_below hW))));rw[HF.o]at this;exact this)
 have iI:(i:Int)<n:=by omega
 have i0:(0:Int)≤i:=by omega
 have b9:(l.drop j).take (i+1-j)=(l.drop j).take (i-j)++[y]:=by
  rw[show i+1-j=i-j+1 by omega,ZB,Xe,show j+(i-j)=i by omega,hy];rfl
 have b5:=hy' b9;have HY:=hy' hy;obtain⟨u,hu⟩:∃u,f y=u:=⟨_,rfl⟩;rw[hu]at CC;have HU:=hy' hu;clear hpos av aa hy cc b9 hu
 by_cases hup:0<u
 · have bs:u > 0:=hup;go_wp2_with fail;refine zAa (by kernel_rfl) (by kernel_rfl) ?_
   repeat (go_big_quiet_step ((go_at_call 37;with_reducible exact CC.o _)))
   refine wpQuiet_nil ?_;intro xw;have H1:=hy' (au.o.below xw.below);have H2:=hy' (zA0 bx.o (Ss.grown_below xw.below));clear xb xy b1 cy;go_wp2_with fail;refine⟨⟨i+1,by omega,by omega,by go_num,?_,H1.o,H2.o⟩,by simp[intOf];omega⟩;rw[b5.o];intro x hx;rcases List.mem_append.1 hx with hx|hx
   · exact bf.o x hx
   rw[Zw]at hx;rw[hx,HU.o];exact hup
 have bs:¬u > 0:=hup;go_wp2_with fail;refine zAa (by kernel_rfl) (by kernel_rfl) ?_
 repeat (go_big_quiet_step ((go_at_call 37;with_reducible exact CC.o _)))
 refine wpQuiet_nil ?_;intro xw
 have hdr:l.drop j=(l.drop j).take (i-j)++y::l.drop (i+1):=by
  obtain⟨u1,u2⟩:=List.getElem?_eq_some_iff.1 HY.o;have h1:l.drop i=y::l.drop (i+1):=by rw[ZM u1,u2]
  rw[←h1];have h2:=(ZF (i-j) (l.drop j)).symm;rw[XS,show j+(i-j)=i by omega]at h2;exact h2
 have hlen:((l.drop j).take (i-j)).length=i-j:=by rw[Zq,ZO,HL.o];omega
 have bb:l.take (i+1)=l.take j++((l.drop j).take (i-j)++[y]):=by
  have h:=b5.o;rw[←h,←Qy,show j+(i+1-j)=i+1 by omega]
 have h1:=au.o.below xw.below;rw[hdr]at h1;have h2:=zA0 bx.o (Ss.grown_below xw.below);have hS:=hy' (ar.o j (i-j) (cap-j) q ((l.drop j).take (i-j)) (y::l.drop (i+1)) xw.val h2 h1 aw.o hlen (by omega));have H2:=hy' h2;have br:=hy' bb;have aq:=hy' hlen;clear xb xy b1 cy hdr hlen bb h1 h2;go_wp2_with fail;refine hS.out.mono ?_;rintro e w2 ⟨rfl,⟨C,sC,eC,ag⟩,a1⟩;have ay:Ss.At w2 g cap ((q++(C++[y]))++l.drop (i+1)):=by simpa using ag
 have ax:Or.Pre f (l.take (i+1)) (q++(C++[y])):=by
  rw[br.o];exact Or.Pre.snoc az.o bf.o sC eC (by rw[HU.o];omega)
 have a7:((q++(C++[y]))++l.drop (i+1)).length=n:=by
  have h1:=eC.length;rw[aq.o]at h1;have h2:=aw.o;have h3:=HL.o;simp;omega
 have N1:=hy' ay;have N2:=hy' ax;have N3:=hy' a7;have N4:=hy' (zA0 H2.o a1);clear ay ax a7 sC eC ag a1 hS;go_wp2_with fail;exact⟨⟨i+1,(q++(C++[y]))++l.drop (i+1),by first|rfl|go_num,N3.o,by omega,.inl ⟨by omega,_,N2.o,rfl⟩,N1.o,N4.o⟩,by simp[intOf];omega⟩
theorem zH3:∀(rs:List Rw.Row) (ads:List (Option Addr × Nat)) (r:Rw.Row) (a:Option Addr × Nat),ads.length=rs.length →
 zBn (rs++[r]) (ads++[a])=zBn rs ads++[.int .i64 r.1,.int .i64 r.2.1,.slice a.1 r.2.2.length a.2]
 | [],[],r,a,_=>rfl
 | [],_::_,_,_,h=>by simp at h
 | q::rs,[],r,a,h=>by simp at h
 | q::rs,b::ads,r,a,h=>by
   simp only[Zx,zBn];rw[zH3 rs ads r a (by simpa using h)]
def Rw.MapsI (w:World) (rs:List Rw.Row) (ads:List (Option Addr × Nat)):Prop:=∀(i:Nat) (r:Rw.Row) (a:Option Addr × Nat),rs[i]?=some r→ads[i]?=some a→Slt w 3 a.1 (r.2.2.map (Value.int .i64))
theorem Rw.MapsI.app {w:World} {rs:List Rw.Row} {ads:List (Option Addr × Nat)} (h:Rw.MapsI w rs ads) (hl:ads.length=rs.length) {r:Rw.Row} {a:Option Addr × Nat} (hr:Slt w 3 a.1 (r.2.2.map (Value.int .i64))):Rw.MapsI w (rs++[r]) (ads++[a]):=by
 intro i q x hq hx;rcases ZY i rs.length with hi|hi
 · rw[ZT hi]at hq;rw[ZT (by omega)]at hx;exact h i q x hq hx
 rw[ZJ hi]at hq;rw[ZJ (by omega)]at hx;obtain⟨j,hj⟩:∃j,i-rs.length=j:=⟨_,rfl⟩;rw[hl,hj]at hx;rw[hj]at hq;rcases j with _|j
 · simp at hq hx;subst hq hx;exact hr
 simp at hq
theorem Rw.MapsI.below {w w':World} {rs:List Rw.Row} {ads:List (Option Addr × Nat)} (h:Rw.MapsI w rs ads) (hb:Below w.heap.size w w'):Rw.MapsI w' rs ads:=fun i r a h1 h2=>(h i r a h1 h2).below hb
theorem Rw.MapsI.grown {w w':World} {rs:List Rw.Row} {ads:List (Option Addr × Nat)} {row:Option Nat} (h:Rw.MapsI w rs ads) (hg:w.grownBy w' row) (hr:∀k,row=some k→∀cs z,w.heap[k]?≠some (.cells cs 3 z)):Rw.MapsI w' rs ads :=
 fun i r a h1 h2=>(h i r a h1 h2).grown hg hr
theorem zJ0 {w:World} {A:Option Addr} {rs:List Rw.Row} {ads:List (Option Addr × Nat)} (hl:ads.length=rs.length) (hs:Slt w 68 A (zBn rs ads)) (hm:Rw.MapsI w rs ads):Rw.SeesI w A rs :=
 ⟨ads,hl,hs.sl,fun i r a h1 h2=>(hm i r a h1 h2).sl⟩
theorem Rw.At.slt {w:World} {b:Nat} {t:TypeId} {cs:List Value} (h:Rw.At w b t cs):Slt w t (some ⟨b,0,none⟩) cs :=
 fun _=>⟨b,0,cs.toArray,rfl,h,fun i _=>by simp⟩
theorem zOE:(prog.info? 68).map (fun i=>(i.zero,i.size,i.bytes))=some (some (.agg #[.int .i64 0,.int .i64 0,.slice none 0 0]),3,40):=by kernel_rfl
def Md.Doc (w:World) (v:Value) (T:List Rw.Row) (E:List Int):Prop:=∃A c XA xc,v=zBs A T.length c XA E.length xc∧Rw.SeesI w A T∧Sl w w.heap.size XA (E.map (Value.int .i64))
theorem Md.Doc.below {w w':World} {v:Value} {T:List Rw.Row} {E:List Int} (h:Md.Doc w v T E) (hb:Below w.heap.size w w'):Md.Doc w' v T E:=by
 obtain⟨A,c,XA,xc,h1,h2,h3⟩:=h;exact⟨A,c,XA,xc,h1,h2.below hb,h3.below hb hb.size⟩
theorem Md.in_any (A:Option Addr) (n c:Nat) (l:List Int) (d:Int) (w:World) (hn:l.length=n) (ak:n≤1000000) (hA:Sl w w.heap.size A (l.map (Value.int .i64))) :
 Calls prog 137 #[.slice A n c,.int .i64 d] w fun e w'=>e=.returned (.bool (decide (d∈l)))∧w=w':=by
 obtain⟨o,ho⟩:∃o,decide (d∈l)=o:=⟨_,rfl⟩;rw[ho];have HO:=hy' ho;have HN:=hy' hn;have HA:=hy' hA;clear ho hn hA;go_enter func137,ntmps137;go_wp2_with fail;go_loop [9] (fun i=>∃k:Nat,k≤n∧i=.int .i64 k∧d∉l.take k) (fun i=>n-(intOf i).toNat)
 case atStart=>exact⟨0,ZG _,rfl,by simp⟩
 obtain⟨k,hk,rfl,ag⟩:=hrel;have ah:=hy' ag;clear ag
 by_cases hlt:k<n
 rotate_left
 · obtain rfl:n=k:=by omega
   have aa:o=false:=by
    rw[←HO.o];have:=ah.o;rw[Zm (by rw[HN.o];exact Za _)]at this;exact Zu this
   have ae:=hy' aa;clear aa hlt;go_wp2_with fail;go_ret;exact⟨by rw[ae.o];rfl,rfl⟩
 obtain⟨x,hx⟩:∃x,l[k]?=some x:=⟨_,Zb (by rw[HN.o];exact hlt)⟩;obtain⟨ab,ao,rfl,ap,af⟩:=HA.o (by rw[Ze,HN.o];omega);have hc:=af k (by rw[Ze,HN.o];exact hlt);rw[Zs,hx,ZA]at hc;have aj:(k:Int)<n:=by omega
 have HX:=hy' hx;clear af hx;rcases hxd:(x == d) with _|_
 · have hne:¬x=d:=by simpa using hxd
   have ai:Hy (d∉l.take (k+1)):=hy' (by
    rw[ZB,HX.o];intro h;rcases List.mem_append.1 h with h|h
    · exact ah.o h
    simp at h;exact hne h.symm)
   clear hne;go_wp2_with fail;go_round
   case rel=>exact⟨k+1,by omega,by go_num,ai.o⟩
   simp[intOf];omega
 have he:x=d:=beq_iff_eq.1 hxd
 have aa:o=true:=by
  rw[←HO.o];exact Zr (by rw[←he];exact Zn HX.o)
 have ae:=hy' aa;clear he aa;go_wp2_with fail;go_ret;exact⟨by rw[ae.o];rfl,rfl⟩
theorem zHz {T:List Rw.Row} {k:Nat} {r:Rw.Row} {c:Int} (hr:T[k]?=some r) (aa:∀q∈T.take k,q.1≠c) (he:r.1=c):Md.find T c=some r:=by
 obtain⟨h1,h2⟩:=List.getElem?_eq_some_iff.1 hr;rw[←ZF k T,ZM h1,h2];unfold Md.find;rw[List.find?_append,List.find?_eq_none.2 (fun q hq=>by simpa using aa q hq)];simp[he]
theorem zKl {T:List Rw.Row} {k:Nat} {c:Int} (hk:T.length≤k) (aa:∀q∈T.take k,q.1≠c):Md.find T c=none:=by
 rw[Zm hk]at aa;exact zDp aa
theorem zKm {T:List Rw.Row} {k:Nat} {r:Rw.Row} {c:Int} (hr:T[k]?=some r) (aa:∀q∈T.take k,q.1≠c) (he:¬r.1=c):∀q∈T.take (k+1),q.1≠c:=by
 rw[ZB,hr];intro q hq;rcases List.mem_append.1 hq with hq|hq
 · exact aa q hq
 simp at hq;subst hq;exact he
theorem zFY (v:Value) (T:List Rw.Row) (E:List Int) (d:Int) (w:World) (a1:T.length≤1000000) (h:Md.Doc w v T E) :
 Calls prog 43 #[v,.int .i64 d] w fun e w'=>e=.returned (.int .i64 (Md.cls T d))∧Below w.heap.size w w':=by
 obtain⟨A,c,XA,xc,rfl,h2,hX⟩:=h;obtain⟨n,hn⟩:∃k,T.length=k:=⟨_,rfl⟩;obtain⟨xn,hxn⟩:∃k,E.length=k:=⟨_,rfl⟩;rw[hn]at a1 ⊢;rw[hxn];obtain⟨res,ae⟩:∃k,Md.cls T d=k:=⟨_,rfl⟩;rw[ae];have ai:Below w.heap.size w (w.alloc (.cells #[.slice A n c,.slice XA xn xc] 25)):=(Zc _ _).alloc (Za _) _;have ao:Rw.At (w.alloc (.cells #[.slice A n c,.slice XA xn xc] 25)) w.heap.size 25 [.slice A n c,.slice XA xn xc]:=Rw.At.new w 25 [.slice A n c,.slice XA xn xc];obtain⟨wa,ap⟩:∃wa,w.alloc (.cells #[.slice A n c,.slice XA xn xc] 25)=wa:=⟨_,rfl⟩;rw[ap]at ai ao;have z0:=ao.cell 0 rfl;have a6:=hy' ap;have aj:=hy' ai;have ar:=hy' (h2.below ai);have HN:=hy' hn;have ah:=hy' ae;clear ap ai ao hn hxn ae h2 hX;unfold zBs;go_enter func43,ntmps43;go_upto_region 1 with (fail)
 rw[a6.o];go_wp2_with fail;go_loopw [10] (fun i wr=>∃k:Nat,k≤n∧i=.int .i64 k∧(∀q∈T.take k,q.1≠d)∧Below wa.heap.size wa wr) (fun i _=>n-(intOf i).toNat)
 case atStart=>exact⟨0,ZG _,rfl,by simp,Zc _ _⟩
 obtain⟨k,hk,rfl,aw,aa⟩:=hrel;have au:=hy' aw;have ak:=hy' aa;clear aw
 by_cases hlt:k<n
 · obtain⟨r,hr⟩:∃r,T[k]?=some r:=⟨_,Zb (by rw[HN.o];exact hlt)⟩;obtain⟨b,o,a,ax,hb,c0,c1,c2,ay⟩:=(ar.o.below aa).row hr;have a7:(k:Int)<n:=by omega
   have ag:=Rw.At.new wr 68 [.int .i64 r.1,.int .i64 r.2.1,.slice a.1 r.2.2.length a.2];obtain⟨x0,x1,x2,_,_,_⟩:=ag.three;have av:=hy' (aa.alloc aa.size (.cells #[.int .i64 r.1,.int .i64 r.2.1,.slice a.1 r.2.2.length a.2] 68));have HR:=hy' hr;subst ax;clear hr ay aa ag;rcases hxd:(r.1 == d) with _|_
   · have az:=hy' (zKm HR.o au.o (by simpa using hxd));go_wp2_with fail;exact⟨⟨k+1,by omega,by go_num,az.o,av.o⟩,by simp[intOf];omega⟩
   have af:res=r.2.1:=by
    rw[←ah.o];unfold Md.cls;rw[zHz HR.o au.o (beq_iff_eq.1 hxd)];rfl
   have aq:=hy' af;clear af;go_wp2_with fail;go_ret;exact⟨by rw[aq.o];rfl,aj.o.trans (av.o.mono aj.o.size)⟩
 obtain rfl:n=k:=by omega
 have af:res=0:=by
  rw[←ah.o];unfold Md.cls;rw[zKl (by rw[HN.o];exact Za _) au.o];rfl
 have aq:=hy' af;clear af hlt;go_wp2_with fail;go_ret;exact⟨by rw[aq.o];rfl,aj.o.trans (ak.o.mono aj.o.size)⟩
theorem zNB (T:List Rw.Row) (c:Int):(∃a b,zA9 c=[a,b]∧Md.mp T c=[a,b])∨(∃a b t,zA9 c=[a,b,t]∧Md.mp T c=[c-(t-4519),t]∧0≤t∧t≤60000∧0≤c∧c≤60000)∨(zA9 c=[]∧Md.mp T c=zAM T c):=by
 by_cases h4:zA3 c=4
 · have hs:=zAv c (.inl h4);refine .inl ⟨4352+(c-44032)/588,4449+(c-44032)%588/28,?_,?_⟩
   · unfold zA9;grind
   unfold Md.mp;rw[zAT c h4];simp
 by_cases h5:zA3 c=5
 · have hs:=zAv c (.inr h5);refine .inr (.inl ⟨4352+(c-44032)/588,4449+(c-44032)%588/28,4519+(c-44032)%28,?_,?_,by omega,by omega,by omega,by omega⟩)
   · unfold zA9;grind
   unfold Md.mp;rw[zAY c h5];simp;omega
 refine .inr (.inr ⟨?_,?_⟩)
 · unfold zA9;grind
 unfold Md.mp;rw[zBM c h4 h5];simp
theorem zHA {w:World} {e:TypeId} {xs:List Value}:Sl (w.alloc (.cells xs.toArray e)) (w.alloc (.cells xs.toArray e)).heap.size (some ⟨w.heap.size,0,none⟩) xs:=zCj rfl e (0,0) (ZS w _)
theorem zEj (v:Value) (T:List Rw.Row) (E:List Int) (d:Int) (w:World) (bm:T.length≤1000000) (h:Md.Doc w v T E) (h3 : -2147483648≤d) (h4:d≤2147483647) :
 Calls prog 17 #[v,.int .i64 d] w (RetInts .i64 (Md.mp T d) w):=by
 obtain⟨A,c,XA,xc,rfl,h2,hX⟩:=h;obtain⟨n,hn⟩:∃k,T.length=k:=⟨_,rfl⟩;obtain⟨xn,hxn⟩:∃k,E.length=k:=⟨_,rfl⟩;rw[hn]at bm ⊢;rw[hxn];have ax:=zNB T d;obtain⟨res,ai⟩:∃k,Md.mp T d=k:=⟨_,rfl⟩;rw[ai]at ax ⊢;have az:Below w.heap.size w (w.alloc (.cells #[.slice A n c,.slice XA xn xc] 25)):=(Zc _ _).alloc (Za _) _;have bf:Rw.At (w.alloc (.cells #[.slice A n c,.slice XA xn xc] 25)) w.heap.size 25 [.slice A n c,.slice XA xn xc]:=Rw.At.new w 25 [.slice A n c,.slice XA xn xc];have HP:=hy' (Hg.parts_any d (w.alloc (.cells #[.slice A n c,.slice XA xn xc] 25)) h3 h4);have bg:=hy' az;have ah:=hy' (h2.below az);have bc:=hy' bf;have HN:=hy' hn;have aq:=hy' ax;obtain⟨sp,af⟩:∃l,zA9 d=l:=⟨_,rfl⟩;rw[af]at HP aq;clear az bf hn hxn ai h2 hX ax af;unfold zBs;go_enter func17,ntmps17;go_wp2_with fail;refine HP.o.mono ?_;rintro e w1 ⟨A1,c1,rfl,a8,ar⟩;have bh:=hy' a8;have ae:=hy' (bg.o.trans (ar.mono bg.o.size));have ay:=hy' (bc.o.below ar);have ap:=hy' (ah.o.below ar);clear a8 ar HP bc ah;rcases aq.o with ⟨a,b,hs,hm⟩|⟨a,b,t,hs,hm,t0,t1,d0,d1⟩|⟨hs,hm⟩
 · subst hs hm;clear aq;go_wp2_with fail;go_ret;exact⟨A1,c1,rfl,bh.o,ae.o⟩
 · subst hs hm;obtain⟨ab,ao,hA,bn,a6⟩:=bh.o (by simp);have hc:w1.cell? ⟨ab,ao+2,none⟩=some (.int .i64 t):=by simpa using a6 2 (by simp)
   have e1:IntKind.i64.wrap (t-4519)=t-4519:=by rw[Ya];omega
   have e2:IntKind.i64.wrap (d-(t-4519))=d-(t-4519):=by rw[Ya];omega
   have bo:w1.drew.cell? ⟨ab,ao+2,none⟩=some (.int .i64 t):=hc;subst hA;clear aq a6;go_wp2_with fail;go_region
   all_goals
    go_wp2_with fail;go_ret;have bi:Below w1.heap.size w1 (w1.alloc (.cells #[.int .i64 (d-(t-4519)),.int .i64 t] 3)).drew:=((Zc _ _).alloc (Za _) _).drew;exact⟨_,_,rfl,(zHA (w:=w1) (e:=3) (xs:=[.int .i64 (d-(t-4519)),.int .i64 t])),ae.o.trans (bi.mono ae.o.size)⟩
 subst hs hm;clear aq;have ak:=ay.o;have z0:=ak.cell 0 rfl;clear ak;go_wp2_with fail;go_loopw [30] (fun i wr=>∃k:Nat,k≤n∧i=.int .i64 k∧(∀q∈T.take k,q.1≠d)∧Below w1.heap.size w1 wr) (fun i _=>n-(intOf i).toNat)
 case atStart=>exact⟨0,ZG _,rfl,by simp,Zc _ _⟩
 obtain⟨k,hk,rfl,bb,aa⟩:=hrel;have a1:=hy' bb;have au:=hy' aa;clear bb
 by_cases hlt:k<n
 · obtain⟨r,hr⟩:∃r,T[k]?=some r:=⟨_,Zb (by rw[HN.o];exact hlt)⟩;obtain⟨b,o,a,bj,hb,c0,c1,c2,a7⟩:=(ap.o.below aa).row hr;have bp:(k:Int)<n:=by omega
   have ag:=Rw.At.new wr 68 [.int .i64 r.1,.int .i64 r.2.1,.slice a.1 r.2.2.length a.2];obtain⟨x0,x1,x2,_,_,_⟩:=ag.three;have av:Below wr.heap.size wr (wr.alloc (.cells #[.int .i64 r.1,.int .i64 r.2.1,.slice a.1 r.2.2.length a.2] 68)):=(Zc _ _).alloc (Za _) _;have bl:=hy' (a7.below av av.size);have ba:=hy' (aa.alloc aa.size (.cells #[.int .i64 r.1,.int .i64 r.2.1,.slice a.1 r.2.2.length a.2] 68));have HR:=hy' hr;subst bj;clear hr a7 aa ag av;rcases hxd:(r.1 == d) with _|_
   · have bk:=hy' (zKm HR.o a1.o (by simpa using hxd));go_wp2_with fail;exact⟨⟨k+1,by omega,by go_num,bk.o,ba.o⟩,by simp[intOf];omega⟩
   have aj:zAM T d=r.2.2:=by
    unfold zAM;rw[zHz HR.o a1.o (beq_iff_eq.1 hxd)];rfl
   have aw:=hy' aj;clear aj;go_wp2_with fail;go_ret;rw[aw.o];exact⟨a.1,a.2,rfl,bl.o,ae.o.trans (ba.o.mono ae.o.size)⟩
 obtain rfl:n=k:=by omega
 have aj:zAM T d=[]:=by
  unfold zAM;rw[zKl (by rw[HN.o];exact Za _) a1.o];rfl
 have aw:=hy' aj;clear aj hlt;go_wp2_with fail;go_ret;rw[aw.o];exact⟨none,0,rfl,Sl.nil _ _ _,ae.o.trans (au.o.mono ae.o.size)⟩
def zKn (l:List Int) (b:Bool) (w:World) (e:Ending) (w':World):Prop :=
 ∃A c,e=.returned (.tuple #[.slice A l.length c,.bool b])∧Sl w' w'.heap.size A (l.map (Value.int .i64))∧Below w.heap.size w w'
theorem zMk {mp:Int→List Int} {L:List Int} {k:Nat} {x:Int} (h:L[k]?=some x):Md.step mp (L.take (k+1))=Md.step mp (L.take k)++Md.one mp x:=by
 unfold Md.step;rw[ZB,h];simp
theorem zL2 {mp:Int→List Int} {L:List Int} {k:Nat} {x:Int} (h:L[k]?=some x):Md.plain mp (L.take (k+1))=(Md.plain mp (L.take k)&&(mp x).isEmpty):=by
 unfold Md.plain;rw[ZB,h];simp
theorem Md.step_len {mp:Int→List Int} (h:∀c,(mp c).length≤1000) (L:List Int):(Md.step mp L).length≤1000*L.length:=by
 induction L with
 | nil=>simp[Md.step]
 | cons x l ih =>
   have:(Md.one mp x).length≤1000:=by
    unfold Md.one;split
    · simp
    exact h x
   unfold Md.step at ih ⊢;rw[Y8,Zd,ZE];omega
theorem Md.step_bd {mp:Int→List Int} (h:∀c,∀d∈mp c,-2147483648≤d∧d≤2147483647) {L:List Int} (hL:∀c∈L,-2147483648≤c∧c≤2147483647):∀c∈Md.step mp L,-2147483648≤c∧c≤2147483647:=by
 intro c hc;unfold Md.step at hc;obtain⟨x,hx,aa⟩:=List.mem_flatMap.1 hc;unfold Md.one at aa;split at aa
 · simp at aa;subst aa;exact hL c hx
 exact h x c aa
theorem Md.own_empty (w:World) (e:TypeId) (hs:0<1):(w.alloc (.cells #[] e)).ownsRow w.heap.size e 1 (.slice (some ⟨w.heap.size,0,none⟩) 0 0) 0 [] :=
 ⟨rfl,.inr ⟨w.heap.size,0,#[],rfl,Za _,ZS w _,Za _,by decide,rfl,rfl⟩⟩
theorem zMl (v:Value) (T:List Rw.Row) (E:List Int) (A:Option Addr) (n c:Nat) (L:List Int) (w:World) (b9:T.length≤1000000) (h:Md.Doc w v T E) (bi:∀c,(Md.mp T c).length≤1000) (hn:L.length=n) (cd:n≤1000) (hL:∀c∈L,-2147483648≤c∧c≤2147483647) (hA:Sl w w.heap.size A (L.map (Value.int .i64))) :
 Calls prog 54 #[v,.slice A n c] w (zKn (Md.step (Md.mp T) L) (!Md.plain (Md.mp T) L) w):=by
 obtain⟨i0,bq,bo,bm,bp⟩:=Z7 zDE;have HM:Hy (∀(d:Int) (W:World),Below w.heap.size w W → -2147483648≤d→d≤2147483647→Calls prog 17 #[v,.int .i64 d] W (RetInts .i64 (Md.mp T d) W)):=hy' fun d W hW a b=>zEj v T E d W b9 (h.below hW) a b
 obtain⟨AT,cT,XA,xc,rfl,h2,hX⟩:=h;obtain⟨tn,bu⟩:∃k,T.length=k:=⟨_,rfl⟩;obtain⟨xn,hxn⟩:∃k,E.length=k:=⟨_,rfl⟩;rw[bu,hxn]at HM ⊢
 have hlen:∀k,k≤n→(Md.step (Md.mp T) (L.take k)).length≤1000*k:=fun k hk=>by
  have:=Md.step_len bi (L.take k);rw[Zq,hn]at this;omega
 have bc:=hy' hlen;have b5:=hy' bi;have HN:=hy' hn;have HL:=hy' hL;obtain⟨res,aj⟩:∃r,Md.step (Md.mp T) L=r:=⟨_,rfl⟩;obtain⟨rb,bb⟩:∃r,Md.plain (Md.mp T) L=r:=⟨_,rfl⟩;rw[aj,bb];have ba:=hy' aj;have b3:=hy' bb;obtain⟨wa,aw⟩:∃wa,(w.alloc (.cells #[.slice AT tn cT,.slice XA xn xc] 25)).alloc (.cells #[] 3)=wa:=⟨_,rfl⟩;have bf:Below w.heap.size w wa:=by rw[←aw];exact ((Zc _ _).alloc (Za _) _).alloc (by simp) _
 have ay:Rw.At wa w.heap.size 25 [.slice AT tn cT,.slice XA xn xc]:=by
  rw[←aw];exact (Rw.At.new w 25 [.slice AT tn cT,.slice XA xn xc]).alloc _
 have ak:wa.ownsRow (w.heap.size+1) 3 1 (.slice (some ⟨w.heap.size+1,0,none⟩) 0 0) 0 []:=by
  have:=Md.own_empty (w.alloc (.cells #[.slice AT tn cT,.slice XA xn xc] 25)) 3 (by decide);rw[ZL]at this;rw[←aw];exact this
 have bz:=hy' bf;have HA:=hy' (hA.below bf (Za _));have b7:w.heap.size+1≤wa.heap.size:=ay.lt;have cb:=hy' aw;clear hlen bi hn hL aj bb bu hxn aw bf hA h2 hX;unfold zBs at *;go_enter func54,ntmps54;go_upto_region 2 with (fail)
 rw[cb.o];go_wp2_with fail;go_loopw [6,7,14] (fun v6 v7 i wr=>∃(k:Nat) (v:Value),k≤n∧i=.int .i64 k∧v6=v∧v7=.bool (!Md.plain (Md.mp T) (L.take k))∧Rw.At wr w.heap.size 25 [.slice AT tn cT,.slice XA xn xc]∧wr.ownsRow (w.heap.size+1) 3 1 v (Md.step (Md.mp T) (L.take k)).length ((Md.step (Md.mp T) (L.take k)).map (Value.int .i64))∧Below (w.heap.size+1) wa wr) (fun _ _ i _=>n-(intOf i).toNat)
 case atStart=>exact⟨0,_,ZG _,rfl,rfl,rfl,ay,ak,Zc _ _⟩
 obtain⟨k,v,hk,rfl,rfl,rfl,af,aa,ae⟩:=hrel;have bw:w.heap.size+1≤wr.heap.size:=af.lt;have bx:=bc.o k hk
 by_cases hlt:k<n
 · obtain⟨x,hx⟩:∃x,L[k]?=some x:=⟨_,Zb (by rw[HN.o];exact hlt)⟩;have hxb:=HL.o x (Zn hx);obtain⟨ab,ao,hA2,cf,bk⟩:=HA.o (by rw[Ze,HN.o];omega);have hc:=bk k (by rw[Ze,HN.o];exact hlt);rw[Zs,hx,ZA,←(zAI ae).1 _ _ (by omega)]at hc;have hM:=HM.o x wr (bz.o.trans (ae.mono (ZX _))) hxb.1 hxb.2;have az:=zMk (mp:=Md.mp T) hx;have bg:=zL2 (mp:=Md.mp T) hx;have bn:=b5.o x;unfold Md.one at az;obtain⟨S,hS⟩:∃S,Md.step (Md.mp T) (L.take k)=S:=⟨_,rfl⟩;obtain⟨p,hp⟩:∃p,Md.plain (Md.mp T) (L.take k)=p:=⟨_,rfl⟩;obtain⟨m,hm⟩:∃m,Md.mp T x=m:=⟨_,rfl⟩;obtain⟨sl,a6⟩:∃sl,S.length=sl:=⟨_,rfl⟩;rw[hS,hm]at az;rw[hp,hm]at bg;rw[hS]at aa bx;rw[hm]at hM bn;rw[a6]at aa bx;rw[hp];have kI:(k:Int)<n:=by omega
   have k0:(0:Int)≤k:=by omega
   have z0:=af.cell 0 rfl;have z1:=af.cell 1 rfl;have bj:=hy' az;have b1:=hy' bg;have ax:=hy' aa;have a8:=hy' af;have a1:=hy' ae;have br:=hy' a6;subst hA2;clear ay ak hx bk az bg hS hp hm a6 aa af ae;go_wp2_with fail;refine hM.mono ?_;rintro e w1 ⟨A1,c1,rfl,bl,av⟩;have ah:=zA4 ax.o av (Za _);have au:=a8.o.below av;have bh:=av.size;have ai:=hy' ah;have ar:=hy' au;have cc:=hy' bl;have b2:=hy' (a1.o.trans (av.mono bw));have bs:w.heap.size+1≤w1.heap.size:=Zi bw bh;clear ah au bl av hM z0 z1 hc;rcases m with _|⟨m0,mr⟩
   · go_wp2_with (first|(at_builtin;refine zAj _ rfl _ _ _ rfl (w.heap.size+1) 3 i0 _ 8 underlying23 bq bo bm bp rfl _ sl _ rfl ai.o _ rfl rfl (by simp only[maxLen];omega) (by omega) bs ?_;intro v1 w4 ag aq)|fail);refine⟨⟨k+1,v1,by omega,by go_num,rfl,by rw[b1.o];simp,ar.o.below' aq (ZP _),?_,b2.o.trans aq⟩,by simp[intOf];omega⟩;rw[bj.o,Zo trivial,Zd,br.o,ZK];exact ag
   have ap:((m0::mr).map (Value.int .i64)).length=(m0::mr).length*1:=by simp
   obtain⟨q,hq⟩:∃q,(m0::mr).length=q:=⟨_,rfl⟩;have b6:¬q=0:=by rw[←hq];simp
   have ch:((q:Int) == 0)=false:=by simp;omega
   rw[hq]at bn ap ⊢;have HQ:=hy' hq;have bt:∀u∈(m0::mr).map (Value.int .i64),u.oneCell'=true:=zBN .i64 _;have b8:=hy' bt;have a7:=hy' ap;clear hq b6 bt ap;go_wp2_with (first|(at_builtin;refine zAc _ rfl _ _ _ rfl (w.heap.size+1) 3 i0 _ 1 8 underlying23 bq bo bm bp rfl (by omega) _ sl _ rfl ai.o _ A1 q c1 ((m0::mr).map (Value.int .i64)) rfl a7.o cc.o b8.o (by simp only[maxLen];omega) (by omega) bs ?_;intro v1 w4 ag aq cg)|fail);refine⟨⟨k+1,v1,by omega,by go_num,rfl,by rw[b1.o];simp,ar.o.below' aq (ZP _),?_,b2.o.trans aq⟩,by simp[intOf];omega⟩;rw[bj.o,Zl (by simp),Zd,br.o,ZK,HQ.o];exact ag
 obtain rfl:n=k:=by omega
 rw[Zm (by rw[HN.o];exact Za _),ba.o]at aa;rw[Zm (by rw[HN.o];exact Za _),b3.o];obtain⟨A4,c4,rfl⟩:=zA2 aa;have HS:=hy' (Sl.of_own aa);have b4:=hy' (bz.o.trans (ae.mono (ZX _)));clear aa ae af ay ak hlt;go_wp2_with fail;go_ret2;exact⟨A4,c4,rfl,HS.o,b4.o⟩
def zFm (o:Option (List Int)) (w:World) (e:Ending) (w':World):Prop :=
 ∃A c,e=.returned (.tuple #[.slice A (o.getD []).length c,.bool o.isSome])∧Sl w' w'.heap.size A ((o.getD []).map (Value.int .i64))∧Below w.heap.size w w'
theorem zJ1 {T:List Rw.Row} (h:∀r∈T,r.2.2.length≤1000) (c:Int):(Md.mp T c).length≤1000:=by
 unfold Md.mp zAM;split
 · simp
 cases hf:Md.find T c with
 | none=>decide
 | some r=>exact h r (zAp hf).1
theorem zHB (v:Value) (T:List Rw.Row) (E:List Int) (d:Int) (w:World) (bx:T.length≤100000) (h:Md.Doc w v T E) (hbd:Md.bd T) (ba:∀r∈T,r.2.2.length≤1000) (h3 : -2147483648≤d) (h4:d≤2147483647) :
 Calls prog 26 #[v,.int .i64 d] w (zFm (Md.full T d) w):=by
 have bl:=zJ1 ba;have hmb:=zId hbd;have ar:zE8 (Md.mp T) (T.length+4) [d]=Md.full T d:=zOR (Md.mp T) (T.length+3) d
 have HS:Hy (∀(A:Option Addr) (c:Nat) (L:List Int) (W:World),Below w.heap.size w W→L.length≤32→(∀c∈L,-2147483648≤c∧c≤2147483647)→Sl W W.heap.size A (L.map (Value.int .i64)) →
  Calls prog 54 #[v,.slice A L.length c] W (zKn (Md.step (Md.mp T) L) (!Md.plain (Md.mp T) L) W)):=hy' fun A c L W hW hl hb hs=>zMl v T E A L.length c L W (by omega) (h.below hW) bl rfl (by omega) hb hs
 obtain⟨AT,cT,XA,xc,rfl,h2,hX⟩:=h;obtain⟨tn,az⟩:∃k,T.length=k:=⟨_,rfl⟩;obtain⟨xn,hxn⟩:∃k,E.length=k:=⟨_,rfl⟩;rw[az]at bx ar;rw[az,hxn]at HS ⊢;obtain⟨o,ho⟩:∃o,Md.full T d=o:=⟨_,rfl⟩;rw[ho]at ar ⊢;obtain⟨wa,ao⟩:∃wa,(w.alloc (.cells #[.slice AT tn cT,.slice XA xn xc] 25)).alloc (.cells #[.int .i64 d] 3)=wa:=⟨_,rfl⟩;have bf:Below w.heap.size w wa:=by rw[←ao];exact ((Zc _ _).alloc (Za _) _).alloc (by simp) _
 have bj:Rw.At wa w.heap.size 25 [.slice AT tn cT,.slice XA xn xc]:=by
  rw[←ao];exact (Rw.At.new w 25 [.slice AT tn cT,.slice XA xn xc]).alloc _
 have a7:Sl wa wa.heap.size (some ⟨w.heap.size+1,0,none⟩) ([d].map (Value.int .i64)):=by
  have:=zHA (w:=w.alloc (.cells #[.slice AT tn cT,.slice XA xn xc] 25)) (e:=3) (xs:=[.int .i64 d]);simp only[ZL]at this;rw[←ao];simp only[ZL];exact this
 have ag:=hy' bf;have bz:=hy' ao;have bq:=hy' bj;have bo:=hy' hmb;have bs:=hy' ar;have br:=hy' a7;clear bl hmb ar az hxn ho ao bf bj a7 h2 hX hbd ba;unfold zBs at *;go_enter func26,ntmps26;go_upto_region 2 with (fail)
 rw[bz.o];go_wp2_with fail;go_loopw [6,7] (fun v6 i wr=>∃(k:Nat) (A:Option Addr) (c:Nat) (L:List Int),k≤tn+4∧i=.int .i64 k∧v6=.slice A L.length c∧Sl wr wr.heap.size A (L.map (Value.int .i64))∧L.length≤32∧(∀c∈L,-2147483648≤c∧c≤2147483647)∧zE8 (Md.mp T) (tn+4-k) L=o∧Below wa.heap.size wa wr) (fun _ i _=>tn+4-(intOf i).toNat)
 case atStart=>exact⟨0,some ⟨w.heap.size+1,0,none⟩,1,[d],ZG _,rfl,rfl,br.o,by simp,by simp;omega,bs.o,Zc _ _⟩
 obtain⟨k,A,c,L,hk,rfl,rfl,hs,hl,hb,ak,aa⟩:=hrel;have af:=bq.o.below aa;have z0:=af.cell 0 rfl;have z1:=af.cell 1 rfl;have ah:=hy' aa;have ap:=hy' ak;have hS:=HS.o A c L wr (ag.o.trans (aa.mono ag.o.size)) hl hb hs;have bw:=hy' hs;have HB:=hy' hb;have e1:IntKind.i64.wrap ((tn:Int)+3)=(tn:Int)+3:=by rw[Ya];omega
 by_cases hlt:k<tn+4
 · obtain⟨q,hq⟩:∃q,tn+4-k=q+1:=⟨tn+4-k-1,by omega⟩;have au:=ap.o;rw[hq,zE8]at au;have bi:tn+4-(k+1)=q:=by omega
   have ax:=Md.step_bd bo.o HB.o;obtain⟨nx,aj⟩:∃nx,Md.step (Md.mp T) L=nx:=⟨_,rfl⟩;obtain⟨pl,bg⟩:∃pl,Md.plain (Md.mp T) L=pl:=⟨_,rfl⟩;rw[aj,bg]at au hS;rw[aj]at ax;have bk:=hy' au;have bn:=hy' bi;have bp:=hy' ax;have bu:(k:Int)≤(tn:Int)+3:=by omega
   have bm:decide ((k:Int)≤(tn:Int)+3)=true:=Zr bu;clear hs hb ak aa af au bi hq aj bg ax;go_wp2_with fail;refine hS.mono ?_;rintro e w1 ⟨A1,c1,rfl,a8,av⟩;have a6:=hy' (ah.o.trans (av.mono ah.o.size));have aq:=bw.o.below av av.size;have ay:=hy' aq;have b1:=hy' a8;clear a8 av hS z0 z1 aq;cases pl
   · obtain⟨nl,aw⟩:∃nl,nx.length=nl:=⟨_,rfl⟩;have bb:=hy' aw;have a1:=bk.o;rw[Zl (by decide),aw]at a1;rw[aw];have bh:=hy' a1;clear aw a1
     by_cases hbig:32<nl
     · have ae:o=none:=by rw[←bh.o,Zo hbig]
       have bt:decide ((32:Int)<nl)=true:=Zr (by omega);have ai:=hy' ae;clear ae;go_wp2_with fail;go_ret2;rw[ai.o];exact⟨none,0,rfl,Sl.nil _ _ _,ag.o.trans (a6.o.mono ag.o.size)⟩
     have ae:zE8 (Md.mp T) q nx=o:=by rw[←bh.o,Zl hbig]
     have bt:decide ((32:Int)<nl)=false:=Zu (by omega);have ai:=hy' ae;clear ae;go_wp2_with fail;exact⟨⟨k+1,A1,c1,nx,by omega,by go_num,by rw[bb.o],b1.o,by rw[bb.o];omega,bp.o,by rw[bn.o];exact ai.o,a6.o⟩,by simp[intOf];omega⟩
   have ae:o=some L:=by rw[←bk.o,Zo rfl]
   have ai:=hy' ae;clear ae;go_wp2_with fail;go_ret2;rw[ai.o];exact⟨A,c,rfl,ay.o,ag.o.trans (a6.o.mono ag.o.size)⟩
 have bc:k=tn+4:=by omega
 have ae:o=none:=by
  rw[←ap.o,bc,Yo];rfl
 have ai:=hy' ae;have bm:decide ((k:Int)≤(tn:Int)+3)=false:=Zu (by omega);clear ae bc hs hb ak aa af hS;go_wp2_with fail;go_ret2;rw[ai.o];exact⟨none,0,rfl,Sl.nil _ _ _,ag.o.trans (ah.o.mono ag.o.size)⟩
end Go.Proofs.YtddbccflcekdpaaGreatDoor
