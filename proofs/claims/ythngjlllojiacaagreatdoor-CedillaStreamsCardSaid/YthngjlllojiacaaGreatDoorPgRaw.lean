/- The layer model: Check, by walking its text. -/
import Derived.Test.YthngjlllojiacaaGreatDoorFaCh
set_option maxRecDepth 100000
set_option maxHeartbeats 4000000
set_option linter.unusedVariables false
set_option linter.unusedSimpArgs false
namespace Go.Proofs.YthngjlllojiacaaGreatDoor
open Go.Proofs.Tryz
section
open Go.RowKit
theorem zCu (s:ByteArray) (w:World):Calls prog 129 #[.string s] w (zFI [(8,0,s)] w):=by
 have HA:=hy' (zO5 8 0 s w);rw[Zj (by decide)]at HA;go_enter func129,ntmps129;go_wp2_with fail;refine HA.o.mono ?_;rintro e w1 ⟨q,v,rfl,hl,hq,hb⟩;go_wp2;go_ret;exact⟨q,v,rfl,hl,hq,hb⟩
def zLz (k:Nat):List (Int × Int × ByteArray):=if k=0 then [] else [(8,0,zB9 k)]
theorem zDH {k j:Nat} {W w w':World} {e:Ending} (hj:k=j) (h0:j≠0) (h:zFI [(8,0,zB9 j)] W e w') (hb:Below w.heap.size w W):zFI (zLz k) w e w':=by
 subst hj;unfold zLz;rw[Zj h0];obtain⟨q,v,h1,h2,h3,h4⟩:=h;exact⟨q,v,h1,h2,h3,hb.trans (h4.mono hb.size)⟩
theorem zON {k:Nat} {w w':World} (hk:k=0) (hb:Below w.heap.size w w'):zFI (zLz k) w (.returned .nilIface) w':=by
 subst hk;exact⟨[],.nilIface,rfl,rfl,rfl,hb⟩
theorem zDj {α:Type} {l:List α} {k:Nat} {x:α} (h:l[k]?=some x):l.drop k=x::l.drop (k+1):=by
 obtain⟨h1,rfl⟩:=List.getElem?_eq_some_iff.1 h;exact ZR h1
theorem zKm {x:Int} (h1 : -2147483648≤x) (h2:x≤2147483647):(Lit.int .i32 x).wf=true:=by
 simp only[Lit.wf,Zs,Zm];exact⟨Ya (by decide) h1,Ya h2 (by decide)⟩
def zEo (x y:Int):Value:=.agg #[.int .i32 x,.int .i32 y]
theorem zQ1 {x y x' y':Int}:zEo x y=zEo x' y'↔x=x'∧y=y':=by simp[zEo]
theorem zJE:Go.WideMaps.ArrKey prog 228 21 2:=⟨underlying228,by kernel_rfl,by kernel_rfl,by kernel_rfl⟩
theorem zO6:Go.Maps.Keyed prog 228:=Jo zJE.law
theorem Md.pk_key {x y:Int} (hx : -2147483648≤x∧x≤2147483647) (hy : -2147483648≤y∧y≤2147483647):∃l,keyOf prog 228 (zEo x y)=some l:=by
 refine zLq zJE underlying21 ⟨381-1,by kernel_rfl⟩ [x,y] rfl fun z hz=>?_
 simp only[Xd,Z6,QP]at hz;rcases hz with rfl|rfl
 · exact zKm hx.1 hx.2
 exact zKm hy.1 hy.2
def Md.Seen (F:Value→Option Value) (seen:List (List Int)):Prop:=∀x y,(F (zEo x y)).isSome=seen.contains [x,y]
theorem Md.Seen.look {w:World} {b:Nat} {F:Value→Option Value} {seen:List (List Int)} (h:Mp.Is prog 228 w b F) (hs:Md.Seen F seen) {x y:Int} (hx : -2147483648≤x∧x≤2147483647) (hy : -2147483648≤y∧y≤2147483647) :
 ∃v,(Instr.lookup 226 (.map (some b)) (.agg #[.int .i32 x,.int .i32 y]) true).run prog w=.ok (.tuple #[v,.bool (seen.contains [x,y])]) w:=by
 obtain⟨l,hl⟩:=Md.pk_key hx hy;have hz:(zeroValue 21).run prog w=.ok (.int .i32 0) w:=by kernel_rfl
 have:=h.look zO6 underlying226 hz hl true;rw[Zl rfl,hs x y]at this;exact⟨_,this⟩
theorem Md.Seen.put {w:World} {b:Nat} {F:Value→Option Value} {seen:List (List Int)} (h:Mp.Is prog 228 w b F) (hs:Md.Seen F seen) {x y:Int} (hx : -2147483648≤x∧x≤2147483647) (hy : -2147483648≤y∧y≤2147483647) (v:Value) :
 ∃w' F',(Instr.mapUpdate 226 (.map (some b)) (.agg #[.int .i32 x,.int .i32 y]) v).run prog w=.ok () w'∧Mp.Is prog 228 w' b F'∧Md.Seen F' (seen++[[x,y]])∧w.grownBy w' (some b):=by
 obtain⟨l,hl⟩:=Md.pk_key hx hy
 obtain⟨F',h1,h2⟩:∃F':Value→Option Value,F' (zEo x y)=some v∧∀z,z≠zEo x y→F' z=F z:=by
  classical
  exact⟨fun z=>if z=zEo x y then some v else F z,by simp,fun z hz=>by simp[hz]⟩
 obtain⟨w',g1,g2,g3⟩:=h.put zO6 underlying226 hl F' h1 h2;refine⟨w',F',g1,g2,fun x' y'=>?_,g3⟩
 by_cases e:x'=x∧y'=y
 · obtain⟨rfl,rfl⟩:=e;rw[h1];simp
 rw[h2 _ (fun e'=>e (zQ1.1 e')),hs x' y'];simp;intro e1 e2;exact absurd ⟨e1,e2⟩ e
theorem zKn {T:List Rw.Row} {X:Int→Bool} {seen:List (List Int)} {r:Rw.Row} {l:List Rw.Row} {a:Bool} (h:a=zBA T X seen (r::l)) :
 a=if zAc T X r=true then (seen.contains r.2.2||zBA T X (seen++[r.2.2]) l) else zBA T X seen l:=by rw[h,zBA]
theorem zLA (v:Value) (T:List Rw.Row) (S:List Int) (w:World) (eo:T.length≤1000000) (hbd:Md.bd T) (eg:∀r∈T,r.2.2.length≤1000000) (h:Md.Is w v T S) (hS:C.srt S) (e2:S.length≤1000000) :
 Calls prog 88 #[v] w (zFI (zLz (Md.chk T (C.mem S))) w):=by
 obtain⟨A,c,XA,xc,rfl,h2,hX⟩:=id h;obtain⟨xn,hxn⟩:∃k,S.length=k:=⟨_,rfl⟩;obtain⟨n,hn⟩:∃k,T.length=k:=⟨_,rfl⟩;have dp:=hy' h;rw[hn,hxn]at dp ⊢;obtain⟨res,bq⟩:∃k,Md.chk T (C.mem S)=k:=⟨_,rfl⟩;rw[bq];rw[hn]at eo;have cu:Below w.heap.size w (w.alloc (.cells #[.slice A n c,.slice XA xn xc] 101)):=(Zc _ _).alloc (Za _) _;have cj:Rw.At (w.alloc (.cells #[.slice A n c,.slice XA xn xc] 101)) w.heap.size 101 [.slice A n c,.slice XA xn xc]:=Rw.At.new w 101 [.slice A n c,.slice XA xn xc];obtain⟨wa,di⟩:∃wa,w.alloc (.cells #[.slice A n c,.slice XA xn xc] 101)=wa:=⟨_,rfl⟩;rw[di]at cu cj;have b8:=h2.below cu;have z0:=cj.cell 0 rfl;have z1:=cj.cell 1 rfl;have fp:=hy' di;have ah:=hy' cu;have e7:=hy' cj;have bz:=hy' b8;have HN:=hy' hn;have gb:=hy' hxn;have ay:=hy' bq;have cv:=hy' hbd;have dv:=hy' eg;have fm:=hy' hS;clear di cu cj b8 hn hxn bq hbd eg h h2 hX hS;unfold zBd at *;go_enter func88,ntmps88;go_upto_region 1 with (fail)
 rw[fp.o];go_wp2_with fail;go_loopw [3,20] (fun v3 i wr=>∃(k:Nat) (last:Int),k≤n∧i=.int .i64 k∧v3=.int .i32 last∧(-2147483648≤last∧last≤2147483647)∧zAu (-1) T=zAu last (T.drop k)∧Below wa.heap.size wa wr) (fun _ i _=>n-(intOf i).toNat)
 case atStart=>exact⟨0,-1,ZG _,rfl,rfl,by omega,rfl,Zc _ _⟩
 obtain⟨k,last,hk,rfl,rfl,cg,ag,aw⟩:=hrel;have aa:=e7.o.below aw;have z0:=aa.cell 0 rfl;have z1:=aa.cell 1 rfl;have ck:=hy' ag;have cq:=hy' aw;have cz:=hy' aa;clear ag aa
 by_cases hlt:k<n
 · obtain⟨r,hr⟩:∃r,T[k]?=some r:=⟨_,Zb (by rw[HN.o];exact hlt)⟩;have az:=Zk hr;have ag:=cv.o r az;obtain⟨b,o,a,b5,hb,c0,c1,c2,bf⟩:=(bz.o.below aw).row hr;have ar:Below wr.heap.size wr (wr.alloc (.cells #[.int .i32 r.1,.int .i64 r.2.1,.slice a.1 r.2.2.length a.2] 109)):=(Zc _ _).alloc (Za _) _;have bp:=hy' (Md.row_any r a.1 a.2 last (wr.alloc (.cells #[.int .i32 r.1,.int .i64 r.2.1,.slice a.1 r.2.2.length a.2] 109)) ag.1 cg ag.2 (dv.o r az) (bf.below ar ar.size));have af:=Rw.At.new wr 109 [.int .i32 r.1,.int .i64 r.2.1,.slice a.1 r.2.2.length a.2];have bs:=hy' af;have b7:=hy' (aw.trans (ar.mono aw.size));have hd:=zDj hr;have a8:=ck.o;rw[hd,zAu]at a8;have c6:=zPK last r;obtain⟨bd,hbd⟩:∃k,Md.bad last r=k:=⟨_,rfl⟩;rw[hbd]at a8 bp c6;have bb:=hy' a8;have ei:(k:Int)<n:=by omega
   have en:(0:Int)≤k:=by omega
   subst b5;unfold zHD at bp;have dw:=ag.1.1;have df:=ag.1.2;clear hr az ag bf ar af hd a8 hbd aw;go_wp2_with fail;refine bp.o.mono ?_;rintro e w1 ⟨rfl,dm⟩;have bi:=bs.o.below dm;obtain⟨y0,y1,y2,_,_,_⟩:=bi.three;have ct:=hy' (b7.o.trans (dm.mono b7.o.size));have e0:=bi.lt;clear dm c0 c1 c2 z0 z1;rcases bd with _|_|_|_|bd
   · have dx:(zB9 0).toList.isEmpty=true:=by kernel_rfl
     have bc:zAu (-1) T=zAu r.1 (T.drop (k+1)):=by rw[bb.o];rfl
     have cc:=hy' bc;clear bc;go_wp2_with fail;exact⟨⟨k+1,r.1,by omega,by go_num,rfl,⟨dw,df⟩,cc.o,ct.o⟩,by simp[intOf];omega⟩
   · have dx:(zB9 1).toList.isEmpty=false:=by kernel_rfl
     have aj:res=1:=by rw[←ay.o];unfold Md.chk;rw[bb.o];rfl
     have a7:=hy' aj;clear aj;go_wp2_with fail;refine (zCu _ _).mono ?_;rintro e w2 ⟨q,v,rfl,g1,g2,g3⟩;go_wp2_with fail;go_ret;exact zDH a7.o (by decide) ⟨q,v,rfl,g1,g2,g3⟩ (ah.o.trans (ct.o.mono ah.o.size))
   · have dx:(zB9 2).toList.isEmpty=false:=by kernel_rfl
     have aj:res=2:=by rw[←ay.o];unfold Md.chk;rw[bb.o];rfl
     have a7:=hy' aj;clear aj;go_wp2_with fail;refine (zCu _ _).mono ?_;rintro e w2 ⟨q,v,rfl,g1,g2,g3⟩;go_wp2_with fail;go_ret;exact zDH a7.o (by decide) ⟨q,v,rfl,g1,g2,g3⟩ (ah.o.trans (ct.o.mono ah.o.size))
   · have dx:(zB9 3).toList.isEmpty=false:=by kernel_rfl
     have aj:res=3:=by rw[←ay.o];unfold Md.chk;rw[bb.o];rfl
     have a7:=hy' aj;clear aj;go_wp2_with fail;refine (zCu _ _).mono ?_;rintro e w2 ⟨q,v,rfl,g1,g2,g3⟩;go_wp2_with fail;go_ret;exact zDH a7.o (by decide) ⟨q,v,rfl,g1,g2,g3⟩ (ah.o.trans (ct.o.mono ah.o.size))
   omega
 obtain rfl:n=k:=by omega
 have hz:zAu (-1) T=0:=by
  rw[ck.o,XB (by rw[HN.o];exact Za _)];rfl
 obtain⟨cf,bk⟩:=zC5 T (-1) hz;have ek:Md.Ok T:=⟨by rw[HN.o];exact eo,bk,cv.o,dv.o⟩;have HZ:=hy' hz;have ee:=hy' ek;obtain⟨wb,rfl⟩:∃wb:World,wb=wr:=⟨_,rfl⟩;have ew:∀c,zBO (Md.mp T) (T.length+3) [] c=Md.full T c:=fun _=>rfl
 have fk:=hy' ew;clear hz cf bk ek ew hlt;go_wp2_with fail;go_loopw [37] (fun i wr=>∃k:Nat,k≤n∧i=.int .i64 k∧(∀r∈T.take k,(Md.full T r.1).isSome=true)∧Below wb.heap.size wb wr) (fun i _=>n-(intOf i).toNat)
 case atStart=>exact⟨0,ZG _,rfl,fun r hr=>by simp at hr,Zc _ _⟩
 obtain⟨k,hk,rfl,a6,au⟩:=hrel;have aa:=cz.o.below au;have y0:=aa.cell 0 rfl;have y1:=aa.cell 1 rfl;have bo:=hy' a6;have bg:=cq.o.trans (au.mono cq.o.size);have ae:=hy' bg;have bm:=hy' aa;have bh:=hy' au;have e4:=aa.lt;clear a6 aa au z0 z1
 by_cases hlt:k<n
 · obtain⟨r,hr⟩:∃r,T[k]?=some r:=⟨_,Zb (by rw[HN.o];exact hlt)⟩;have az:=Zk hr;have ag:=cv.o r az;obtain⟨b,o,a,b5,hb,c0,c1,c2,bf⟩:=(bz.o.below bg).row hr;have ar:Below wr.heap.size wr (wr.alloc (.cells #[.int .i32 r.1,.int .i64 r.2.1,.slice a.1 r.2.2.length a.2] 109)):=(Zc _ _).alloc (Za _) _;have b2:=ae.o.trans (ar.mono ae.o.size);have hE:=zGH T S (wr.alloc (.cells #[.int .i32 r.1,.int .i64 r.2.1,.slice a.1 r.2.2.length a.2] 109)) _ ee.o (dp.o.below (ah.o.trans (b2.mono ah.o.size))) (T.length+3) [] (.slice none 0 0) r.1 0 _ (by omega) ag.1.1 ag.1.2 (by simp) (Zc _ _) (ZI _ _ _ _);rw[fk.o]at hE;have cd:=hy' b2;have eu:=hy' (bh.o.trans (ar.mono bh.o.size));have af:=Rw.At.new wr 109 [.int .i32 r.1,.int .i64 r.2.1,.slice a.1 r.2.2.length a.2];obtain⟨x0,x1,x2,_,_,_⟩:=af.three;have ei:(k:Int)<n:=by omega
   have en:(0:Int)≤k:=by omega
   obtain⟨fo,dt⟩:∃fo,Md.full T r.1=fo:=⟨_,rfl⟩;rw[dt]at hE;have ec:=hy' dt;have HR:=hy' hr;have fh:=hy' az;subst b5;clear hr az ag bf ar b2 af dt;go_wp2_with fail;refine hE.mono ?_;rintro e w2 ⟨A1,n1,fx,rfl,_,hg⟩;have ej:=eu.o.trans (zAe hg eu.o.size fun k hk=>by cases hk);have dn:=hy' ej;have ba:=hy' (cd.out.trans (zAe hg cd.out.size fun k hk=>by cases hk));clear ej hg hE x0 x1 x2 y0 y1 c0 c1 c2;rcases fo with _|fl
   · have aj:res=4:=by
      rw[←ay.o];unfold Md.chk
      have:zBf T=true:=by
       unfold zBf;rw[Yo];exact⟨r,fh.o,by rw[ec.o];rfl⟩
      rw[Zj (by rw[HZ.o];simp),Zl this]
     have a7:=hy' aj;clear aj;go_wp2_with fail;refine (zCu _ _).mono ?_;rintro e w3 ⟨q,v,rfl,g1,g2,g3⟩;go_wp2_with fail;go_ret;exact zDH a7.o (by decide) ⟨q,v,rfl,g1,g2,g3⟩ (ah.o.trans (ba.o.mono ah.o.size))
   have a6:∀r∈T.take (k+1),(Md.full T r.1).isSome=true:=by
    rw[ZA,HR.o];intro q hq;rcases List.mem_append.1 hq with hq|hq
    · exact bo.o q hq
    simp at hq;subst hq;rw[ec.o];rfl
   have cb:=hy' a6;clear a6;go_wp2_with fail;exact⟨⟨k+1,by omega,by go_num,cb.o,dn.o⟩,by simp[intOf];omega⟩
 obtain rfl:n=k:=by omega
 have ed:zBf T=false:=by
  unfold zBf;rw[XK];intro r hr;have:=bo.o r (by rw[Zi (by rw[HN.o];exact Za _)];exact hr);cases hf:Md.full T r.1 with
  | none=>rw[hf]at this;cases this
  | some l=>simp
 have cn:res=if zBA T (C.mem S) [] T=true then 5 else 0:=by
  rw[←ay.o];unfold Md.chk;rw[Zj (by rw[HZ.o];simp),Zj (by rw[ed];simp)]
 have ey:=hy' cn;obtain⟨wz,rfl⟩:∃wz:World,wz=wr:=⟨_,rfl⟩;clear ed cn hlt bo;have fz:=@Jp prog;have a1:=Mp.Is.made wz prog 228;have dh:Below wz.heap.size wz (wz.alloc (.map #[] 0)):=(Zc _ _).alloc (Za _) _;have br:=bm.o.alloc (.map #[] 0);have w0:=br.cell 0 rfl;have w1:=br.cell 1 rfl;obtain⟨wm,du⟩:∃wm,wz.alloc (.map #[] 0)=wm:=⟨_,rfl⟩;rw[du]at a1 dh w0 w1;have fj:=hy' du;have ch:=hy' a1;have fg:=hy' dh;clear a1 dh br du;go_upto_region 18 with (fail)
 rw[fj.o];go_wp2_with fail;go_loopw [56] (fun i wr=>∃(k:Nat) (F:Value→Option Value),k≤n∧i=.int .i64 k∧zBA T (C.mem S) [] T=zBA T (C.mem S) (((T.take k).filter (zAc T (C.mem S))).map fun r=>r.2.2) (T.drop k)∧Mp.Is prog 228 wr wz.heap.size F∧Md.Seen F (((T.take k).filter (zAc T (C.mem S))).map fun r=>r.2.2)∧Below wz.heap.size wz wr) (fun i _=>n-(intOf i).toNat)
 case atStart=>exact⟨0,fun _=>none,ZG _,rfl,rfl,ch.o,fun x y=>rfl,fg.o⟩
 obtain⟨k,F,hk,rfl,b3,bx,bj,ak⟩:=hrel;have aa:=bm.o.below ak;have y0:=aa.cell 0 rfl;have y1:=aa.cell 1 rfl;have dc:=hy' b3;have b9:=hy' bx;have av:=hy' bj;have bl:=ae.o.trans (ak.mono ae.o.size);have aq:=hy' ak;have ax:=hy' bl;have ft:=aa.lt;have e6:=bx.lt;clear b3 bx bj aa ak w0 w1;obtain⟨seen,c7⟩:∃seen,(((T.take k).filter (zAc T (C.mem S))).map fun r=>r.2.2)=seen:=⟨_,rfl⟩;rw[c7]at dc av;have fe:=hy' c7;clear c7
 by_cases hlt:k<n
 rotate_left
 · obtain rfl:n=k:=by omega
   have cn:res=0:=by
    rw[ey.o,dc.o,XB (by rw[HN.o];exact Za _)];rfl
   have dk:=hy' cn;clear cn hlt;go_wp2_with fail;go_ret;exact zON dk.o (ah.o.trans (ax.o.mono ah.o.size))
 obtain⟨r,hr⟩:∃r,T[k]?=some r:=⟨_,Zb (by rw[HN.o];exact hlt)⟩;have az:=Zk hr;have ag:=cv.o r az;obtain⟨b,o,a,b5,hb,c0,c1,c2,bf⟩:=(bz.o.below bl).row hr;have ar:Below wr.heap.size wr (wr.alloc (.cells #[.int .i32 r.1,.int .i64 r.2.1,.slice a.1 r.2.2.length a.2] 109)):=(Zc _ _).alloc (Za _) _;have b2:=ax.o.trans (ar.mono ax.o.size);have hC:=zIj _ T S r a.1 a.2 (wr.alloc (.cells #[.int .i32 r.1,.int .i64 r.2.1,.slice a.1 r.2.2.length a.2] 109)) ee.o (dp.o.below (ah.o.trans (b2.mono ah.o.size))) fm.o e2 ag.1 ag.2 (dv.o r az) (bf.below ar ar.size);have b7:=hy' ar;have af:=Rw.At.new wr 109 [.int .i32 r.1,.int .i64 r.2.1,.slice a.1 r.2.2.length a.2];obtain⟨x0,x1,x2,_,_,_⟩:=af.three;have bs:=hy' af;have ei:(k:Int)<n:=by omega
 have en:(0:Int)≤k:=by omega
 have b3:=dc.o;rw[zDj hr]at b3;have b1:=hy' (zKn b3)
 have dz:(((T.take (k+1)).filter (zAc T (C.mem S))).map fun r=>r.2.2)=if zAc T (C.mem S) r=true then seen++[r.2.2] else seen:=by
  rw[ZA,hr,Yh,ZO,fe.o]
  by_cases hc:zAc T (C.mem S) r=true
  · simp[hc]
  simp[hc]
 have b4:=hy' dz
 have eh:zAc T (C.mem S) r=true→∃x y,r.2.2=[x,y]:=by
  intro hc;unfold zAc at hc;simp only[Zs,Zm]at hc;have h2:=hc.2.1
  match hh:r.2.2,h2 with
  | [x,y],_=>exact⟨x,y,rfl⟩
 have dy:=hy' eh;obtain⟨cr,et⟩:∃cr,zAc T (C.mem S) r=cr:=⟨_,rfl⟩;rw[et]at hC b1 b4 dy;have ck:=hy' ag;have fq:=hy' bf;subst b5;unfold zHD at hC;clear hr az ag bf ar b2 af b3 dz eh et;go_wp2_with fail;refine hC.mono ?_;rintro e w2 ⟨rfl,dl⟩;have cm:=b7.o.trans (dl.mono b7.o.size);have ba:=hy' cm;have ap:=bs.o.below dl;obtain⟨x0,x1,x2,_,_,_⟩:=ap.three;have ez:=hy' ap;have e9:=ap.lt;clear dl cm ap hC y0 y1 c0 c1 c2;cases cr
 · have bw:=b1.o;rw[Zj (by decide)]at bw;have bn:=b4.o;rw[Zj (by decide)]at bn;have e3:=hy' bw;have ef:=hy' bn;clear bw bn;go_wp2_with fail;exact⟨⟨k+1,F,by omega,by go_num,by rw[ef.o];exact e3.o,b9.o.below ba.o,by rw[ef.o];exact av.o,aq.o.trans (ba.o.mono aq.o.size)⟩,by simp[intOf];omega⟩
 obtain⟨x,y,bu⟩:=dy.o rfl;have hlen:r.2.2.length=2:=by rw[bu];rfl
 have hxb:=ck.o.2 x (by rw[bu];simp);have ea:=ck.o.2 y (by rw[bu];simp);have bt:=fq.o.below ba.o ba.o.size;rw[bu]at bt;obtain⟨ab,ao,hA2,fw,dr⟩:=bt (by simp);have d0:w2.cell? ⟨ab,ao,none⟩=some (.int .i32 x):=by simpa using dr 0 (by simp)
 have d1:w2.cell? ⟨ab,ao+1,none⟩=some (.int .i32 y):=by simpa using dr 1 (by simp)
 rw[hA2,hlen]at x2;rw[bu]at b1 b4;rw[Zl rfl]at b1 b4;have fy:=hy' bu;clear dr bt bu;have e1:∀(A:Option Addr) (cp:Nat) (W:World),(Instr.arrayAt 228 (.slice A 2 cp)).run prog W=.ok (.pointer A) W:=fun _ _ _=>by kernel_rfl
 have c8:Below w2.heap.size w2 (w2.alloc (.cells #[.int .i32 x,.int .i32 y] 228)):=(Zc _ _).alloc (Za _) _;have hmx:=(b9.o.below ba.o).below c8;obtain⟨lv,fu⟩:=Md.Seen.look hmx av.o hxb ea;obtain⟨w4,F',cy,eb,ep,er⟩:=Md.Seen.put hmx av.o hxb ea (.int .i32 r.1);have cw:Below wz.heap.size wz (w2.alloc (.cells #[.int .i32 x,.int .i32 y] 228)):=aq.o.trans ((ba.o.trans (c8.mono ba.o.size)).mono aq.o.size);have dn:=hy' (cw.trans (zAe er cw.size fun k hk=>by cases hk;exact Za _));have e8:=hy' cw;have fc:=hy' eb;have e5:=hy' ep;obtain⟨tw,b6⟩:∃tw,seen.contains [x,y]=tw:=⟨_,rfl⟩;rw[b6]at fu b1;clear c8 hmx eb ep er cw b6;cases tw
 · have ai:=b1.o;rw[Y5]at ai;have cx:=hy' ai;clear ai;go_wp2_with fail;exact⟨⟨k+1,F',by omega,by go_num,by rw[b4.o];exact cx.o,fc.o,by rw[b4.o];exact e5.o,dn.o⟩,by simp[intOf];omega⟩
 have ai:=b1.o;rw[Xp]at ai;have aj:res=5:=by rw[ey.o,Zl ai]
 have a7:=hy' aj;clear ai aj cy;go_wp2_with fail;refine (zCu _ _).mono ?_;rintro e w3 ⟨q,v,rfl,g1,g2,g3⟩;go_wp2_with fail;go_ret;exact zDH a7.o (by decide) ⟨q,v,rfl,g1,g2,g3⟩ (ah.o.trans ((ae.o.trans (e8.o.mono ae.o.size)).mono ah.o.size))
end
def Pg.ok (c:Int):Bool:=decide (0≤c∧c≤1114111)
theorem zEA (L:List (Int × Int)) (x:Int × Int) (c:Int):Pg.last (L++[x]) c=if x.1=c then x.2 else Pg.last L c:=by
 unfold Pg.last;rw[YJ];rfl
theorem zMX (L:List (Int × Int)) (x:Int × Int) (h:Pg.ok x.1=false) {m:Nat} (hm:m<4352):zA9 (Pg.last (L++[x])) m=zA9 (Pg.last L) m:=by
 unfold zA9;refine YV fun i hi=>?_
 have hi:=List.mem_range.1 hi;rw[zEA,Zj];intro e;unfold Pg.ok at h;rw[ZY]at h;omega
theorem zLB (L:List (Int × Int)) (x:Int × Int) {m n:Nat} (hn:x.1/256=(n:Int)) (hne:m≠n):zA9 (Pg.last (L++[x])) m=zA9 (Pg.last L) m:=by
 unfold zA9;refine YV fun i hi=>?_
 have hi:=List.mem_range.1 hi;rw[zEA,Zj];intro e;omega
theorem zOO (L:List (Int × Int)) (x:Int × Int) {n j:Nat} (hn:x.1/256=(n:Int)) (hj:x.1%256=(j:Int)):zA9 (Pg.last (L++[x])) n=(zA9 (Pg.last L) n).set j x.2:=by
 refine XL fun i=>?_
 rw[Qa,zBg]
 by_cases hi:i<256
 · rw[zGA _ _ hi,zGA _ _ hi,zEA]
   by_cases e:j=i
   · subst e;rw[Zl (by omega),Zl rfl,Zl hi]
   rw[Zj (by omega),Zj e]
 rw[Yn (by rw[zBg];omega)];split
 · rw[Zj (by omega)]
 rw[Yn (by rw[zBg];omega)]
theorem zIk (n:Nat):zA9 (Pg.last []) n=zAj:=by
 unfold zA9 zAj;refine XL fun i=>?_
 by_cases hi:i<256
 · rw[Zw,XV hi,QS,Zl hi];rfl
 rw[Yn (by rw[Ze,JU];omega),Yn (by rw[Qh];omega)]
def zCC (bl:List (List Int)) (b:List Int):Option Nat:=if b∈bl then some (Pg.at bl b) else none
theorem zLC {bl:List (List Int)} {b:List Int} (h:b∉bl) (x:List Int):zCC (Pg.add bl b) x=if x=b then some bl.length else zCC bl x:=by
 unfold zCC
 by_cases hx:x=b
 · subst hx;rw[Zl (zF1.2 (.inr rfl)),Zl rfl];unfold Pg.add Pg.at;rw[Zj h,JS,Zj h];simp
 rw[Zj hx]
 by_cases hm:x∈bl
 · rw[Zl (zF1.2 (.inl hm)),Zl hm,zLn hm]
 rw[Zj fun h'=>(zF1.1 h').elim hm hx,Zj hm]
theorem zH9 {bl:List (List Int)} {b:List Int} (h:b∈bl):Pg.add bl b=bl:=Zl h
theorem zOP {bl:List (List Int)} {b:List Int} (h:b∉bl):Pg.add bl b=bl++[b]:=Zj h
theorem zLD (f:Int→Int) (m:Nat):zAj∈zAn f m:=(zDA f m _).2 (.inl rfl)
theorem zMY (f:Int→Int) (m:Nat):Pg.at (zAn f m) zAj=0:=by
 have h:=zIc f m
 obtain⟨l,hl⟩:∃l,zAn f m=zAj::l:=by
  cases hb:zAn f m with
  | nil=>rw[hb]at h;cases h
  | cons y l=>rw[hb]at h;simp at h;exact⟨l,by rw[h]⟩
 rw[hl];unfold Pg.at;simp
def zAK (f:Int→Int) (m:Nat):List Int:=Pg.idx f m++List.replicate (4352-m) 0
theorem zAL (f:Int→Int) {m:Nat} (h:m≤4352):(zAK f m).length=4352:=by
 unfold zAK;rw[Zd,zCe,Qh];omega
theorem zMZ (f:Int→Int):zAK f 4352=Pg.idx f 4352:=by unfold zAK;simp
theorem zIl (f:Int→Int) {m:Nat} (h:m<4352):zAK f (m+1)=(zAK f m).set m (Pg.at (zAn f (m+1)) (zA9 f m):Int):=by
 unfold zAK;rw[zMH,show 4352-m=(4352-(m+1))+1 by omega,List.replicate_succ,Zz,Yw _ _ (by rw[zCe];exact Za _),zCe,Ye];rfl
theorem zLE (f:Int→Int) {m:Nat} (h:m<4352) (hb:zA9 f m=zAj):zAn f (m+1)=zAn f m∧zAK f (m+1)=zAK f m:=by
 have h1:zAn f (m+1)=zAn f m:=by rw[zAn,hb,zH9 (zLD f m)]
 refine⟨h1,?_⟩;rw[zIl f h,h1,hb,zMY];refine XL fun i=>?_
 rw[Qa]
 by_cases e:m=i
 · subst e;rw[Zl rfl,Zl (by rw[zAL f (by omega)];exact h)];unfold zAK;rw[ZJ (by rw[zCe];exact Za _),zCe,Ye,QS,Zl (by omega)];rfl
 rw[Zj e]
section
open Go.RowKit
theorem zN0 {P:Program} (w:World) (t:TypeId) (d:TypeDesc) (b o n:Nat) (xs:List Value) (hx:xs.length=n) (hc:∀(j:Nat) v,xs[j]?=some v→w.cell? ⟨b,o+j,none⟩=some v)
 (hu:P.underlying t=some d) (hd:(match d with | .struct _ | .array _ _=>true|_=>false)=true) (hi:(P.info? t).map (·.size)=some n) :
 (Instr.loadAt t (.pointer (some ⟨b,o,none⟩))).run P w=.ok (.agg xs.toArray) w:=by
 have hl:(loadCells ⟨b,o,none⟩ xs.length).run P w=.ok xs.toArray w :=
  run_loadCells_list (P:=P) w ⟨b,o,none⟩ xs (fun j v hv=>by
   have ae:(⟨b,o,none⟩:Addr).add j=⟨b,o+j,none⟩:=by unfold Addr.add;split <;> simp_all
   rw[ae];exact hc j v hv)
 subst hx;have aa:(isAgg t).run P w=.ok true w:=by cases d <;> simp at hd <;> simp[isAgg,Y6 hu]
 simp only[Instr.loadAt,Instr.sureAddr,YE,Ys,Result.andThen];cases hq:P.info? t with
 | none=>simp[hq]at hi
 | some i =>
   have hs:i.size=xs.length:=by simp[hq]at hi;omega
   simp[loadVar,YE,aa,sizeOf,typeInfo,hq,hs,hl]
theorem zOQ {P:Program} {o:Oper} {a:Act} {w:World} {K:Act→World→Prop} {Q:Exit→Act→World→Prop} (t:TypeId) (x:Operand) (ho:o.op=.load t x) (v u:Value) (hx:a.eval x=v)
 (hr:(Instr.loadAt t v).run P w=.ok u w) (h:K (a.put o.dst u) w):o.wp P a w K Q:=by
 unfold Oper.wp execOp;subst hx;simp only[ho,YE,hr,Yt,Ys];exact h
theorem zFp {P:Program} {ops:Array Oper} {rest:List Oper} {o:Oper} {a:Act} {w:World} {Q:Exit→Act→World→Prop} (aa:o.guard=none) (t:TypeId) (x:Operand) (ho:o.op=.load t x) (v u:Value) (hx:a.eval x=v)
 (hr:(Instr.loadAt t v).run P w=.ok u w) (h:wpList P ops Q rest (a.put o.dst u) w):wpList P ops Q (o::rest) a w :=
 QY aa fun _ hK=>zOQ t x ho v u hx hr (hK _ _ h)
theorem zOR:(prog.info? 202).map (·.size)=some 256:=by kernel_rfl
theorem zQO:(prog.info? 171).map (fun i=>(i.zero,i.size,i.bytes))=some (some (.agg #[.int .i32 0,.int .u16 0]),2,8):=by kernel_rfl
def zGJ (L:List (Int × Int)):Prop:=∀x∈L,-2147483648≤x.1∧x.1≤2147483647∧0≤x.2∧x.2≤65535
def Pg.IsL (lo:Nat) (w:World) (v:Value) (idx:List Int) (bl:List (List Int)):Prop :=
 ∃g A c,v=.pointer (some ⟨g,0,none⟩)∧lo≤g∧Rw.At w g 206 (idx.map (Value.int .u16)++[.slice A bl.length c])∧Sl w w.heap.size A (bl.flatten.map (Value.int .u16))∧∀a,A=some a→lo≤a.block
theorem Pg.IsL.is {lo:Nat} {w:World} {v:Value} {idx:List Int} {bl:List (List Int)} (h:Pg.IsL lo w v idx bl):Pg.Is w v idx bl:=by
 obtain⟨g,A,c,h1,_,h2,h3,_⟩:=h;exact⟨g,A,c,h1,h2,h3⟩
theorem Pg.IsL.grown {lo b:Nat} {w w':World} {v:Value} {idx:List Int} {bl:List (List Int)} (h:Pg.IsL lo w v idx bl) (hg:w.grownBy w' (some b)) (hb:b<lo):Pg.IsL lo w' v idx bl:=by
 obtain⟨g,A,c,h1,h0,h2,h3,h4⟩:=h;refine⟨g,A,c,h1,h0,h2.grown hg (by simp;omega),fun hx=>?_,h4⟩;obtain⟨q,o,hA,hq,hc⟩:=h3 hx;have aa:=h4 _ hA;refine⟨q,o,hA,Zf hq hg.size,fun i hi=>?_⟩;rw[←hc i hi];have hk:=hg.block q hq (by simp;dsimp only at aa;omega);simp[World.cell?,hk]
def zSa (lo:Nat) (w:World) (v:Value) (f:Int→Int):Prop:=Pg.IsL lo w v (Pg.idx f 4352) (zAn f 4352)
theorem zF8:Go.Maps.Keyed prog 21:=Go.Maps.int_keyed underlying21
theorem Pg.key32 {n:Nat} (h:n<4352):keyOf prog 21 (.int .i32 n)=some (.int .i32 n):=Go.Maps.keyOf_int_mk underlying21 (by simp only[Lit.wf,Zs,Zm];exact⟨Ya (by decide:_≤(0:Int)) (by omega),Ya (by omega:(n:Int)≤4352) (by decide)⟩)
def zSb (g:Option Nat):Value:=.pointer (g.map fun g=>⟨g,0,none⟩)
def Pg.vs (b:List Int):List Value:=b.map (Value.int .u16)
def Pg.St (lo hi:Nat) (W:World) (mb:Nat) (f:Int→Int) (G:Nat→Option Nat):Prop :=
 (∃F,Mp.Is prog 21 W mb F∧∀n:Nat,n<4352→F (.int .i32 n)=(G n).map fun g=>.pointer (some ⟨g,0,none⟩)) ∧
 (∀n,n<4352→G n=none→zA9 f n=zAj)∧(∀n g,n<4352→G n=some g→lo≤g∧g<hi∧Rw.At W g 202 (Pg.vs (zA9 f n))) ∧
 (∀n n' g,n<4352→n'<4352→G n=some g→G n'=some g→n=n')
section
variable {lo hi:Nat} {W W':World} {mb:Nat} {f f':Int→Int} {G:Nat→Option Nat}
theorem Pg.St.made (w:World) (lo hi:Nat):Pg.St lo hi (w.alloc (.map #[] 0)) w.heap.size (Pg.last []) fun _=>none :=
 ⟨⟨_,Mp.Is.made w prog 21,fun _ _=>rfl⟩,fun n _ _=>zIk n,fun _ _ _ h=>(nomatch h),fun _ _ _ _ _ h=>(nomatch h)⟩
theorem Pg.St.lt (h:Pg.St lo hi W mb f G):mb<W.heap.size:=by
 obtain⟨⟨F,hF,_⟩,_⟩:=h;exact hF.lt
theorem Pg.St.below {B:Nat} (h:Pg.St lo hi W mb f G) (hb:Below B W W') (h1:mb<B) (h2:hi≤B):Pg.St lo hi W' mb f G:=by
 obtain⟨⟨F,⟨es,c,hh,r⟩,hF⟩,h3,h4,h5⟩:=h;exact⟨⟨F,⟨es,c,(hb.block mb h1).trans hh,r⟩,hF⟩,h3,fun n g hn hg=>⟨(h4 n g hn hg).1,(h4 n g hn hg).2.1,(h4 n g hn hg).2.2.below' hb (by have:=(h4 n g hn hg).2.1;omega)⟩,h5⟩
theorem Pg.St.more {hi':Nat} (h:Pg.St lo hi W mb f G) (hh:hi≤hi'):Pg.St lo hi' W mb f G :=
 ⟨h.1,h.2.1,fun n g hn hg=>⟨(h.2.2.1 n g hn hg).1,Zf (h.2.2.1 n g hn hg).2.1 hh,(h.2.2.1 n g hn hg).2.2⟩,h.2.2.2⟩
theorem Pg.St.turn (h:Pg.St lo hi W mb f G) (hf:∀n,n<4352→zA9 f' n=zA9 f n):Pg.St lo hi W mb f' G :=
 ⟨h.1,fun n hn hg=>by rw[hf n hn];exact h.2.1 n hn hg,fun n g hn hg=>by rw[hf n hn];exact h.2.2.1 n g hn hg,h.2.2.2⟩
theorem Pg.St.look (h:Pg.St lo hi W mb f G) {n:Nat} (hn:n<4352):(Instr.lookup 231 (.map (some mb)) (.int .i32 n) false).run prog W=.ok (zSb (G n)) W:=by
 obtain⟨⟨F,hF,hG⟩,_⟩:=h;have hz:(zeroValue 232).run prog W=.ok (.pointer none) W:=by kernel_rfl
 have:=hF.look zF8 underlying231 hz (Pg.key32 hn) false;rw[hG n hn]at this;rw[this];cases G n <;> rfl
theorem Pg.St.put (h:Pg.St lo hi W mb f G) {n:Nat} (hn:n<4352) (hg:G n=none) (af:lo≤W.heap.size) (ag:hi≤W.heap.size) :
 ∃W' G',(Instr.mapUpdate 231 (.map (some mb)) (.int .i32 n) (.pointer (some ⟨W.heap.size,0,none⟩))).run prog (W.alloc (.cells (Pg.vs zAj).toArray 202))=.ok () W' ∧
  Pg.St lo W'.heap.size W' mb f G'∧G' n=some W.heap.size∧(W.alloc (.cells (Pg.vs zAj).toArray 202)).grownBy W' (some mb):=by
 have hmb:=h.lt;obtain⟨⟨F,hF,hG⟩,h2,h3,h4⟩:=h;have ae:Mp.Is prog 21 (W.alloc (.cells (Pg.vs zAj).toArray 202)) mb F:=hF.below ((Zc _ _).alloc (Za _) _)
 obtain⟨F',g1,g2⟩:∃F':Value→Option Value,F' (.int .i32 n)=some (.pointer (some ⟨W.heap.size,0,none⟩))∧∀z,z≠.int .i32 n→F' z=F z:=by
  classical
  exact⟨fun z=>if z=.int .i32 n then some (.pointer (some ⟨W.heap.size,0,none⟩)) else F z,by simp,fun z hz=>by simp[hz]⟩
 obtain⟨W',k1,k2,k3⟩:=ae.put zF8 underlying231 (Pg.key32 hn) F' g1 g2;have ah:W.heap.size+1≤W'.heap.size:=by have:=k3.size;simpa using this
 refine⟨W',fun k=>if k=n then some W.heap.size else G k,k1,⟨⟨F',k2,fun k hk=>?_⟩,fun k hk=>?_,fun k g hk=>?_,fun k k' g hk aa=>?_⟩,by simp,k3⟩
 · by_cases e:k=n
   · subst e;rw[g1];simp
   rw[g2 _ (by simp;omega),hG k hk];simp[e]
 · by_cases e:k=n
   · subst e;simp
   simp only[Zj e];exact h2 k hk
 · have hne:∀q cs,Rw.At (W.alloc (.cells (Pg.vs zAj).toArray 202)) q 202 cs→Rw.At W' q 202 cs:=fun q cs hq=>hq.grown k3 (by
    intro e;cases e
    obtain⟨es,c,hh,_⟩:=ae;have:=hq.symm.trans hh;cases this)
   by_cases e:k=n
   · subst e;simp only[Yv,Zg];rintro rfl;refine⟨af,by omega,hne _ _ ?_⟩;rw[h2 _ hk hg];exact Rw.At.new W 202 (Pg.vs zAj)
   simp only[Zj e];intro he;obtain⟨a1,a2,a3⟩:=h3 k g hk he;exact⟨a1,by omega,hne _ _ (a3.alloc _)⟩
 by_cases e:k=n
 · by_cases e':k'=n
   · intros;omega
   simp only[Zl e,Zj e',Zg];rintro rfl h6;have:=(h3 k' _ aa h6).2.1;omega
 by_cases e':k'=n
 · simp only[Zl e',Zj e,Zg];rintro h6 rfl;have:=(h3 k _ hk h6).2.1;omega
 simp only[Zj e,Zj e'];exact h4 k k' g hk aa
theorem Pg.St.store (h:Pg.St lo hi W mb f G) {n g j:Nat} (hn:n<4352) (hg:G n=some g) (v:Int) (h1:zA9 f' n=(zA9 f n).set j v) (h2:∀k,k≠n→zA9 f' k=zA9 f k) :
 Pg.St lo hi (W.setCell ⟨g,j,none⟩ (.int .u16 v)) mb f' G:=by
 obtain⟨⟨F,⟨es,c,hh,r⟩,hG⟩,i2,i3,i4⟩:=h;obtain⟨a1,a2,a3⟩:=i3 n g hn hg
 have hne:mb≠g:=by
  rintro rfl;have:=a3.symm.trans hh;cases this
 refine⟨⟨F,⟨es,c,(Yl _ _ _ mb hne).trans hh,r⟩,hG⟩,fun k hk aa=>?_,fun k q hk hq=>?_,i4⟩
 · have:k≠n:=by rintro rfl;rw[hg]at aa;cases aa
   rw[h2 k this];exact i2 k hk aa
 obtain⟨b1,b2,b3⟩:=i3 k q hk hq
 by_cases e:k=n
 · subst e;rw[hg]at hq;cases hq
   refine⟨b1,b2,?_⟩;rw[h1];have:=a3.set j (.int .u16 v);rw[show Pg.vs ((zA9 f k).set j v)=(Pg.vs (zA9 f k)).set j (.int .u16 v) by unfold Pg.vs;rw[List.map_set]];exact this
 refine⟨b1,b2,?_⟩;rw[h2 k e]
 exact b3.other (by
  rintro rfl;exact e (i4 k n q hk hn hq hg)) _
theorem Pg.St.at (h:Pg.St lo hi W mb f G) {n g:Nat} (hn:n<4352) (hg:G n=some g):lo≤g∧g<hi∧Rw.At W g 202 (Pg.vs (zA9 f n)):=h.2.2.1 n g hn hg
theorem Pg.St.none (h:Pg.St lo hi W mb f G) {n:Nat} (hn:n<4352) (hg:G n=Option.none):zA9 f n=zAj:=h.2.1 n hn hg
end
theorem Pg.At.load {w:World} {g:Nat} {b:List Int} (h:Rw.At w g 202 (Pg.vs b)) (hb:b.length=256):(Instr.loadAt 202 (.pointer (some ⟨g,0,none⟩))).run prog w=.ok (.agg (Pg.vs b).toArray) w :=
 zN0 w _ _ g 0 256 _ (by unfold Pg.vs;rw[List.length_map,hb]) (fun j u hu=>by rw[Nat.zero_add];exact h.cell j hu) underlying202 rfl zOR
theorem zLF:Go.WideMaps.ArrKey prog 202 138 256:=⟨underlying202,by kernel_rfl,by kernel_rfl,by kernel_rfl⟩
theorem zLG:Go.Maps.Keyed prog 202:=Jo zLF.law
def Pg.u16 (b:List Int):Prop:=b.length=256∧∀x∈b,0≤x∧x≤65535
theorem zLH {b:List Int} (h:Pg.u16 b):∃l,keyOf prog 202 (.agg (Pg.vs b).toArray)=some l :=
 zLq zLF underlying138 ⟨381-1,by kernel_rfl⟩ b h.1 fun x hx=>by
  obtain⟨h1,h2⟩:=h.2 x hx;simp only[Lit.wf,Zs,Zm];exact⟨Ya (by decide:_≤(0:Int)) h1,Ya h2 (by decide)⟩
theorem zQ2 {a b:List Int} (h:Value.agg (Pg.vs a).toArray=.agg (Pg.vs b).toArray):a=b:=by
 simp only[XF]at h;have h:Pg.vs a=Pg.vs b:=by simpa using congrArg Array.toList h
 unfold Pg.vs at h;exact (List.map_inj_right fun x y e=>by simpa using e).1 h
theorem zN1 {L:List (Int × Int)} (h:∀x∈L,0≤x.2∧x.2≤65535) (c:Int):0≤Pg.last L c∧Pg.last L c≤65535:=by
 unfold Pg.last
 suffices ∀(L:List (Int × Int)) (a:Int),(∀x∈L,0≤x.2∧x.2≤65535)→0≤a∧a≤65535→0≤L.foldl (fun a x=>if x.1=c then x.2 else a) a∧L.foldl (fun a x=>if x.1=c then x.2 else a) a≤65535 from this L 0 h (by decide)
 intro L
 induction L with
 | nil=>intro a _ ha;exact ha
 | cons x l ih =>
   intro a hl ha;refine ih _ (fun y hy=>hl y (Zv _ hy)) ?_
   by_cases e:x.1=c
   · simp only[Zl e];exact hl x Zq
   simp only[Zj e];exact ha
theorem zOS {L:List (Int × Int)} (h:∀x∈L,0≤x.2∧x.2≤65535) (m:Nat):Pg.u16 (zA9 (Pg.last L) m):=by
 refine⟨zBg _ _,fun x hx=>?_⟩;unfold zA9 at hx;obtain⟨i,_,rfl⟩:=List.mem_map.1 hx;exact zN1 h _
def Pg.Pl (W:World) (pb:Nat) (bl:List (List Int)):Prop :=
 ∃F,Mp.Is prog 202 W pb F∧∀b:List Int,F (.agg (Pg.vs b).toArray)=(zCC bl b).map fun k=>.int .i64 k
theorem Pg.Pl.look {W:World} {pb:Nat} {bl:List (List Int)} (h:Pg.Pl W pb bl) {b:List Int} (hb:Pg.u16 b) :
 (Instr.lookup 233 (.map (some pb)) (.agg (Pg.vs b).toArray) true).run prog W=.ok (.tuple #[.int .i64 ((zCC bl b).getD 0:Nat),.bool (zCC bl b).isSome]) W:=by
 obtain⟨F,hF,hp⟩:=h;obtain⟨l,hl⟩:=zLH hb;have hz:(zeroValue 3).run prog W=.ok (.int .i64 0) W:=by kernel_rfl
 have:=hF.look zLG underlying233 hz hl true;rw[Zl rfl,hp b]at this;rw[this];cases zCC bl b <;> rfl
theorem Pg.Pl.put {W:World} {pb:Nat} {bl:List (List Int)} (h:Pg.Pl W pb bl) {b:List Int} (hb:Pg.u16 b) (hn:b∉bl) :
 ∃W',(Instr.mapUpdate 233 (.map (some pb)) (.agg (Pg.vs b).toArray) (.int .i64 bl.length)).run prog W=.ok () W'∧Pg.Pl W' pb (Pg.add bl b)∧W.grownBy W' (some pb):=by
 obtain⟨F,hF,hp⟩:=h;obtain⟨l,hl⟩:=zLH hb
 obtain⟨F',g1,g2⟩:∃F':Value→Option Value,F' (.agg (Pg.vs b).toArray)=some (.int .i64 bl.length)∧∀z,z≠.agg (Pg.vs b).toArray→F' z=F z:=by
  classical
  exact⟨fun z=>if z=.agg (Pg.vs b).toArray then some (.int .i64 bl.length) else F z,by simp,fun z hz=>by simp[hz]⟩
 obtain⟨W',k1,k2,k3⟩:=hF.put zLG underlying233 hl F' g1 g2;refine⟨W',k1,⟨F',k2,fun c=>?_⟩,k3⟩;rw[zLC hn]
 by_cases e:c=b
 · subst e;rw[g1];simp
 rw[g2 _ fun e'=>e (zQ2 e'),hp c,Zj e]
theorem Pg.Pl.made (w:World) (pb:Nat):∃W',(Instr.mapUpdate 233 (.map (some w.heap.size)) (.agg (Pg.vs zAj).toArray) (.int .i64 0)).run prog (w.alloc (.map #[] 0))=.ok () W'∧Pg.Pl W' w.heap.size [zAj]∧(w.alloc (.map #[] 0)).grownBy W' (some w.heap.size):=by
 have h:Pg.Pl (w.alloc (.map #[] 0)) w.heap.size []:=⟨_,Mp.Is.made w prog 202,fun b=>rfl⟩;have hz:Pg.u16 zAj:=⟨List.length_replicate,fun x hx=>by unfold zAj at hx;have:=List.eq_of_mem_replicate hx;omega⟩;obtain⟨W',h1,h2,h3⟩:=h.put hz (by simp);exact⟨W',h1,h2,h3⟩
theorem Pg.Pl.lt {W:World} {pb:Nat} {bl:List (List Int)} (h:Pg.Pl W pb bl):pb<W.heap.size:=by
 obtain⟨F,hF,_⟩:=h;exact hF.lt
theorem Pg.Pl.grown {W W':World} {pb:Nat} {bl:List (List Int)} {row:Option Nat} (h:Pg.Pl W pb bl) (hg:W.grownBy W' row) (hne:some pb≠row):Pg.Pl W' pb bl:=by
 obtain⟨F,hF,hp⟩:=h;exact⟨F,hF.grown hg hne,hp⟩
theorem Pg.Pl.notAt {W:World} {pb g:Nat} {bl:List (List Int)} (h:Pg.Pl W pb bl) {t:TypeId} {cs:Array Value} {fr:Nat × Nat} (hg:W.heap[g]?=some (.cells cs t fr)):pb≠g:=by
 rintro rfl;obtain⟨F,⟨es,c,hh,_⟩,_⟩:=h;have:=hg.symm.trans hh;cases this
end
end Go.Proofs.YthngjlllojiacaaGreatDoor
