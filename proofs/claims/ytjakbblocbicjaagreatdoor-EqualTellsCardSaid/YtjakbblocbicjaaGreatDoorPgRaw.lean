/- The layer model: Check, by walking its text. -/
import Derived.Test.YtjakbblocbicjaaGreatDoorFaCh
set_option maxRecDepth 100000
set_option maxHeartbeats 4000000
set_option linter.unusedVariables false
set_option linter.unusedSimpArgs false
namespace Go.Proofs.YtjakbblocbicjaaGreatDoor
open Go.Proofs.Tryz
section
open Go.RowKit
theorem zCt (s:ByteArray) (w:World):Calls prog 157 #[.string s] w (zFR [(8,0,s)] w):=by
 have HA:=hy' (zOy 8 0 s w);rw[Zk (by decide)]at HA;go_enter func157,ntmps157;go_wp2_with fail;refine HA.o.mono ?_;rintro e w1 ⟨q,v,rfl,hl,hq,hb⟩;go_wp2;go_ret;exact⟨q,v,rfl,hl,hq,hb⟩
def zLS (k:Nat):List (Int × Int × ByteArray):=if k=0 then [] else [(8,0,zBe k)]
theorem zDI {k j:Nat} {W w w':World} {e:Ending} (hj:k=j) (h0:j≠0) (h:zFR [(8,0,zBe j)] W e w') (hb:Below w.heap.size w W):zFR (zLS k) w e w':=by
 subst hj;unfold zLS;rw[Zk h0];obtain⟨q,v,h1,h2,h3,h4⟩:=h;exact⟨q,v,h1,h2,h3,hb.trans (h4.mono hb.size)⟩
theorem zPd {k:Nat} {w w':World} (hk:k=0) (hb:Below w.heap.size w w'):zFR (zLS k) w (.returned .nilIface) w':=by
 subst hk;exact⟨[],.nilIface,rfl,rfl,rfl,hb⟩
theorem zDj {α:Type} {l:List α} {k:Nat} {x:α} (h:l[k]?=some x):l.drop k=x::l.drop (k+1):=by
 obtain⟨h1,rfl⟩:=List.getElem?_eq_some_iff.1 h;exact ZR h1
theorem zKJ {x:Int} (h1 : -2147483648≤x) (h2:x≤2147483647):(Lit.int .i32 x).wf=true:=by
 simp only[Lit.wf,Zw,Zn];exact⟨Yc (by decide) h1,Yc h2 (by decide)⟩
def zEv (x y:Int):Value:=.agg #[.int .i32 x,.int .i32 y]
theorem zQm {x y x' y':Int}:zEv x y=zEv x' y'↔x=x'∧y=y':=by simp[zEv]
theorem zJY:Go.WideMaps.ArrKey prog 245 21 2:=⟨underlying245,by kernel_rfl,by kernel_rfl,by kernel_rfl⟩
theorem zOz:Go.Maps.Keyed prog 245:=Jq zJY.law
theorem Md.pk_key {x y:Int} (hx : -2147483648≤x∧x≤2147483647) (hy : -2147483648≤y∧y≤2147483647):∃l,keyOf prog 245 (zEv x y)=some l:=by
 refine zLK zJY underlying21 ⟨388-1,by kernel_rfl⟩ [x,y] rfl fun z hz=>?_
 simp only[Xe,Z7,QT]at hz;rcases hz with rfl|rfl
 · exact zKJ hx.1 hx.2
 exact zKJ hy.1 hy.2
def Md.Seen (F:Value→Option Value) (seen:List (List Int)):Prop:=∀x y,(F (zEv x y)).isSome=seen.contains [x,y]
theorem Md.Seen.look {w:World} {b:Nat} {F:Value→Option Value} {seen:List (List Int)} (h:Mp.Is prog 245 w b F) (hs:Md.Seen F seen) {x y:Int} (hx : -2147483648≤x∧x≤2147483647) (hy : -2147483648≤y∧y≤2147483647) :
 ∃v,(Instr.lookup 243 (.map (some b)) (.agg #[.int .i32 x,.int .i32 y]) true).run prog w=.ok (.tuple #[v,.bool (seen.contains [x,y])]) w:=by
 obtain⟨l,hl⟩:=Md.pk_key hx hy;have hz:(zeroValue 21).run prog w=.ok (.int .i32 0) w:=by kernel_rfl
 have:=h.look zOz underlying243 hz hl true;rw[Zm rfl,hs x y]at this;exact⟨_,this⟩
theorem Md.Seen.put {w:World} {b:Nat} {F:Value→Option Value} {seen:List (List Int)} (h:Mp.Is prog 245 w b F) (hs:Md.Seen F seen) {x y:Int} (hx : -2147483648≤x∧x≤2147483647) (hy : -2147483648≤y∧y≤2147483647) (v:Value) :
 ∃w' F',(Instr.mapUpdate 243 (.map (some b)) (.agg #[.int .i32 x,.int .i32 y]) v).run prog w=.ok () w'∧Mp.Is prog 245 w' b F'∧Md.Seen F' (seen++[[x,y]])∧w.grownBy w' (some b):=by
 obtain⟨l,hl⟩:=Md.pk_key hx hy
 obtain⟨F',h1,h2⟩:∃F':Value→Option Value,F' (zEv x y)=some v∧∀z,z≠zEv x y→F' z=F z:=by
  classical
  exact⟨fun z=>if z=zEv x y then some v else F z,by simp,fun z hz=>by simp[hz]⟩
 obtain⟨w',g1,g2,g3⟩:=h.put zOz underlying243 hl F' h1 h2;refine⟨w',F',g1,g2,fun x' y'=>?_,g3⟩
 by_cases e:x'=x∧y'=y
 · obtain⟨rfl,rfl⟩:=e;rw[h1];simp
 rw[h2 _ (fun e'=>e (zQm.1 e')),hs x' y'];simp;intro e1 e2;exact absurd ⟨e1,e2⟩ e
theorem zKK {T:List Rw.Row} {X:Int→Bool} {seen:List (List Int)} {r:Rw.Row} {l:List Rw.Row} {a:Bool} (h:a=zBC T X seen (r::l)) :
 a=if zAc T X r=true then (seen.contains r.2.2||zBC T X (seen++[r.2.2]) l) else zBC T X seen l:=by rw[h,zBC]
theorem zLT (v:Value) (T:List Rw.Row) (S:List Int) (w:World) (dy:T.length≤1000000) (hbd:Md.bd T) (eg:∀r∈T,r.2.2.length≤1000000) (h:Md.Is w v T S) (hS:C.srt S) (e5:S.length≤1000000) :
 Calls prog 127 #[v] w (zFR (zLS (Md.chk T (C.mem S))) w):=by
 obtain⟨A,c,XA,xc,rfl,h2,hX⟩:=id h;obtain⟨xn,hxn⟩:∃k,S.length=k:=⟨_,rfl⟩;obtain⟨n,hn⟩:∃k,T.length=k:=⟨_,rfl⟩;have dl:=hy' h;rw[hn,hxn]at dl ⊢;obtain⟨res,bp⟩:∃k,Md.chk T (C.mem S)=k:=⟨_,rfl⟩;rw[bp];rw[hn]at dy;have ct:Below w.heap.size w (w.alloc (.cells #[.slice A n c,.slice XA xn xc] 87)):=(Zc _ _).alloc (Za _) _;have b9:Rw.At (w.alloc (.cells #[.slice A n c,.slice XA xn xc] 87)) w.heap.size 87 [.slice A n c,.slice XA xn xc]:=Rw.At.new w 87 [.slice A n c,.slice XA xn xc];obtain⟨wa,dm⟩:∃wa,w.alloc (.cells #[.slice A n c,.slice XA xn xc] 87)=wa:=⟨_,rfl⟩;rw[dm]at ct b9;have cf:=h2.below ct;have z0:=b9.cell 0 rfl;have z1:=b9.cell 1 rfl;have e2:=hy' dm;have ah:=hy' ct;have fp:=hy' b9;have bo:=hy' cf;have HN:=hy' hn;have fy:=hy' hxn;have ay:=hy' bp;have cv:=hy' hbd;have dw:=hy' eg;have fu:=hy' hS;clear dm ct b9 cf hn hxn bp hbd eg h h2 hX hS;unfold zAX at *;go_enter func127,ntmps127;go_upto_region 1 with (fail)
 rw[e2.o];go_wp2_with fail;go_loopw [3,20] (fun v3 i wr=>∃(k:Nat) (last:Int),k≤n∧i=.int .i64 k∧v3=.int .i32 last∧(-2147483648≤last∧last≤2147483647)∧zAw (-1) T=zAw last (T.drop k)∧Below wa.heap.size wa wr) (fun _ i _=>n-(intOf i).toNat)
 case atStart=>exact⟨0,-1,ZF _,rfl,rfl,by omega,rfl,Zc _ _⟩
 obtain⟨k,last,hk,rfl,rfl,cb,ag,aw⟩:=hrel;have aa:=fp.o.below aw;have z0:=aa.cell 0 rfl;have z1:=aa.cell 1 rfl;have cc:=hy' ag;have b8:=hy' aw;have c8:=hy' aa;clear ag aa
 by_cases hlt:k<n
 · obtain⟨r,hr⟩:∃r,T[k]?=some r:=⟨_,Zb (by rw[HN.o];exact hlt)⟩;have az:=Zj hr;have ag:=cv.o r az;obtain⟨b,o,a,b7,hb,c0,c1,c2,bm⟩:=(bo.o.below aw).row hr;have ak:Below wr.heap.size wr (wr.alloc (.cells #[.int .i32 r.1,.int .i64 r.2.1,.slice a.1 r.2.2.length a.2] 155)):=(Zc _ _).alloc (Za _) _;have bn:=hy' (Md.row_any r a.1 a.2 last (wr.alloc (.cells #[.int .i32 r.1,.int .i64 r.2.1,.slice a.1 r.2.2.length a.2] 155)) ag.1 cb ag.2 (dw.o r az) (bm.below ak ak.size));have af:=Rw.At.new wr 155 [.int .i32 r.1,.int .i64 r.2.1,.slice a.1 r.2.2.length a.2];have bz:=hy' af;have b6:=hy' (aw.trans (ak.mono aw.size));have hd:=zDj hr;have a8:=cc.o;rw[hd,zAw]at a8;have du:=zQ5 last r;obtain⟨bd,hbd⟩:∃k,zBS last r=k:=⟨_,rfl⟩;rw[hbd]at a8 bn du;have bb:=hy' a8;have e0:(k:Int)<n:=by omega
   have ea:(0:Int)≤k:=by omega
   subst b7;unfold zHU at bn;have cz:=ag.1.1;have dv:=ag.1.2;clear hr az ag bm ak af hd a8 hbd aw;go_wp2_with fail;refine bn.o.mono ?_;rintro e w1 ⟨rfl,dr⟩;have bl:=bz.o.below dr;obtain⟨y0,y1,y2,_,_,_⟩:=bl.three;have cu:=hy' (b6.o.trans (dr.mono b6.o.size));have e7:=bl.lt;clear dr c0 c1 c2 z0 z1;rcases bd with _|_|_|_|bd
   · have di:(zBe 0).toList.isEmpty=true:=by kernel_rfl
     have bk:zAw (-1) T=zAw r.1 (T.drop (k+1)):=by rw[bb.o];rfl
     have cn:=hy' bk;clear bk;go_wp2_with fail;exact⟨⟨k+1,r.1,by omega,by go_num,rfl,⟨cz,dv⟩,cn.o,cu.o⟩,by simp[intOf];omega⟩
   · have di:(zBe 1).toList.isEmpty=false:=by kernel_rfl
     have aj:res=1:=by rw[←ay.o];unfold Md.chk;rw[bb.o];rfl
     have a7:=hy' aj;clear aj;go_wp2_with fail;refine (zCt _ _).mono ?_;rintro e w2 ⟨q,v,rfl,g1,g2,g3⟩;go_wp2_with fail;go_ret;exact zDI a7.o (by decide) ⟨q,v,rfl,g1,g2,g3⟩ (ah.o.trans (cu.o.mono ah.o.size))
   · have di:(zBe 2).toList.isEmpty=false:=by kernel_rfl
     have aj:res=2:=by rw[←ay.o];unfold Md.chk;rw[bb.o];rfl
     have a7:=hy' aj;clear aj;go_wp2_with fail;refine (zCt _ _).mono ?_;rintro e w2 ⟨q,v,rfl,g1,g2,g3⟩;go_wp2_with fail;go_ret;exact zDI a7.o (by decide) ⟨q,v,rfl,g1,g2,g3⟩ (ah.o.trans (cu.o.mono ah.o.size))
   · have di:(zBe 3).toList.isEmpty=false:=by kernel_rfl
     have aj:res=3:=by rw[←ay.o];unfold Md.chk;rw[bb.o];rfl
     have a7:=hy' aj;clear aj;go_wp2_with fail;refine (zCt _ _).mono ?_;rintro e w2 ⟨q,v,rfl,g1,g2,g3⟩;go_wp2_with fail;go_ret;exact zDI a7.o (by decide) ⟨q,v,rfl,g1,g2,g3⟩ (ah.o.trans (cu.o.mono ah.o.size))
   omega
 obtain rfl:n=k:=by omega
 have hz:zAw (-1) T=0:=by
  rw[cc.o,XB (by rw[HN.o];exact Za _)];rfl
 obtain⟨b5,bc⟩:=zC7 T (-1) hz;have ei:Md.Ok T:=⟨by rw[HN.o];exact dy,bc,cv.o,dw.o⟩;have HZ:=hy' hz;have dz:=hy' ei;obtain⟨wb,rfl⟩:∃wb:World,wb=wr:=⟨_,rfl⟩;have ef:∀c,zBR (Md.mp T) (T.length+3) [] c=Md.full T c:=fun _=>rfl
 have e1:=hy' ef;clear hz b5 bc ei ef hlt;go_wp2_with fail;go_loopw [37] (fun i wr=>∃k:Nat,k≤n∧i=.int .i64 k∧(∀r∈T.take k,(Md.full T r.1).isSome=true)∧Below wb.heap.size wb wr) (fun i _=>n-(intOf i).toNat)
 case atStart=>exact⟨0,ZF _,rfl,fun r hr=>by simp at hr,Zc _ _⟩
 obtain⟨k,hk,rfl,a1,ap⟩:=hrel;have aa:=c8.o.below ap;have y0:=aa.cell 0 rfl;have y1:=aa.cell 1 rfl;have bs:=hy' a1;have bh:=b8.o.trans (ap.mono b8.o.size);have ae:=hy' bh;have bf:=hy' aa;have bj:=hy' ap;have e3:=aa.lt;clear a1 aa ap z0 z1
 by_cases hlt:k<n
 · obtain⟨r,hr⟩:∃r,T[k]?=some r:=⟨_,Zb (by rw[HN.o];exact hlt)⟩;have az:=Zj hr;have ag:=cv.o r az;obtain⟨b,o,a,b7,hb,c0,c1,c2,bm⟩:=(bo.o.below bh).row hr;have ak:Below wr.heap.size wr (wr.alloc (.cells #[.int .i32 r.1,.int .i64 r.2.1,.slice a.1 r.2.2.length a.2] 155)):=(Zc _ _).alloc (Za _) _;have b3:=ae.o.trans (ak.mono ae.o.size);have hE:=zGU T S (wr.alloc (.cells #[.int .i32 r.1,.int .i64 r.2.1,.slice a.1 r.2.2.length a.2] 155)) _ dz.o (dl.o.below (ah.o.trans (b3.mono ah.o.size))) (T.length+3) [] (.slice none 0 0) r.1 0 _ (by omega) ag.1.1 ag.1.2 (by simp) (Zc _ _) (ZE _ _ _ _);rw[e1.o]at hE;have cj:=hy' b3;have ep:=hy' (bj.o.trans (ak.mono bj.o.size));have af:=Rw.At.new wr 155 [.int .i32 r.1,.int .i64 r.2.1,.slice a.1 r.2.2.length a.2];obtain⟨x0,x1,x2,_,_,_⟩:=af.three;have e0:(k:Int)<n:=by omega
   have ea:(0:Int)≤k:=by omega
   obtain⟨fo,dp⟩:∃fo,Md.full T r.1=fo:=⟨_,rfl⟩;rw[dp]at hE;have ek:=hy' dp;have HR:=hy' hr;have fm:=hy' az;subst b7;clear hr az ag bm ak b3 af dp;go_wp2_with fail;refine hE.mono ?_;rintro e w2 ⟨A1,n1,fz,rfl,_,hg⟩;have ed:=ep.o.trans (zAf hg ep.o.size fun k hk=>by cases hk);have dc:=hy' ed;have ba:=hy' (cj.out.trans (zAf hg cj.out.size fun k hk=>by cases hk));clear ed hg hE x0 x1 x2 y0 y1 c0 c1 c2;rcases fo with _|fl
   · have aj:res=4:=by
      rw[←ay.o];unfold Md.chk
      have:zBi T=true:=by
       unfold zBi;rw[YJ];exact⟨r,fm.o,by rw[ek.o];rfl⟩
      rw[Zk (by rw[HZ.o];simp),Zm this]
     have a7:=hy' aj;clear aj;go_wp2_with fail;refine (zCt _ _).mono ?_;rintro e w3 ⟨q,v,rfl,g1,g2,g3⟩;go_wp2_with fail;go_ret;exact zDI a7.o (by decide) ⟨q,v,rfl,g1,g2,g3⟩ (ah.o.trans (ba.o.mono ah.o.size))
   have a1:∀r∈T.take (k+1),(Md.full T r.1).isSome=true:=by
    rw[ZA,HR.o];intro q hq;rcases List.mem_append.1 hq with hq|hq
    · exact bs.o q hq
    simp at hq;subst hq;rw[ek.o];rfl
   have ch:=hy' a1;clear a1;go_wp2_with fail;exact⟨⟨k+1,by omega,by go_num,ch.o,dc.o⟩,by simp[intOf];omega⟩
 obtain rfl:n=k:=by omega
 have eb:zBi T=false:=by
  unfold zBi;rw[XJ];intro r hr;have:=bs.o r (by rw[Zi (by rw[HN.o];exact Za _)];exact hr);cases hf:Md.full T r.1 with
  | none=>rw[hf]at this;cases this
  | some l=>simp
 have cm:res=if zBC T (C.mem S) [] T=true then 5 else 0:=by
  rw[←ay.o];unfold Md.chk;rw[Zk (by rw[HZ.o];simp),Zk (by rw[eb];simp)]
 have ew:=hy' cm;obtain⟨wz,rfl⟩:∃wz:World,wz=wr:=⟨_,rfl⟩;clear eb cm hlt bs;have gf:=@Jr prog;have a6:=Mp.Is.made wz prog 245;have cx:Below wz.heap.size wz (wz.alloc (.map #[] 0)):=(Zc _ _).alloc (Za _) _;have bq:=bf.o.alloc (.map #[] 0);have w0:=bq.cell 0 rfl;have w1:=bq.cell 1 rfl;obtain⟨wm,dh⟩:∃wm,wz.alloc (.map #[] 0)=wm:=⟨_,rfl⟩;rw[dh]at a6 cx w0 w1;have fc:=hy' dh;have cg:=hy' a6;have ft:=hy' cx;clear a6 cx bq dh;go_upto_region 18 with (fail)
 rw[fc.o];go_wp2_with fail;go_loopw [56] (fun i wr=>∃(k:Nat) (F:Value→Option Value),k≤n∧i=.int .i64 k∧zBC T (C.mem S) [] T=zBC T (C.mem S) (((T.take k).filter (zAc T (C.mem S))).map fun r=>r.2.2) (T.drop k)∧Mp.Is prog 245 wr wz.heap.size F∧Md.Seen F (((T.take k).filter (zAc T (C.mem S))).map fun r=>r.2.2)∧Below wz.heap.size wz wr) (fun i _=>n-(intOf i).toNat)
 case atStart=>exact⟨0,fun _=>none,ZF _,rfl,rfl,cg.o,fun x y=>rfl,ft.o⟩
 obtain⟨k,F,hk,rfl,b4,b1,bg,aq⟩:=hrel;have aa:=bf.o.below aq;have y0:=aa.cell 0 rfl;have y1:=aa.cell 1 rfl;have df:=hy' b4;have ck:=hy' b1;have av:=hy' bg;have bi:=ae.o.trans (aq.mono ae.o.size);have ar:=hy' aq;have ax:=hy' bi;have e6:=aa.lt;have fg:=b1.lt;clear b4 b1 bg aa aq w0 w1;obtain⟨seen,c6⟩:∃seen,(((T.take k).filter (zAc T (C.mem S))).map fun r=>r.2.2)=seen:=⟨_,rfl⟩;rw[c6]at df av;have fk:=hy' c6;clear c6
 by_cases hlt:k<n
 rotate_left
 · obtain rfl:n=k:=by omega
   have cm:res=0:=by
    rw[ew.o,df.o,XB (by rw[HN.o];exact Za _)];rfl
   have dn:=hy' cm;clear cm hlt;go_wp2_with fail;go_ret;exact zPd dn.o (ah.o.trans (ax.o.mono ah.o.size))
 obtain⟨r,hr⟩:∃r,T[k]?=some r:=⟨_,Zb (by rw[HN.o];exact hlt)⟩;have az:=Zj hr;have ag:=cv.o r az;obtain⟨b,o,a,b7,hb,c0,c1,c2,bm⟩:=(bo.o.below bi).row hr;have ak:Below wr.heap.size wr (wr.alloc (.cells #[.int .i32 r.1,.int .i64 r.2.1,.slice a.1 r.2.2.length a.2] 155)):=(Zc _ _).alloc (Za _) _;have b3:=ax.o.trans (ak.mono ax.o.size);have hC:=zIz _ T S r a.1 a.2 (wr.alloc (.cells #[.int .i32 r.1,.int .i64 r.2.1,.slice a.1 r.2.2.length a.2] 155)) dz.o (dl.o.below (ah.o.trans (b3.mono ah.o.size))) fu.o e5 ag.1 ag.2 (dw.o r az) (bm.below ak ak.size);have b6:=hy' ak;have af:=Rw.At.new wr 155 [.int .i32 r.1,.int .i64 r.2.1,.slice a.1 r.2.2.length a.2];obtain⟨x0,x1,x2,_,_,_⟩:=af.three;have bz:=hy' af;have e0:(k:Int)<n:=by omega
 have ea:(0:Int)≤k:=by omega
 have b4:=df.o;rw[zDj hr]at b4;have bu:=hy' (zKK b4)
 have et:(((T.take (k+1)).filter (zAc T (C.mem S))).map fun r=>r.2.2)=if zAc T (C.mem S) r=true then seen++[r.2.2] else seen:=by
  rw[ZA,hr,Yk,ZL,fk.o]
  by_cases hc:zAc T (C.mem S) r=true
  · simp[hc]
  simp[hc]
 have b2:=hy' et
 have eu:zAc T (C.mem S) r=true→∃x y,r.2.2=[x,y]:=by
  intro hc;unfold zAc at hc;simp only[Zw,Zn]at hc;have h2:=hc.2.1
  match hh:r.2.2,h2 with
  | [x,y],_=>exact⟨x,y,rfl⟩
 have ec:=hy' eu;obtain⟨cr,eh⟩:∃cr,zAc T (C.mem S) r=cr:=⟨_,rfl⟩;rw[eh]at hC bu b2 ec;have cc:=hy' ag;have fj:=hy' bm;subst b7;unfold zHU at hC;clear hr az ag bm ak b3 af b4 et eu eh;go_wp2_with fail;refine hC.mono ?_;rintro e w2 ⟨rfl,c7⟩;have cq:=b6.o.trans (c7.mono b6.o.size);have ba:=hy' cq;have au:=bz.o.below c7;obtain⟨x0,x1,x2,_,_,_⟩:=au.three;have eo:=hy' au;have fq:=au.lt;clear c7 cq au hC y0 y1 c0 c1 c2;cases cr
 · have bt:=bu.o;rw[Zk (by decide)]at bt;have bw:=b2.o;rw[Zk (by decide)]at bw;have fh:=hy' bt;have ej:=hy' bw;clear bt bw;go_wp2_with fail;exact⟨⟨k+1,F,by omega,by go_num,by rw[ej.o];exact fh.o,ck.o.below ba.o,by rw[ej.o];exact av.o,ar.o.trans (ba.o.mono ar.o.size)⟩,by simp[intOf];omega⟩
 obtain⟨x,y,bx⟩:=ec.o rfl;have hlen:r.2.2.length=2:=by rw[bx];rfl
 have hxb:=cc.o.2 x (by rw[bx];simp);have ez:=cc.o.2 y (by rw[bx];simp);have br:=fj.o.below ba.o ba.o.size;rw[bx]at br;obtain⟨ab,ao,hA2,fx,dx⟩:=br (by simp);have d0:w2.cell? ⟨ab,ao,none⟩=some (.int .i32 x):=by simpa using dx 0 (by simp)
 have d1:w2.cell? ⟨ab,ao+1,none⟩=some (.int .i32 y):=by simpa using dx 1 (by simp)
 rw[hA2,hlen]at x2;rw[bx]at bu b2;rw[Zm rfl]at bu b2;have gb:=hy' bx;clear dx br bx;have fe:∀(A:Option Addr) (cp:Nat) (W:World),(Instr.arrayAt 245 (.slice A 2 cp)).run prog W=.ok (.pointer A) W:=fun _ _ _=>by kernel_rfl
 have dk:Below w2.heap.size w2 (w2.alloc (.cells #[.int .i32 x,.int .i32 y] 245)):=(Zc _ _).alloc (Za _) _;have hmx:=(ck.o.below ba.o).below dk;obtain⟨lv,e8⟩:=Md.Seen.look hmx av.o hxb ez;obtain⟨w4,F',cy,ey,en,ee⟩:=Md.Seen.put hmx av.o hxb ez (.int .i32 r.1);have cw:Below wz.heap.size wz (w2.alloc (.cells #[.int .i32 x,.int .i32 y] 245)):=ar.o.trans ((ba.o.trans (dk.mono ba.o.size)).mono ar.o.size);have dc:=hy' (cw.trans (zAf ee cw.size fun k hk=>by cases hk;exact Za _));have e9:=hy' cw;have fw:=hy' ey;have e4:=hy' en;obtain⟨tw,cd⟩:∃tw,seen.contains [x,y]=tw:=⟨_,rfl⟩;rw[cd]at e8 bu;clear dk hmx ey en ee cw cd;cases tw
 · have ai:=bu.o;rw[Y5]at ai;have dt:=hy' ai;clear ai;go_wp2_with fail;exact⟨⟨k+1,F',by omega,by go_num,by rw[b2.o];exact dt.o,fw.o,by rw[b2.o];exact e4.o,dc.o⟩,by simp[intOf];omega⟩
 have ai:=bu.o;rw[Xp]at ai;have aj:res=5:=by rw[ew.o,Zm ai]
 have a7:=hy' aj;clear ai aj cy;go_wp2_with fail;refine (zCt _ _).mono ?_;rintro e w3 ⟨q,v,rfl,g1,g2,g3⟩;go_wp2_with fail;go_ret;exact zDI a7.o (by decide) ⟨q,v,rfl,g1,g2,g3⟩ (ah.o.trans ((ae.o.trans (e9.o.mono ae.o.size)).mono ah.o.size))
end
def Pg.ok (c:Int):Bool:=decide (0≤c∧c≤1114111)
theorem zEE (L:List (Int × Int)) (x:Int × Int) (c:Int):Pg.last (L++[x]) c=if x.1=c then x.2 else Pg.last L c:=by
 unfold Pg.last;rw[Y6];rfl
theorem zNl (L:List (Int × Int)) (x:Int × Int) (h:Pg.ok x.1=false) {m:Nat} (hm:m<4352):zA9 (Pg.last (L++[x])) m=zA9 (Pg.last L) m:=by
 unfold zA9;refine YU fun i hi=>?_
 have hi:=List.mem_range.1 hi;rw[zEE,Zk];intro e;unfold Pg.ok at h;rw[ZX]at h;omega
theorem zLU (L:List (Int × Int)) (x:Int × Int) {m n:Nat} (hn:x.1/256=(n:Int)) (hne:m≠n):zA9 (Pg.last (L++[x])) m=zA9 (Pg.last L) m:=by
 unfold zA9;refine YU fun i hi=>?_
 have hi:=List.mem_range.1 hi;rw[zEE,Zk];intro e;omega
theorem zPe (L:List (Int × Int)) (x:Int × Int) {n j:Nat} (hn:x.1/256=(n:Int)) (hj:x.1%256=(j:Int)):zA9 (Pg.last (L++[x])) n=(zA9 (Pg.last L) n).set j x.2:=by
 refine XK fun i=>?_
 rw[Qd,zBj]
 by_cases hi:i<256
 · rw[zGN _ _ hi,zGN _ _ hi,zEE]
   by_cases e:j=i
   · subst e;rw[Zm (by omega),Zm rfl,Zm hi]
   rw[Zk (by omega),Zk e]
 rw[Ys (by rw[zBj];omega)];split
 · rw[Zk (by omega)]
 rw[Ys (by rw[zBj];omega)]
theorem zIA (n:Nat):zA9 (Pg.last []) n=zAj:=by
 unfold zA9 zAj;refine XK fun i=>?_
 by_cases hi:i<256
 · rw[Zo,XU hi,QW,Zm hi];rfl
 rw[Ys (by rw[Ze,JZ];omega),Ys (by rw[Ql];omega)]
def zCB (bl:List (List Int)) (b:List Int):Option Nat:=if b∈bl then some (Pg.at bl b) else none
theorem zLV {bl:List (List Int)} {b:List Int} (h:b∉bl) (x:List Int):zCB (Pg.add bl b) x=if x=b then some bl.length else zCB bl x:=by
 unfold zCB
 by_cases hx:x=b
 · subst hx;rw[Zm (zF9.2 (.inr rfl)),Zm rfl];unfold Pg.add Pg.at;rw[Zk h,JX,Zk h];simp
 rw[Zk hx]
 by_cases hm:x∈bl
 · rw[Zm (zF9.2 (.inl hm)),Zm hm,zLI hm]
 rw[Zk fun h'=>(zF9.1 h').elim hm hx,Zk hm]
theorem zHm {bl:List (List Int)} {b:List Int} (h:b∈bl):Pg.add bl b=bl:=Zm h
theorem zPf {bl:List (List Int)} {b:List Int} (h:b∉bl):Pg.add bl b=bl++[b]:=Zk h
theorem zLW (f:Int→Int) (m:Nat):zAj∈zAm f m:=(zDB f m _).2 (.inl rfl)
theorem zNm (f:Int→Int) (m:Nat):Pg.at (zAm f m) zAj=0:=by
 have h:=zIr f m
 obtain⟨l,hl⟩:∃l,zAm f m=zAj::l:=by
  cases hb:zAm f m with
  | nil=>rw[hb]at h;cases h
  | cons y l=>rw[hb]at h;simp at h;exact⟨l,by rw[h]⟩
 rw[hl];unfold Pg.at;simp
def zAL (f:Int→Int) (m:Nat):List Int:=Pg.idx f m++List.replicate (4352-m) 0
theorem zAM (f:Int→Int) {m:Nat} (h:m≤4352):(zAL f m).length=4352:=by
 unfold zAL;rw[Zd,zCe,Ql];omega
theorem zNn (f:Int→Int):zAL f 4352=Pg.idx f 4352:=by unfold zAL;simp
theorem zIB (f:Int→Int) {m:Nat} (h:m<4352):zAL f (m+1)=(zAL f m).set m (Pg.at (zAm f (m+1)) (zA9 f m):Int):=by
 unfold zAL;rw[zN5,show 4352-m=(4352-(m+1))+1 by omega,List.replicate_succ,ZD,Yz _ _ (by rw[zCe];exact Za _),zCe,Ym];rfl
theorem zLX (f:Int→Int) {m:Nat} (h:m<4352) (hb:zA9 f m=zAj):zAm f (m+1)=zAm f m∧zAL f (m+1)=zAL f m:=by
 have h1:zAm f (m+1)=zAm f m:=by rw[zAm,hb,zHm (zLW f m)]
 refine⟨h1,?_⟩;rw[zIB f h,h1,hb,zNm];refine XK fun i=>?_
 rw[Qd]
 by_cases e:m=i
 · subst e;rw[Zm rfl,Zm (by rw[zAM f (by omega)];exact h)];unfold zAL;rw[ZH (by rw[zCe];exact Za _),zCe,Ym,QW,Zm (by omega)];rfl
 rw[Zk e]
section
open Go.RowKit
theorem zNo {P:Program} (w:World) (t:TypeId) (d:TypeDesc) (b o n:Nat) (xs:List Value) (hx:xs.length=n) (hc:∀(j:Nat) v,xs[j]?=some v→w.cell? ⟨b,o+j,none⟩=some v)
 (hu:P.underlying t=some d) (hd:(match d with | .struct _ | .array _ _=>true|_=>false)=true) (hi:(P.info? t).map (·.size)=some n) :
 (Instr.loadAt t (.pointer (some ⟨b,o,none⟩))).run P w=.ok (.agg xs.toArray) w:=by
 have hl:(loadCells ⟨b,o,none⟩ xs.length).run P w=.ok xs.toArray w :=
  run_loadCells_list (P:=P) w ⟨b,o,none⟩ xs (fun j v hv=>by
   have aa:(⟨b,o,none⟩:Addr).add j=⟨b,o+j,none⟩:=by unfold Addr.add;split <;> simp_all
   rw[aa];exact hc j v hv)
 subst hx;have ae:(isAgg t).run P w=.ok true w:=by cases d <;> simp at hd <;> simp[isAgg,Xl hu]
 simp only[Instr.loadAt,Instr.sureAddr,YG,Yv,Result.andThen];cases hq:P.info? t with
 | none=>simp[hq]at hi
 | some i =>
   have hs:i.size=xs.length:=by simp[hq]at hi;omega
   simp[loadVar,YG,ae,sizeOf,typeInfo,hq,hs,hl]
theorem zPg {P:Program} {o:Oper} {a:Act} {w:World} {K:Act→World→Prop} {Q:Exit→Act→World→Prop} (t:TypeId) (x:Operand) (ho:o.op=.load t x) (v u:Value) (hx:a.eval x=v)
 (hr:(Instr.loadAt t v).run P w=.ok u w) (h:K (a.put o.dst u) w):o.wp P a w K Q:=by
 unfold Oper.wp execOp;subst hx;simp only[ho,YG,hr,Yw,Yv];exact h
theorem zFz {P:Program} {ops:Array Oper} {rest:List Oper} {o:Oper} {a:Act} {w:World} {Q:Exit→Act→World→Prop} (aa:o.guard=none) (t:TypeId) (x:Operand) (ho:o.op=.load t x) (v u:Value) (hx:a.eval x=v)
 (hr:(Instr.loadAt t v).run P w=.ok u w) (h:wpList P ops Q rest (a.put o.dst u) w):wpList P ops Q (o::rest) a w :=
 Q4 aa fun _ hK=>zPg t x ho v u hx hr (hK _ _ h)
theorem zPh:(prog.info? 174).map (·.size)=some 256:=by kernel_rfl
theorem zRf:(prog.info? 206).map (fun i=>(i.zero,i.size,i.bytes))=some (some (.agg #[.int .i32 0,.int .u16 0]),2,8):=by kernel_rfl
def zGW (L:List (Int × Int)):Prop:=∀x∈L,-2147483648≤x.1∧x.1≤2147483647∧0≤x.2∧x.2≤65535
def Pg.IsL (lo:Nat) (w:World) (v:Value) (idx:List Int) (bl:List (List Int)):Prop :=
 ∃g A c,v=.pointer (some ⟨g,0,none⟩)∧lo≤g∧Rw.At w g 178 (idx.map (Value.int .u16)++[.slice A bl.length c])∧Sl w w.heap.size A (bl.flatten.map (Value.int .u16))∧∀a,A=some a→lo≤a.block
theorem Pg.IsL.is {lo:Nat} {w:World} {v:Value} {idx:List Int} {bl:List (List Int)} (h:Pg.IsL lo w v idx bl):Pg.Is w v idx bl:=by
 obtain⟨g,A,c,h1,_,h2,h3,_⟩:=h;exact⟨g,A,c,h1,h2,h3⟩
theorem Pg.IsL.grown {lo b:Nat} {w w':World} {v:Value} {idx:List Int} {bl:List (List Int)} (h:Pg.IsL lo w v idx bl) (hg:w.grownBy w' (some b)) (hb:b<lo):Pg.IsL lo w' v idx bl:=by
 obtain⟨g,A,c,h1,h0,h2,h3,h4⟩:=h;refine⟨g,A,c,h1,h0,h2.grown hg (by simp;omega),fun hx=>?_,h4⟩;obtain⟨q,o,hA,hq,hc⟩:=h3 hx;have aa:=h4 _ hA;refine⟨q,o,hA,Zf hq hg.size,fun i hi=>?_⟩;rw[←hc i hi];have hk:=hg.block q hq (by simp;dsimp only at aa;omega);simp[World.cell?,hk]
def zSA (lo:Nat) (w:World) (v:Value) (f:Int→Int):Prop:=Pg.IsL lo w v (Pg.idx f 4352) (zAm f 4352)
theorem zFg:Go.Maps.Keyed prog 21:=Go.Maps.int_keyed underlying21
theorem Pg.key32 {n:Nat} (h:n<4352):keyOf prog 21 (.int .i32 n)=some (.int .i32 n):=Go.Maps.keyOf_int_mk underlying21 (by simp only[Lit.wf,Zw,Zn];exact⟨Yc (by decide:_≤(0:Int)) (by omega),Yc (by omega:(n:Int)≤4352) (by decide)⟩)
def zSB (g:Option Nat):Value:=.pointer (g.map fun g=>⟨g,0,none⟩)
def Pg.vs (b:List Int):List Value:=b.map (Value.int .u16)
def Pg.St (lo hi:Nat) (W:World) (mb:Nat) (f:Int→Int) (G:Nat→Option Nat):Prop :=
 (∃F,Mp.Is prog 21 W mb F∧∀n:Nat,n<4352→F (.int .i32 n)=(G n).map fun g=>.pointer (some ⟨g,0,none⟩)) ∧
 (∀n,n<4352→G n=none→zA9 f n=zAj)∧(∀n g,n<4352→G n=some g→lo≤g∧g<hi∧Rw.At W g 174 (Pg.vs (zA9 f n))) ∧
 (∀n n' g,n<4352→n'<4352→G n=some g→G n'=some g→n=n')
section
variable {lo hi:Nat} {W W':World} {mb:Nat} {f f':Int→Int} {G:Nat→Option Nat}
theorem Pg.St.made (w:World) (lo hi:Nat):Pg.St lo hi (w.alloc (.map #[] 0)) w.heap.size (Pg.last []) fun _=>none :=
 ⟨⟨_,Mp.Is.made w prog 21,fun _ _=>rfl⟩,fun n _ _=>zIA n,fun _ _ _ h=>(nomatch h),fun _ _ _ _ _ h=>(nomatch h)⟩
theorem Pg.St.lt (h:Pg.St lo hi W mb f G):mb<W.heap.size:=by
 obtain⟨⟨F,hF,_⟩,_⟩:=h;exact hF.lt
theorem Pg.St.below {B:Nat} (h:Pg.St lo hi W mb f G) (hb:Below B W W') (h1:mb<B) (h2:hi≤B):Pg.St lo hi W' mb f G:=by
 obtain⟨⟨F,⟨es,c,hh,r⟩,hF⟩,h3,h4,h5⟩:=h;exact⟨⟨F,⟨es,c,(hb.block mb h1).trans hh,r⟩,hF⟩,h3,fun n g hn hg=>⟨(h4 n g hn hg).1,(h4 n g hn hg).2.1,(h4 n g hn hg).2.2.below' hb (by have:=(h4 n g hn hg).2.1;omega)⟩,h5⟩
theorem Pg.St.more {hi':Nat} (h:Pg.St lo hi W mb f G) (hh:hi≤hi'):Pg.St lo hi' W mb f G :=
 ⟨h.1,h.2.1,fun n g hn hg=>⟨(h.2.2.1 n g hn hg).1,Zf (h.2.2.1 n g hn hg).2.1 hh,(h.2.2.1 n g hn hg).2.2⟩,h.2.2.2⟩
theorem Pg.St.turn (h:Pg.St lo hi W mb f G) (hf:∀n,n<4352→zA9 f' n=zA9 f n):Pg.St lo hi W mb f' G :=
 ⟨h.1,fun n hn hg=>by rw[hf n hn];exact h.2.1 n hn hg,fun n g hn hg=>by rw[hf n hn];exact h.2.2.1 n g hn hg,h.2.2.2⟩
theorem Pg.St.look (h:Pg.St lo hi W mb f G) {n:Nat} (hn:n<4352):(Instr.lookup 248 (.map (some mb)) (.int .i32 n) false).run prog W=.ok (zSB (G n)) W:=by
 obtain⟨⟨F,hF,hG⟩,_⟩:=h;have hz:(zeroValue 249).run prog W=.ok (.pointer none) W:=by kernel_rfl
 have:=hF.look zFg underlying248 hz (Pg.key32 hn) false;rw[hG n hn]at this;rw[this];cases G n <;> rfl
theorem Pg.St.put (h:Pg.St lo hi W mb f G) {n:Nat} (hn:n<4352) (hg:G n=none) (af:lo≤W.heap.size) (ah:hi≤W.heap.size) :
 ∃W' G',(Instr.mapUpdate 248 (.map (some mb)) (.int .i32 n) (.pointer (some ⟨W.heap.size,0,none⟩))).run prog (W.alloc (.cells (Pg.vs zAj).toArray 174))=.ok () W' ∧
  Pg.St lo W'.heap.size W' mb f G'∧G' n=some W.heap.size∧(W.alloc (.cells (Pg.vs zAj).toArray 174)).grownBy W' (some mb):=by
 have hmb:=h.lt;obtain⟨⟨F,hF,hG⟩,h2,h3,h4⟩:=h;have aa:Mp.Is prog 21 (W.alloc (.cells (Pg.vs zAj).toArray 174)) mb F:=hF.below ((Zc _ _).alloc (Za _) _)
 obtain⟨F',g1,g2⟩:∃F':Value→Option Value,F' (.int .i32 n)=some (.pointer (some ⟨W.heap.size,0,none⟩))∧∀z,z≠.int .i32 n→F' z=F z:=by
  classical
  exact⟨fun z=>if z=.int .i32 n then some (.pointer (some ⟨W.heap.size,0,none⟩)) else F z,by simp,fun z hz=>by simp[hz]⟩
 obtain⟨W',k1,k2,k3⟩:=aa.put zFg underlying248 (Pg.key32 hn) F' g1 g2;have ag:W.heap.size+1≤W'.heap.size:=by have:=k3.size;simpa using this
 refine⟨W',fun k=>if k=n then some W.heap.size else G k,k1,⟨⟨F',k2,fun k hk=>?_⟩,fun k hk=>?_,fun k g hk=>?_,fun k k' g hk ae=>?_⟩,by simp,k3⟩
 · by_cases e:k=n
   · subst e;rw[g1];simp
   rw[g2 _ (by simp;omega),hG k hk];simp[e]
 · by_cases e:k=n
   · subst e;simp
   simp only[Zk e];exact h2 k hk
 · have hne:∀q cs,Rw.At (W.alloc (.cells (Pg.vs zAj).toArray 174)) q 174 cs→Rw.At W' q 174 cs:=fun q cs hq=>hq.grown k3 (by
    intro e;cases e
    obtain⟨es,c,hh,_⟩:=aa;have:=hq.symm.trans hh;cases this)
   by_cases e:k=n
   · subst e;simp only[Yy,Zg];rintro rfl;refine⟨af,by omega,hne _ _ ?_⟩;rw[h2 _ hk hg];exact Rw.At.new W 174 (Pg.vs zAj)
   simp only[Zk e];intro he;obtain⟨a1,a2,a3⟩:=h3 k g hk he;exact⟨a1,by omega,hne _ _ (a3.alloc _)⟩
 by_cases e:k=n
 · by_cases e':k'=n
   · intros;omega
   simp only[Zm e,Zk e',Zg];rintro rfl h6;have:=(h3 k' _ ae h6).2.1;omega
 by_cases e':k'=n
 · simp only[Zm e',Zk e,Zg];rintro h6 rfl;have:=(h3 k _ hk h6).2.1;omega
 simp only[Zk e,Zk e'];exact h4 k k' g hk ae
theorem Pg.St.store (h:Pg.St lo hi W mb f G) {n g j:Nat} (hn:n<4352) (hg:G n=some g) (v:Int) (h1:zA9 f' n=(zA9 f n).set j v) (h2:∀k,k≠n→zA9 f' k=zA9 f k) :
 Pg.St lo hi (W.setCell ⟨g,j,none⟩ (.int .u16 v)) mb f' G:=by
 obtain⟨⟨F,⟨es,c,hh,r⟩,hG⟩,i2,i3,i4⟩:=h;obtain⟨a1,a2,a3⟩:=i3 n g hn hg
 have hne:mb≠g:=by
  rintro rfl;have:=a3.symm.trans hh;cases this
 refine⟨⟨F,⟨es,c,(Yq _ _ _ mb hne).trans hh,r⟩,hG⟩,fun k hk aa=>?_,fun k q hk hq=>?_,i4⟩
 · have:k≠n:=by rintro rfl;rw[hg]at aa;cases aa
   rw[h2 k this];exact i2 k hk aa
 obtain⟨b1,b2,b3⟩:=i3 k q hk hq
 by_cases e:k=n
 · subst e;rw[hg]at hq;cases hq
   refine⟨b1,b2,?_⟩;rw[h1];have:=a3.set j (.int .u16 v);rw[show Pg.vs ((zA9 f k).set j v)=(Pg.vs (zA9 f k)).set j (.int .u16 v) by unfold Pg.vs;rw[List.map_set]];exact this
 refine⟨b1,b2,?_⟩;rw[h2 k e]
 exact b3.other (by
  rintro rfl;exact e (i4 k n q hk hn hq hg)) _
theorem Pg.St.at (h:Pg.St lo hi W mb f G) {n g:Nat} (hn:n<4352) (hg:G n=some g):lo≤g∧g<hi∧Rw.At W g 174 (Pg.vs (zA9 f n)):=h.2.2.1 n g hn hg
theorem Pg.St.none (h:Pg.St lo hi W mb f G) {n:Nat} (hn:n<4352) (hg:G n=Option.none):zA9 f n=zAj:=h.2.1 n hn hg
end
theorem Pg.At.load {w:World} {g:Nat} {b:List Int} (h:Rw.At w g 174 (Pg.vs b)) (hb:b.length=256):(Instr.loadAt 174 (.pointer (some ⟨g,0,none⟩))).run prog w=.ok (.agg (Pg.vs b).toArray) w :=
 zNo w _ _ g 0 256 _ (by unfold Pg.vs;rw[List.length_map,hb]) (fun j u hu=>by rw[Nat.zero_add];exact h.cell j hu) underlying174 rfl zPh
theorem zLY:Go.WideMaps.ArrKey prog 174 130 256:=⟨underlying174,by kernel_rfl,by kernel_rfl,by kernel_rfl⟩
theorem zLZ:Go.Maps.Keyed prog 174:=Jq zLY.law
def Pg.u16 (b:List Int):Prop:=b.length=256∧∀x∈b,0≤x∧x≤65535
theorem zM0 {b:List Int} (h:Pg.u16 b):∃l,keyOf prog 174 (.agg (Pg.vs b).toArray)=some l :=
 zLK zLY underlying130 ⟨388-1,by kernel_rfl⟩ b h.1 fun x hx=>by
  obtain⟨h1,h2⟩:=h.2 x hx;simp only[Lit.wf,Zw,Zn];exact⟨Yc (by decide:_≤(0:Int)) h1,Yc h2 (by decide)⟩
theorem zQn {a b:List Int} (h:Value.agg (Pg.vs a).toArray=.agg (Pg.vs b).toArray):a=b:=by
 simp only[XF]at h;have h:Pg.vs a=Pg.vs b:=by simpa using congrArg Array.toList h
 unfold Pg.vs at h;exact (List.map_inj_right fun x y e=>by simpa using e).1 h
theorem zNp {L:List (Int × Int)} (h:∀x∈L,0≤x.2∧x.2≤65535) (c:Int):0≤Pg.last L c∧Pg.last L c≤65535:=by
 unfold Pg.last
 suffices ∀(L:List (Int × Int)) (a:Int),(∀x∈L,0≤x.2∧x.2≤65535)→0≤a∧a≤65535→0≤L.foldl (fun a x=>if x.1=c then x.2 else a) a∧L.foldl (fun a x=>if x.1=c then x.2 else a) a≤65535 from this L 0 h (by decide)
 intro L
 induction L with
 | nil=>intro a _ ha;exact ha
 | cons x l ih =>
   intro a hl ha;refine ih _ (fun y hy=>hl y (Zy _ hy)) ?_
   by_cases e:x.1=c
   · simp only[Zm e];exact hl x Zu
   simp only[Zk e];exact ha
theorem zPi {L:List (Int × Int)} (h:∀x∈L,0≤x.2∧x.2≤65535) (m:Nat):Pg.u16 (zA9 (Pg.last L) m):=by
 refine⟨zBj _ _,fun x hx=>?_⟩;unfold zA9 at hx;obtain⟨i,_,rfl⟩:=List.mem_map.1 hx;exact zNp h _
def Pg.Pl (W:World) (pb:Nat) (bl:List (List Int)):Prop :=
 ∃F,Mp.Is prog 174 W pb F∧∀b:List Int,F (.agg (Pg.vs b).toArray)=(zCB bl b).map fun k=>.int .i64 k
theorem Pg.Pl.look {W:World} {pb:Nat} {bl:List (List Int)} (h:Pg.Pl W pb bl) {b:List Int} (hb:Pg.u16 b) :
 (Instr.lookup 250 (.map (some pb)) (.agg (Pg.vs b).toArray) true).run prog W=.ok (.tuple #[.int .i64 ((zCB bl b).getD 0:Nat),.bool (zCB bl b).isSome]) W:=by
 obtain⟨F,hF,hp⟩:=h;obtain⟨l,hl⟩:=zM0 hb;have hz:(zeroValue 3).run prog W=.ok (.int .i64 0) W:=by kernel_rfl
 have:=hF.look zLZ underlying250 hz hl true;rw[Zm rfl,hp b]at this;rw[this];cases zCB bl b <;> rfl
theorem Pg.Pl.put {W:World} {pb:Nat} {bl:List (List Int)} (h:Pg.Pl W pb bl) {b:List Int} (hb:Pg.u16 b) (hn:b∉bl) :
 ∃W',(Instr.mapUpdate 250 (.map (some pb)) (.agg (Pg.vs b).toArray) (.int .i64 bl.length)).run prog W=.ok () W'∧Pg.Pl W' pb (Pg.add bl b)∧W.grownBy W' (some pb):=by
 obtain⟨F,hF,hp⟩:=h;obtain⟨l,hl⟩:=zM0 hb
 obtain⟨F',g1,g2⟩:∃F':Value→Option Value,F' (.agg (Pg.vs b).toArray)=some (.int .i64 bl.length)∧∀z,z≠.agg (Pg.vs b).toArray→F' z=F z:=by
  classical
  exact⟨fun z=>if z=.agg (Pg.vs b).toArray then some (.int .i64 bl.length) else F z,by simp,fun z hz=>by simp[hz]⟩
 obtain⟨W',k1,k2,k3⟩:=hF.put zLZ underlying250 hl F' g1 g2;refine⟨W',k1,⟨F',k2,fun c=>?_⟩,k3⟩;rw[zLV hn]
 by_cases e:c=b
 · subst e;rw[g1];simp
 rw[g2 _ fun e'=>e (zQn e'),hp c,Zk e]
theorem Pg.Pl.made (w:World) (pb:Nat):∃W',(Instr.mapUpdate 250 (.map (some w.heap.size)) (.agg (Pg.vs zAj).toArray) (.int .i64 0)).run prog (w.alloc (.map #[] 0))=.ok () W'∧Pg.Pl W' w.heap.size [zAj]∧(w.alloc (.map #[] 0)).grownBy W' (some w.heap.size):=by
 have h:Pg.Pl (w.alloc (.map #[] 0)) w.heap.size []:=⟨_,Mp.Is.made w prog 174,fun b=>rfl⟩;have hz:Pg.u16 zAj:=⟨List.length_replicate,fun x hx=>by unfold zAj at hx;have:=List.eq_of_mem_replicate hx;omega⟩;obtain⟨W',h1,h2,h3⟩:=h.put hz (by simp);exact⟨W',h1,h2,h3⟩
theorem Pg.Pl.lt {W:World} {pb:Nat} {bl:List (List Int)} (h:Pg.Pl W pb bl):pb<W.heap.size:=by
 obtain⟨F,hF,_⟩:=h;exact hF.lt
theorem Pg.Pl.grown {W W':World} {pb:Nat} {bl:List (List Int)} {row:Option Nat} (h:Pg.Pl W pb bl) (hg:W.grownBy W' row) (hne:some pb≠row):Pg.Pl W' pb bl:=by
 obtain⟨F,hF,hp⟩:=h;exact⟨F,hF.grown hg hne,hp⟩
theorem Pg.Pl.notAt {W:World} {pb g:Nat} {bl:List (List Int)} (h:Pg.Pl W pb bl) {t:TypeId} {cs:Array Value} {fr:Nat × Nat} (hg:W.heap[g]?=some (.cells cs t fr)):pb≠g:=by
 rintro rfl;obtain⟨F,⟨es,c,hh,_⟩,_⟩:=h;have:=hg.symm.trans hh;cases this
end
end Go.Proofs.YtjakbblocbicjaaGreatDoor
