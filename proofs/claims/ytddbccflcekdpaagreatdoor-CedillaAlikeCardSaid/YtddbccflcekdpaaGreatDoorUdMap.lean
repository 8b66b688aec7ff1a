/- The layer model: Check, by walking its text. -/
import Derived.Test.YtddbccflcekdpaaGreatDoorFaCh
import Derived.DeepKeys4
set_option maxRecDepth 100000
set_option maxHeartbeats 4000000
set_option linter.unusedVariables false
set_option linter.unusedSimpArgs false
namespace Go.Proofs.YtddbccflcekdpaaGreatDoor
open Go.Proofs.Tryz
section
open Go.RowKit
theorem zCD (s:ByteArray) (w:World):Calls prog 155 #[.string s] w (zFS [(8,0,s)] w):=by
 have HA:=hy' (zOB 8 0 s w);rw[Zl (by decide)]at HA;go_enter func155,ntmps155;go_wp2_with fail;refine HA.o.mono ?_;rintro e w1 ⟨q,v,rfl,hl,hq,hb⟩;go_wp2;go_ret;exact⟨q,v,rfl,hl,hq,hb⟩
def zM0 (k:Nat):List (Int × Int × ByteArray):=if k=0 then [] else [(8,0,zBf k)]
theorem zDS {k j:Nat} {W w w':World} {e:Ending} (hj:k=j) (h0:j≠0) (h:zFS [(8,0,zBf j)] W e w') (hb:Below w.heap.size w W):zFS (zM0 k) w e w':=by
 subst hj;unfold zM0;rw[Zl h0];obtain⟨q,v,h1,h2,h3,h4⟩:=h;exact⟨q,v,h1,h2,h3,hb.trans (h4.mono hb.size)⟩
theorem zPc {k:Nat} {w w':World} (hk:k=0) (hb:Below w.heap.size w w'):zFS (zM0 k) w (.returned .nilIface) w':=by
 subst hk;exact⟨[],.nilIface,rfl,rfl,rfl,hb⟩
theorem zDu {α:Type} {l:List α} {k:Nat} {x:α} (h:l[k]?=some x):l.drop k=x::l.drop (k+1):=by
 obtain⟨h1,rfl⟩:=List.getElem?_eq_some_iff.1 h;exact ZM h1
theorem zKS {x:Int} (h1 : -2147483648≤x) (h2:x≤2147483647):(Lit.int .i32 x).wf=true:=by
 simp only[Lit.wf,Zy,Zp];exact⟨Yf (by decide) h1,Yf h2 (by decide)⟩
def zEG (x y:Int):Value:=.agg #[.int .i32 x,.int .i32 y]
theorem zQm {x y x' y':Int}:zEG x y=zEG x' y'↔x=x'∧y=y':=by simp[zEG]
theorem zKc:Go.WideMaps.ArrKey prog 245 21 2:=⟨underlying245,by kernel_rfl,by kernel_rfl,by kernel_rfl⟩
theorem zOC:Go.Maps.Keyed prog 245:=QI zKc.law
theorem Md.pk_key {x y:Int} (hx : -2147483648≤x∧x≤2147483647) (hy : -2147483648≤y∧y≤2147483647):∃l,keyOf prog 245 (zEG x y)=some l:=by
 refine zLR zKc underlying21 ⟨385-1,by kernel_rfl⟩ [x,y] rfl fun z hz=>?_
 simp only[Y0,Z6,Q5]at hz;rcases hz with rfl|rfl
 · exact zKS hx.1 hx.2
 exact zKS hy.1 hy.2
def Md.Seen (F:Value→Option Value) (seen:List (List Int)):Prop:=∀x y,(F (zEG x y)).isSome=seen.contains [x,y]
theorem Md.Seen.look {w:World} {b:Nat} {F:Value→Option Value} {seen:List (List Int)} (h:Mp.Is prog 245 w b F) (hs:Md.Seen F seen) {x y:Int} (hx : -2147483648≤x∧x≤2147483647) (hy : -2147483648≤y∧y≤2147483647) :
 ∃v,(Instr.lookup 243 (.map (some b)) (.agg #[.int .i32 x,.int .i32 y]) true).run prog w=.ok (.tuple #[v,.bool (seen.contains [x,y])]) w:=by
 obtain⟨l,hl⟩:=Md.pk_key hx hy;have hz:(zeroValue 21).run prog w=.ok (.int .i32 0) w:=by kernel_rfl
 have:=h.look zOC underlying243 hz hl true;rw[Zo rfl,hs x y]at this;exact⟨_,this⟩
theorem Md.Seen.put {w:World} {b:Nat} {F:Value→Option Value} {seen:List (List Int)} (h:Mp.Is prog 245 w b F) (hs:Md.Seen F seen) {x y:Int} (hx : -2147483648≤x∧x≤2147483647) (hy : -2147483648≤y∧y≤2147483647) (v:Value) :
 ∃w' F',(Instr.mapUpdate 243 (.map (some b)) (.agg #[.int .i32 x,.int .i32 y]) v).run prog w=.ok () w'∧Mp.Is prog 245 w' b F'∧Md.Seen F' (seen++[[x,y]])∧w.grownBy w' (some b):=by
 obtain⟨l,hl⟩:=Md.pk_key hx hy
 obtain⟨F',h1,h2⟩:∃F':Value→Option Value,F' (zEG x y)=some v∧∀z,z≠zEG x y→F' z=F z:=by
  classical
  exact⟨fun z=>if z=zEG x y then some v else F z,by simp,fun z hz=>by simp[hz]⟩
 obtain⟨w',g1,g2,g3⟩:=h.put zOC underlying243 hl F' h1 h2;refine⟨w',F',g1,g2,fun x' y'=>?_,g3⟩
 by_cases e:x'=x∧y'=y
 · obtain⟨rfl,rfl⟩:=e;rw[h1];simp
 rw[h2 _ (fun e'=>e (zQm.1 e')),hs x' y'];simp;intro e1 e2;exact absurd ⟨e1,e2⟩ e
theorem zKT {T:List Rw.Row} {X:Int→Bool} {seen:List (List Int)} {r:Rw.Row} {l:List Rw.Row} {a:Bool} (h:a=zBD T X seen (r::l)) :
 a=if zAe T X r=true then (seen.contains r.2.2||zBD T X (seen++[r.2.2]) l) else zBD T X seen l:=by rw[h,zBD]
theorem zM1 (v:Value) (T:List Rw.Row) (S:List Int) (w:World) (ek:T.length≤1000000) (hbd:Md.bd T) (eb:∀r∈T,r.2.2.length≤1000000) (h:Md.Is w v T S) (hS:C.srt S) (e2:S.length≤1000000) :
 Calls prog 123 #[v] w (zFS (zM0 (Md.chk T (C.mem S))) w):=by
 obtain⟨A,c,XA,xc,rfl,h2,hX⟩:=id h;obtain⟨xn,hxn⟩:∃k,S.length=k:=⟨_,rfl⟩;obtain⟨n,hn⟩:∃k,T.length=k:=⟨_,rfl⟩;have dx:=hy' h;rw[hn,hxn]at dx ⊢;obtain⟨res,bw⟩:∃k,Md.chk T (C.mem S)=k:=⟨_,rfl⟩;rw[bw];rw[hn]at ek;have cv:Below w.heap.size w (w.alloc (.cells #[.slice A n c,.slice XA xn xc] 91)):=(Zc _ _).alloc (Za _) _;have cg:Rw.At (w.alloc (.cells #[.slice A n c,.slice XA xn xc] 91)) w.heap.size 91 [.slice A n c,.slice XA xn xc]:=Rw.At.new w 91 [.slice A n c,.slice XA xn xc];obtain⟨wa,dl⟩:∃wa,w.alloc (.cells #[.slice A n c,.slice XA xn xc] 91)=wa:=⟨_,rfl⟩;rw[dl]at cv cg;have ch:=h2.below cv;have z0:=cg.cell 0 rfl;have z1:=cg.cell 1 rfl;have fe:=hy' dl;have ah:=hy' cv;have fm:=hy' cg;have bu:=hy' ch;have HN:=hy' hn;have fz:=hy' hxn;have ax:=hy' bw;have ct:=hy' hbd;have dw:=hy' eb;have e9:=hy' hS;clear dl cv cg ch hn hxn bw hbd eb h h2 hX hS;unfold zBs at *;go_enter func123,ntmps123;go_upto_region 1 with (fail)
 rw[fe.o];go_wp2_with fail;go_loopw [3,20] (fun v3 i wr=>∃(k:Nat) (last:Int),k≤n∧i=.int .i64 k∧v3=.int .i32 last∧(-2147483648≤last∧last≤2147483647)∧zAx (-1) T=zAx last (T.drop k)∧Below wa.heap.size wa wr) (fun _ i _=>n-(intOf i).toNat)
 case atStart=>exact⟨0,-1,ZG _,rfl,rfl,by omega,rfl,Zc _ _⟩
 obtain⟨k,last,hk,rfl,rfl,cm,ag,aw⟩:=hrel;have aa:=fm.o.below aw;have z0:=aa.cell 0 rfl;have z1:=aa.cell 1 rfl;have b7:=hy' ag;have b5:=hy' aw;have cz:=hy' aa;clear ag aa
 by_cases hlt:k<n
 · obtain⟨r,hr⟩:∃r,T[k]?=some r:=⟨_,Zb (by rw[HN.o];exact hlt)⟩;have ay:=Zn hr;have ag:=ct.o r ay;obtain⟨b,o,a,b6,hb,c0,c1,c2,bc⟩:=(bu.o.below aw).row hr;have aj:Below wr.heap.size wr (wr.alloc (.cells #[.int .i32 r.1,.int .i64 r.2.1,.slice a.1 r.2.2.length a.2] 163)):=(Zc _ _).alloc (Za _) _;have bt:=hy' (Md.row_any r a.1 a.2 last (wr.alloc (.cells #[.int .i32 r.1,.int .i64 r.2.1,.slice a.1 r.2.2.length a.2] 163)) ag.1 cm ag.2 (dw.o r ay) (bc.below aj aj.size));have af:=Rw.At.new wr 163 [.int .i32 r.1,.int .i64 r.2.1,.slice a.1 r.2.2.length a.2];have bx:=hy' af;have b8:=hy' (aw.trans (aj.mono aw.size));have hd:=zDu hr;have bb:=b7.o;rw[hd,zAx]at bb;have di:=zQ5 last r;obtain⟨bd,hbd⟩:∃k,zBT last r=k:=⟨_,rfl⟩;rw[hbd]at bb bt di;have ba:=hy' bb;have eh:(k:Int)<n:=by omega
   have et:(0:Int)≤k:=by omega
   subst b6;unfold zI5 at bt;have dm:=ag.1.1;have dn:=ag.1.2;clear hr ay ag bc aj af hd bb hbd aw;go_wp2_with fail;refine bt.o.mono ?_;rintro e w1 ⟨rfl,du⟩;have bg:=bx.o.below du;obtain⟨y0,y1,y2,_,_,_⟩:=bg.three;have cw:=hy' (b8.o.trans (du.mono b8.o.size));have fq:=bg.lt;clear du c0 c1 c2 z0 z1;rcases bd with _|_|_|_|bd
   · have dv:(zBf 0).toList.isEmpty=true:=by kernel_rfl
     have bf:zAx (-1) T=zAx r.1 (T.drop (k+1)):=by rw[ba.o];rfl
     have cd:=hy' bf;clear bf;go_wp2_with fail;exact⟨⟨k+1,r.1,by omega,by go_num,rfl,⟨dm,dn⟩,cd.o,cw.o⟩,by simp[intOf];omega⟩
   · have dv:(zBf 1).toList.isEmpty=false:=by kernel_rfl
     have av:res=1:=by rw[←ax.o];unfold Md.chk;rw[ba.o];rfl
     have a7:=hy' av;clear av;go_wp2_with fail;refine (zCD _ _).mono ?_;rintro e w2 ⟨q,v,rfl,g1,g2,g3⟩;go_wp2_with fail;go_ret;exact zDS a7.o (by decide) ⟨q,v,rfl,g1,g2,g3⟩ (ah.o.trans (cw.o.mono ah.o.size))
   · have dv:(zBf 2).toList.isEmpty=false:=by kernel_rfl
     have av:res=2:=by rw[←ax.o];unfold Md.chk;rw[ba.o];rfl
     have a7:=hy' av;clear av;go_wp2_with fail;refine (zCD _ _).mono ?_;rintro e w2 ⟨q,v,rfl,g1,g2,g3⟩;go_wp2_with fail;go_ret;exact zDS a7.o (by decide) ⟨q,v,rfl,g1,g2,g3⟩ (ah.o.trans (cw.o.mono ah.o.size))
   · have dv:(zBf 3).toList.isEmpty=false:=by kernel_rfl
     have av:res=3:=by rw[←ax.o];unfold Md.chk;rw[ba.o];rfl
     have a7:=hy' av;clear av;go_wp2_with fail;refine (zCD _ _).mono ?_;rintro e w2 ⟨q,v,rfl,g1,g2,g3⟩;go_wp2_with fail;go_ret;exact zDS a7.o (by decide) ⟨q,v,rfl,g1,g2,g3⟩ (ah.o.trans (cw.o.mono ah.o.size))
   omega
 obtain rfl:n=k:=by omega
 have hz:zAx (-1) T=0:=by
  rw[b7.o,Xl (by rw[HN.o];exact Za _)];rfl
 obtain⟨cc,bk⟩:=zCd T (-1) hz;have ei:Md.Ok T:=⟨by rw[HN.o];exact ek,bk,ct.o,dw.o⟩;have HZ:=hy' hz;have en:=hy' ei;obtain⟨wb,rfl⟩:∃wb:World,wb=wr:=⟨_,rfl⟩;have ef:∀c,zBS (Md.mp T) (T.length+3) [] c=Md.full T c:=fun _=>rfl
 have e5:=hy' ef;clear hz cc bk ei ef hlt;go_wp2_with fail;go_loopw [37] (fun i wr=>∃k:Nat,k≤n∧i=.int .i64 k∧(∀r∈T.take k,(Md.full T r.1).isSome=true)∧Below wb.heap.size wb wr) (fun i _=>n-(intOf i).toNat)
 case atStart=>exact⟨0,ZG _,rfl,fun r hr=>by simp at hr,Zc _ _⟩
 obtain⟨k,hk,rfl,az,ak⟩:=hrel;have aa:=cz.o.below ak;have y0:=aa.cell 0 rfl;have y1:=aa.cell 1 rfl;have br:=hy' az;have bh:=b5.o.trans (ak.mono b5.o.size);have ae:=hy' bh;have bi:=hy' aa;have bj:=hy' ak;have e7:=aa.lt;clear az aa ak z0 z1
 by_cases hlt:k<n
 · obtain⟨r,hr⟩:∃r,T[k]?=some r:=⟨_,Zb (by rw[HN.o];exact hlt)⟩;have ay:=Zn hr;have ag:=ct.o r ay;obtain⟨b,o,a,b6,hb,c0,c1,c2,bc⟩:=(bu.o.below bh).row hr;have aj:Below wr.heap.size wr (wr.alloc (.cells #[.int .i32 r.1,.int .i64 r.2.1,.slice a.1 r.2.2.length a.2] 163)):=(Zc _ _).alloc (Za _) _;have b3:=ae.o.trans (aj.mono ae.o.size);have hE:=zGZ T S (wr.alloc (.cells #[.int .i32 r.1,.int .i64 r.2.1,.slice a.1 r.2.2.length a.2] 163)) _ en.o (dx.o.below (ah.o.trans (b3.mono ah.o.size))) (T.length+3) [] (.slice none 0 0) r.1 0 _ (by omega) ag.1.1 ag.1.2 (by simp) (Zc _ _) (ZI _ _ _ _);rw[e5.o]at hE;have cf:=hy' b3;have ej:=hy' (bj.o.trans (aj.mono bj.o.size));have af:=Rw.At.new wr 163 [.int .i32 r.1,.int .i64 r.2.1,.slice a.1 r.2.2.length a.2];obtain⟨x0,x1,x2,_,_,_⟩:=af.three;have eh:(k:Int)<n:=by omega
   have et:(0:Int)≤k:=by omega
   obtain⟨fo,dr⟩:∃fo,Md.full T r.1=fo:=⟨_,rfl⟩;rw[dr]at hE;have eg:=hy' dr;have HR:=hy' hr;have fw:=hy' ay;subst b6;clear hr ay ag bc aj b3 af dr;go_wp2_with fail;refine hE.mono ?_;rintro e w2 ⟨A1,n1,fy,rfl,_,hg⟩;have dy:=ej.o.trans (zAf hg ej.o.size fun k hk=>by cases hk);have c8:=hy' dy;have a8:=hy' (cf.out.trans (zAf hg cf.out.size fun k hk=>by cases hk));clear dy hg hE x0 x1 x2 y0 y1 c0 c1 c2;rcases fo with _|fl
   · have av:res=4:=by
      rw[←ax.o];unfold Md.chk
      have:zBj T=true:=by
       unfold zBj;rw[YK];exact⟨r,fw.o,by rw[eg.o];rfl⟩
      rw[Zl (by rw[HZ.o];simp),Zo this]
     have a7:=hy' av;clear av;go_wp2_with fail;refine (zCD _ _).mono ?_;rintro e w3 ⟨q,v,rfl,g1,g2,g3⟩;go_wp2_with fail;go_ret;exact zDS a7.o (by decide) ⟨q,v,rfl,g1,g2,g3⟩ (ah.o.trans (a8.o.mono ah.o.size))
   have az:∀r∈T.take (k+1),(Md.full T r.1).isSome=true:=by
    rw[ZB,HR.o];intro q hq;rcases List.mem_append.1 hq with hq|hq
    · exact br.o q hq
    simp at hq;subst hq;rw[eg.o];rfl
   have cj:=hy' az;clear az;go_wp2_with fail;exact⟨⟨k+1,by omega,by go_num,cj.o,c8.o⟩,by simp[intOf];omega⟩
 obtain rfl:n=k:=by omega
 have ed:zBj T=false:=by
  unfold zBj;rw[Qe];intro r hr;have:=br.o r (by rw[Zm (by rw[HN.o];exact Za _)];exact hr);cases hf:Md.full T r.1 with
  | none=>rw[hf]at this;cases this
  | some l=>simp
 have cq:res=if zBD T (C.mem S) [] T=true then 5 else 0:=by
  rw[←ax.o];unfold Md.chk;rw[Zl (by rw[HZ.o];simp),Zl (by rw[ed];simp)]
 have dz:=hy' cq;obtain⟨wz,rfl⟩:∃wz:World,wz=wr:=⟨_,rfl⟩;clear ed cq hlt br;have gb:=@JB prog;have a1:=Mp.Is.made wz prog 245;have df:Below wz.heap.size wz (wz.alloc (.map #[] 0)):=(Zc _ _).alloc (Za _) _;have bq:=bi.o.alloc (.map #[] 0);have w0:=bq.cell 0 rfl;have w1:=bq.cell 1 rfl;obtain⟨wm,c6⟩:∃wm,wz.alloc (.map #[] 0)=wm:=⟨_,rfl⟩;rw[c6]at a1 df w0 w1;have e8:=hy' c6;have cn:=hy' a1;have ft:=hy' df;clear a1 df bq c6;go_upto_region 18 with (fail)
 rw[e8.o];go_wp2_with fail;go_loopw [56] (fun i wr=>∃(k:Nat) (F:Value→Option Value),k≤n∧i=.int .i64 k∧zBD T (C.mem S) [] T=zBD T (C.mem S) (((T.take k).filter (zAe T (C.mem S))).map fun r=>r.2.2) (T.drop k)∧Mp.Is prog 245 wr wz.heap.size F∧Md.Seen F (((T.take k).filter (zAe T (C.mem S))).map fun r=>r.2.2)∧Below wz.heap.size wz wr) (fun i _=>n-(intOf i).toNat)
 case atStart=>exact⟨0,fun _=>none,ZG _,rfl,rfl,cn.o,fun x y=>rfl,ft.o⟩
 obtain⟨k,F,hk,rfl,b4,b1,bl,au⟩:=hrel;have aa:=bi.o.below au;have y0:=aa.cell 0 rfl;have y1:=aa.cell 1 rfl;have cy:=hy' b4;have ck:=hy' b1;have ap:=hy' bl;have bm:=ae.o.trans (au.mono ae.o.size);have aq:=hy' au;have a6:=hy' bm;have fg:=aa.lt;have e4:=b1.lt;clear b4 b1 bl aa au w0 w1;obtain⟨seen,dh⟩:∃seen,(((T.take k).filter (zAe T (C.mem S))).map fun r=>r.2.2)=seen:=⟨_,rfl⟩;rw[dh]at cy ap;have fu:=hy' dh;clear dh
 by_cases hlt:k<n
 rotate_left
 · obtain rfl:n=k:=by omega
   have cq:res=0:=by
    rw[dz.o,cy.o,Xl (by rw[HN.o];exact Za _)];rfl
   have dp:=hy' cq;clear cq hlt;go_wp2_with fail;go_ret;exact zPc dp.o (ah.o.trans (a6.o.mono ah.o.size))
 obtain⟨r,hr⟩:∃r,T[k]?=some r:=⟨_,Zb (by rw[HN.o];exact hlt)⟩;have ay:=Zn hr;have ag:=ct.o r ay;obtain⟨b,o,a,b6,hb,c0,c1,c2,bc⟩:=(bu.o.below bm).row hr;have aj:Below wr.heap.size wr (wr.alloc (.cells #[.int .i32 r.1,.int .i64 r.2.1,.slice a.1 r.2.2.length a.2] 163)):=(Zc _ _).alloc (Za _) _;have b3:=a6.o.trans (aj.mono a6.o.size);have hC:=zIM _ T S r a.1 a.2 (wr.alloc (.cells #[.int .i32 r.1,.int .i64 r.2.1,.slice a.1 r.2.2.length a.2] 163)) en.o (dx.o.below (ah.o.trans (b3.mono ah.o.size))) e9.o e2 ag.1 ag.2 (dw.o r ay) (bc.below aj aj.size);have b8:=hy' aj;have af:=Rw.At.new wr 163 [.int .i32 r.1,.int .i64 r.2.1,.slice a.1 r.2.2.length a.2];obtain⟨x0,x1,x2,_,_,_⟩:=af.three;have bx:=hy' af;have eh:(k:Int)<n:=by omega
 have et:(0:Int)≤k:=by omega
 have b4:=cy.o;rw[zDu hr]at b4;have bn:=hy' (zKT b4)
 have eo:(((T.take (k+1)).filter (zAe T (C.mem S))).map fun r=>r.2.2)=if zAe T (C.mem S) r=true then seen++[r.2.2] else seen:=by
  rw[ZB,hr,Yj,ZK,fu.o]
  by_cases hc:zAe T (C.mem S) r=true
  · simp[hc]
  simp[hc]
 have b2:=hy' eo
 have ey:zAe T (C.mem S) r=true→∃x y,r.2.2=[x,y]:=by
  intro hc;unfold zAe at hc;simp only[Zy,Zp]at hc;have h2:=hc.2.1
  match hh:r.2.2,h2 with
  | [x,y],_=>exact⟨x,y,rfl⟩
 have ep:=hy' ey;obtain⟨cr,ec⟩:∃cr,zAe T (C.mem S) r=cr:=⟨_,rfl⟩;rw[ec]at hC bn b2 ep;have b7:=hy' ag;have fp:=hy' bc;subst b6;unfold zI5 at hC;clear hr ay ag bc aj b3 af b4 eo ey ec;go_wp2_with fail;refine hC.mono ?_;rintro e w2 ⟨rfl,dt⟩;have cb:=b8.o.trans (dt.mono b8.o.size);have a8:=hy' cb;have ar:=bx.o.below dt;obtain⟨x0,x1,x2,_,_,_⟩:=ar.three;have eu:=hy' ar;have fj:=ar.lt;clear dt cb ar hC y0 y1 c0 c1 c2;cases cr
 · have bp:=bn.o;rw[Zl (by decide)]at bp;have bo:=b2.o;rw[Zl (by decide)]at bo;have e6:=hy' bp;have ew:=hy' bo;clear bp bo;go_wp2_with fail;exact⟨⟨k+1,F,by omega,by go_num,by rw[ew.o];exact e6.o,ck.o.below a8.o,by rw[ew.o];exact ap.o,aq.o.trans (a8.o.mono aq.o.size)⟩,by simp[intOf];omega⟩
 obtain⟨x,y,bs⟩:=ep.o rfl;have hlen:r.2.2.length=2:=by rw[bs];rfl
 have hxb:=b7.o.2 x (by rw[bs];simp);have e0:=b7.o.2 y (by rw[bs];simp);have bz:=fp.o.below a8.o a8.o.size;rw[bs]at bz;obtain⟨ab,ao,hA2,gf,cx⟩:=bz (by simp);have d0:w2.cell? ⟨ab,ao,none⟩=some (.int .i32 x):=by simpa using cx 0 (by simp)
 have d1:w2.cell? ⟨ab,ao+1,none⟩=some (.int .i32 y):=by simpa using cx 1 (by simp)
 rw[hA2,hlen]at x2;rw[bs]at bn b2;rw[Zo rfl]at bn b2;have fx:=hy' bs;clear cx bz bs;have e3:∀(A:Option Addr) (cp:Nat) (W:World),(Instr.arrayAt 245 (.slice A 2 cp)).run prog W=.ok (.pointer A) W:=fun _ _ _=>by kernel_rfl
 have c7:Below w2.heap.size w2 (w2.alloc (.cells #[.int .i32 x,.int .i32 y] 245)):=(Zc _ _).alloc (Za _) _;have hmx:=(ck.o.below a8.o).below c7;obtain⟨lv,fc⟩:=Md.Seen.look hmx ap.o hxb e0;obtain⟨w4,F',dc,ea,ee,ez⟩:=Md.Seen.put hmx ap.o hxb e0 (.int .i32 r.1);have cu:Below wz.heap.size wz (w2.alloc (.cells #[.int .i32 x,.int .i32 y] 245)):=aq.o.trans ((a8.o.trans (c7.mono a8.o.size)).mono aq.o.size);have c8:=hy' (cu.trans (zAf ez cu.size fun k hk=>by cases hk;exact Za _));have fk:=hy' cu;have e1:=hy' ea;have fh:=hy' ee;obtain⟨tw,b9⟩:∃tw,seen.contains [x,y]=tw:=⟨_,rfl⟩;rw[b9]at fc bn;clear c7 hmx ea ee ez cu b9;cases tw
 · have ai:=bn.o;rw[Y5]at ai;have dk:=hy' ai;clear ai;go_wp2_with fail;exact⟨⟨k+1,F',by omega,by go_num,by rw[b2.o];exact dk.o,e1.o,by rw[b2.o];exact fh.o,c8.o⟩,by simp[intOf];omega⟩
 have ai:=bn.o;rw[Xq]at ai;have av:res=5:=by rw[dz.o,Zo ai]
 have a7:=hy' av;clear ai av dc;go_wp2_with fail;refine (zCD _ _).mono ?_;rintro e w3 ⟨q,v,rfl,g1,g2,g3⟩;go_wp2_with fail;go_ret;exact zDS a7.o (by decide) ⟨q,v,rfl,g1,g2,g3⟩ (ah.o.trans ((ae.o.trans (fk.o.mono ae.o.size)).mono ah.o.size))
end
def Pg.ok (c:Int):Bool:=decide (0≤c∧c≤1114111)
theorem zEN (L:List (Int × Int)) (x:Int × Int) (c:Int):Pg.last (L++[x]) c=if x.1=c then x.2 else Pg.last L c:=by
 unfold Pg.last;rw[YL];rfl
theorem zNs (L:List (Int × Int)) (x:Int × Int) (h:Pg.ok x.1=false) {m:Nat} (hm:m<4352):zAb (Pg.last (L++[x])) m=zAb (Pg.last L) m:=by
 unfold zAb;refine YW fun i hi=>?_
 have hi:=List.mem_range.1 hi;rw[zEN,Zl];intro e;unfold Pg.ok at h;rw[Z0]at h;omega
theorem zM2 (L:List (Int × Int)) (x:Int × Int) {m n:Nat} (hn:x.1/256=(n:Int)) (hne:m≠n):zAb (Pg.last (L++[x])) m=zAb (Pg.last L) m:=by
 unfold zAb;refine YW fun i hi=>?_
 have hi:=List.mem_range.1 hi;rw[zEN,Zl];intro e;omega
theorem zPd (L:List (Int × Int)) (x:Int × Int) {n j:Nat} (hn:x.1/256=(n:Int)) (hj:x.1%256=(j:Int)):zAb (Pg.last (L++[x])) n=(zAb (Pg.last L) n).set j x.2:=by
 refine XN fun i=>?_
 rw[Qh,zBk]
 by_cases hi:i<256
 · rw[zGS _ _ hi,zGS _ _ hi,zEN]
   by_cases e:j=i
   · subst e;rw[Zo (by omega),Zo rfl,Zo hi]
   rw[Zl (by omega),Zl e]
 rw[Yp (by rw[zBk];omega)];split
 · rw[Zl (by omega)]
 rw[Yp (by rw[zBk];omega)]
theorem zIN (n:Nat):zAb (Pg.last []) n=zAk:=by
 unfold zAb zAk;refine XN fun i=>?_
 by_cases hi:i<256
 · rw[Zs,XW hi,Q7,Zo hi];rfl
 rw[Yp (by rw[Ze,J7];omega),Yp (by rw[Qp];omega)]
def zCM (bl:List (List Int)) (b:List Int):Option Nat:=if b∈bl then some (Pg.at bl b) else none
theorem zM3 {bl:List (List Int)} {b:List Int} (h:b∉bl) (x:List Int):zCM (Pg.add bl b) x=if x=b then some bl.length else zCM bl x:=by
 unfold zCM
 by_cases hx:x=b
 · subst hx;rw[Zo (zFf.2 (.inr rfl)),Zo rfl];unfold Pg.add Pg.at;rw[Zl h,J5,Zl h];simp
 rw[Zl hx]
 by_cases hm:x∈bl
 · rw[Zo (zFf.2 (.inl hm)),Zo hm,zLP hm]
 rw[Zl fun h'=>(zFf.1 h').elim hm hx,Zl hm]
theorem zHv {bl:List (List Int)} {b:List Int} (h:b∈bl):Pg.add bl b=bl:=Zo h
theorem zPe {bl:List (List Int)} {b:List Int} (h:b∉bl):Pg.add bl b=bl++[b]:=Zl h
theorem zM4 (f:Int→Int) (m:Nat):zAk∈zAo f m:=(zDL f m _).2 (.inl rfl)
theorem zNt (f:Int→Int) (m:Nat):Pg.at (zAo f m) zAk=0:=by
 have h:=zIF f m
 obtain⟨l,hl⟩:∃l,zAo f m=zAk::l:=by
  cases hb:zAo f m with
  | nil=>rw[hb]at h;cases h
  | cons y l=>rw[hb]at h;simp at h;exact⟨l,by rw[h]⟩
 rw[hl];unfold Pg.at;simp
def zAQ (f:Int→Int) (m:Nat):List Int:=Pg.idx f m++List.replicate (4352-m) 0
theorem zAR (f:Int→Int) {m:Nat} (h:m≤4352):(zAQ f m).length=4352:=by
 unfold zAQ;rw[Zd,zCm,Qp];omega
theorem zNu (f:Int→Int):zAQ f 4352=Pg.idx f 4352:=by unfold zAQ;simp
theorem zIO (f:Int→Int) {m:Nat} (h:m<4352):zAQ f (m+1)=(zAQ f m).set m (Pg.at (zAo f (m+1)) (zAb f m):Int):=by
 unfold zAQ;rw[zNb,show 4352-m=(4352-(m+1))+1 by omega,List.replicate_succ,ZC,Yz _ _ (by rw[zCm];exact Za _),zCm,Yo];rfl
theorem zM5 (f:Int→Int) {m:Nat} (h:m<4352) (hb:zAb f m=zAk):zAo f (m+1)=zAo f m∧zAQ f (m+1)=zAQ f m:=by
 have h1:zAo f (m+1)=zAo f m:=by rw[zAo,hb,zHv (zM4 f m)]
 refine⟨h1,?_⟩;rw[zIO f h,h1,hb,zNt];refine XN fun i=>?_
 rw[Qh]
 by_cases e:m=i
 · subst e;rw[Zo rfl,Zo (by rw[zAR f (by omega)];exact h)];unfold zAQ;rw[ZJ (by rw[zCm];exact Za _),zCm,Yo,Q7,Zo (by omega)];rfl
 rw[Zl e]
section
open Go.RowKit
theorem zNv {P:Program} (w:World) (t:TypeId) (d:TypeDesc) (b o n:Nat) (xs:List Value) (hx:xs.length=n) (hc:∀(j:Nat) v,xs[j]?=some v→w.cell? ⟨b,o+j,none⟩=some v)
 (hu:P.underlying t=some d) (hd:(match d with | .struct _ | .array _ _=>true|_=>false)=true) (hi:(P.info? t).map (·.size)=some n) :
 (Instr.loadAt t (.pointer (some ⟨b,o,none⟩))).run P w=.ok (.agg xs.toArray) w:=by
 have hl:(loadCells ⟨b,o,none⟩ xs.length).run P w=.ok xs.toArray w :=
  run_loadCells_list (P:=P) w ⟨b,o,none⟩ xs (fun j v hv=>by
   have ae:(⟨b,o,none⟩:Addr).add j=⟨b,o+j,none⟩:=by unfold Addr.add;split <;> simp_all
   rw[ae];exact hc j v hv)
 subst hx;have aa:(isAgg t).run P w=.ok true w:=by cases d <;> simp at hd <;> simp[isAgg,Y6 hu]
 simp only[Instr.loadAt,Instr.sureAddr,YG,Yw,Result.andThen];cases hq:P.info? t with
 | none=>simp[hq]at hi
 | some i =>
   have hs:i.size=xs.length:=by simp[hq]at hi;omega
   simp[loadVar,YG,aa,sizeOf,typeInfo,hq,hs,hl]
theorem zPf {P:Program} {o:Oper} {a:Act} {w:World} {K:Act→World→Prop} {Q:Exit→Act→World→Prop} (t:TypeId) (x:Operand) (ho:o.op=.load t x) (v u:Value) (hx:a.eval x=v)
 (hr:(Instr.loadAt t v).run P w=.ok u w) (h:K (a.put o.dst u) w):o.wp P a w K Q:=by
 unfold Oper.wp execOp;subst hx;simp only[ho,YG,hr,Yx,Yw];exact h
theorem zFE {P:Program} {ops:Array Oper} {rest:List Oper} {o:Oper} {a:Act} {w:World} {Q:Exit→Act→World→Prop} (aa:o.guard=none) (t:TypeId) (x:Operand) (ho:o.op=.load t x) (v u:Value) (hx:a.eval x=v)
 (hr:(Instr.loadAt t v).run P w=.ok u w) (h:wpList P ops Q rest (a.put o.dst u) w):wpList P ops Q (o::rest) a w :=
 Jc aa fun _ hK=>zPf t x ho v u hx hr (hK _ _ h)
theorem zPg:(prog.info? 137).map (·.size)=some 256:=by kernel_rfl
theorem zRh:(prog.info? 200).map (fun i=>(i.zero,i.size,i.bytes))=some (some (.agg #[.int .i32 0,.int .u16 0]),2,8):=by kernel_rfl
def zH1 (L:List (Int × Int)):Prop:=∀x∈L,-2147483648≤x.1∧x.1≤2147483647∧0≤x.2∧x.2≤65535
def Pg.IsL (lo:Nat) (w:World) (v:Value) (idx:List Int) (bl:List (List Int)):Prop :=
 ∃g A c,v=.pointer (some ⟨g,0,none⟩)∧lo≤g∧Rw.At w g 141 (idx.map (Value.int .u16)++[.slice A bl.length c])∧Sl w w.heap.size A (bl.flatten.map (Value.int .u16))∧∀a,A=some a→lo≤a.block
theorem Pg.IsL.is {lo:Nat} {w:World} {v:Value} {idx:List Int} {bl:List (List Int)} (h:Pg.IsL lo w v idx bl):Pg.Is w v idx bl:=by
 obtain⟨g,A,c,h1,_,h2,h3,_⟩:=h;exact⟨g,A,c,h1,h2,h3⟩
theorem Pg.IsL.grown {lo b:Nat} {w w':World} {v:Value} {idx:List Int} {bl:List (List Int)} (h:Pg.IsL lo w v idx bl) (hg:w.grownBy w' (some b)) (hb:b<lo):Pg.IsL lo w' v idx bl:=by
 obtain⟨g,A,c,h1,h0,h2,h3,h4⟩:=h;refine⟨g,A,c,h1,h0,h2.grown hg (by simp;omega),fun hx=>?_,h4⟩;obtain⟨q,o,hA,hq,hc⟩:=h3 hx;have aa:=h4 _ hA;refine⟨q,o,hA,Zg hq hg.size,fun i hi=>?_⟩;rw[←hc i hi];have hk:=hg.block q hq (by simp;dsimp only at aa;omega);simp[World.cell?,hk]
def zSu (lo:Nat) (w:World) (v:Value) (f:Int→Int):Prop:=Pg.IsL lo w v (Pg.idx f 4352) (zAo f 4352)
theorem zFl:Go.Maps.Keyed prog 21:=Go.Maps.int_keyed underlying21
theorem Pg.key32 {n:Nat} (h:n<4352):keyOf prog 21 (.int .i32 n)=some (.int .i32 n):=JC underlying21 (by simp only[Lit.wf,Zy,Zp];exact⟨Yf (by decide:_≤(0:Int)) (by omega),Yf (by omega:(n:Int)≤4352) (by decide)⟩)
def zSv (g:Option Nat):Value:=.pointer (g.map fun g=>⟨g,0,none⟩)
def Pg.vs (b:List Int):List Value:=b.map (Value.int .u16)
def Pg.St (lo hi:Nat) (W:World) (mb:Nat) (f:Int→Int) (G:Nat→Option Nat):Prop :=
 (∃F,Mp.Is prog 21 W mb F∧∀n:Nat,n<4352→F (.int .i32 n)=(G n).map fun g=>.pointer (some ⟨g,0,none⟩)) ∧
 (∀n,n<4352→G n=none→zAb f n=zAk)∧(∀n g,n<4352→G n=some g→lo≤g∧g<hi∧Rw.At W g 137 (Pg.vs (zAb f n))) ∧
 (∀n n' g,n<4352→n'<4352→G n=some g→G n'=some g→n=n')
section
variable {lo hi:Nat} {W W':World} {mb:Nat} {f f':Int→Int} {G:Nat→Option Nat}
theorem Pg.St.made (w:World) (lo hi:Nat):Pg.St lo hi (w.alloc (.map #[] 0)) w.heap.size (Pg.last []) fun _=>none :=
 ⟨⟨_,Mp.Is.made w prog 21,fun _ _=>rfl⟩,fun n _ _=>zIN n,fun _ _ _ h=>(nomatch h),fun _ _ _ _ _ h=>(nomatch h)⟩
theorem Pg.St.lt (h:Pg.St lo hi W mb f G):mb<W.heap.size:=by
 obtain⟨⟨F,hF,_⟩,_⟩:=h;exact hF.lt
theorem Pg.St.below {B:Nat} (h:Pg.St lo hi W mb f G) (hb:Below B W W') (h1:mb<B) (h2:hi≤B):Pg.St lo hi W' mb f G:=by
 obtain⟨⟨F,⟨es,c,hh,r⟩,hF⟩,h3,h4,h5⟩:=h;exact⟨⟨F,⟨es,c,(hb.block mb h1).trans hh,r⟩,hF⟩,h3,fun n g hn hg=>⟨(h4 n g hn hg).1,(h4 n g hn hg).2.1,(h4 n g hn hg).2.2.below' hb (by have:=(h4 n g hn hg).2.1;omega)⟩,h5⟩
theorem Pg.St.more {hi':Nat} (h:Pg.St lo hi W mb f G) (hh:hi≤hi'):Pg.St lo hi' W mb f G :=
 ⟨h.1,h.2.1,fun n g hn hg=>⟨(h.2.2.1 n g hn hg).1,Zg (h.2.2.1 n g hn hg).2.1 hh,(h.2.2.1 n g hn hg).2.2⟩,h.2.2.2⟩
theorem Pg.St.turn (h:Pg.St lo hi W mb f G) (hf:∀n,n<4352→zAb f' n=zAb f n):Pg.St lo hi W mb f' G :=
 ⟨h.1,fun n hn hg=>by rw[hf n hn];exact h.2.1 n hn hg,fun n g hn hg=>by rw[hf n hn];exact h.2.2.1 n g hn hg,h.2.2.2⟩
theorem Pg.St.look (h:Pg.St lo hi W mb f G) {n:Nat} (hn:n<4352):(Instr.lookup 248 (.map (some mb)) (.int .i32 n) false).run prog W=.ok (zSv (G n)) W:=by
 obtain⟨⟨F,hF,hG⟩,_⟩:=h;have hz:(zeroValue 249).run prog W=.ok (.pointer none) W:=by kernel_rfl
 have:=hF.look zFl underlying248 hz (Pg.key32 hn) false;rw[hG n hn]at this;rw[this];cases G n <;> rfl
theorem Pg.St.put (h:Pg.St lo hi W mb f G) {n:Nat} (hn:n<4352) (hg:G n=none) (af:lo≤W.heap.size) (ah:hi≤W.heap.size) :
 ∃W' G',(Instr.mapUpdate 248 (.map (some mb)) (.int .i32 n) (.pointer (some ⟨W.heap.size,0,none⟩))).run prog (W.alloc (.cells (Pg.vs zAk).toArray 137))=.ok () W' ∧
  Pg.St lo W'.heap.size W' mb f G'∧G' n=some W.heap.size∧(W.alloc (.cells (Pg.vs zAk).toArray 137)).grownBy W' (some mb):=by
 have hmb:=h.lt;obtain⟨⟨F,hF,hG⟩,h2,h3,h4⟩:=h;have aa:Mp.Is prog 21 (W.alloc (.cells (Pg.vs zAk).toArray 137)) mb F:=hF.below ((Zc _ _).alloc (Za _) _)
 obtain⟨F',g1,g2⟩:∃F':Value→Option Value,F' (.int .i32 n)=some (.pointer (some ⟨W.heap.size,0,none⟩))∧∀z,z≠.int .i32 n→F' z=F z:=by
  classical
  exact⟨fun z=>if z=.int .i32 n then some (.pointer (some ⟨W.heap.size,0,none⟩)) else F z,by simp,fun z hz=>by simp[hz]⟩
 obtain⟨W',k1,k2,k3⟩:=aa.put zFl underlying248 (Pg.key32 hn) F' g1 g2;have ag:W.heap.size+1≤W'.heap.size:=by have:=k3.size;simpa using this
 refine⟨W',fun k=>if k=n then some W.heap.size else G k,k1,⟨⟨F',k2,fun k hk=>?_⟩,fun k hk=>?_,fun k g hk=>?_,fun k k' g hk ae=>?_⟩,by simp,k3⟩
 · by_cases e:k=n
   · subst e;rw[g1];simp
   rw[g2 _ (by simp;omega),hG k hk];simp[e]
 · by_cases e:k=n
   · subst e;simp
   simp only[Zl e];exact h2 k hk
 · have hne:∀q cs,Rw.At (W.alloc (.cells (Pg.vs zAk).toArray 137)) q 137 cs→Rw.At W' q 137 cs:=fun q cs hq=>hq.grown k3 (by
    intro e;cases e
    obtain⟨es,c,hh,_⟩:=aa;have:=hq.symm.trans hh;cases this)
   by_cases e:k=n
   · subst e;simp only[Yt,Zh];rintro rfl;refine⟨af,by omega,hne _ _ ?_⟩;rw[h2 _ hk hg];exact Rw.At.new W 137 (Pg.vs zAk)
   simp only[Zl e];intro he;obtain⟨a1,a2,a3⟩:=h3 k g hk he;exact⟨a1,by omega,hne _ _ (a3.alloc _)⟩
 by_cases e:k=n
 · by_cases e':k'=n
   · intros;omega
   simp only[Zo e,Zl e',Zh];rintro rfl h6;have:=(h3 k' _ ae h6).2.1;omega
 by_cases e':k'=n
 · simp only[Zo e',Zl e,Zh];rintro h6 rfl;have:=(h3 k _ hk h6).2.1;omega
 simp only[Zl e,Zl e'];exact h4 k k' g hk ae
theorem Pg.St.store (h:Pg.St lo hi W mb f G) {n g j:Nat} (hn:n<4352) (hg:G n=some g) (v:Int) (h1:zAb f' n=(zAb f n).set j v) (h2:∀k,k≠n→zAb f' k=zAb f k) :
 Pg.St lo hi (W.setCell ⟨g,j,none⟩ (.int .u16 v)) mb f' G:=by
 obtain⟨⟨F,⟨es,c,hh,r⟩,hG⟩,i2,i3,i4⟩:=h;obtain⟨a1,a2,a3⟩:=i3 n g hn hg
 have hne:mb≠g:=by
  rintro rfl;have:=a3.symm.trans hh;cases this
 refine⟨⟨F,⟨es,c,(Yn _ _ _ mb hne).trans hh,r⟩,hG⟩,fun k hk aa=>?_,fun k q hk hq=>?_,i4⟩
 · have:k≠n:=by rintro rfl;rw[hg]at aa;cases aa
   rw[h2 k this];exact i2 k hk aa
 obtain⟨b1,b2,b3⟩:=i3 k q hk hq
 by_cases e:k=n
 · subst e;rw[hg]at hq;cases hq
   refine⟨b1,b2,?_⟩;rw[h1];have:=a3.set j (.int .u16 v);rw[show Pg.vs ((zAb f k).set j v)=(Pg.vs (zAb f k)).set j (.int .u16 v) by unfold Pg.vs;rw[List.map_set]];exact this
 refine⟨b1,b2,?_⟩;rw[h2 k e]
 exact b3.other (by
  rintro rfl;exact e (i4 k n q hk hn hq hg)) _
theorem Pg.St.at (h:Pg.St lo hi W mb f G) {n g:Nat} (hn:n<4352) (hg:G n=some g):lo≤g∧g<hi∧Rw.At W g 137 (Pg.vs (zAb f n)):=h.2.2.1 n g hn hg
theorem Pg.St.none (h:Pg.St lo hi W mb f G) {n:Nat} (hn:n<4352) (hg:G n=Option.none):zAb f n=zAk:=h.2.1 n hn hg
end
theorem Pg.At.load {w:World} {g:Nat} {b:List Int} (h:Rw.At w g 137 (Pg.vs b)) (hb:b.length=256):(Instr.loadAt 137 (.pointer (some ⟨g,0,none⟩))).run prog w=.ok (.agg (Pg.vs b).toArray) w :=
 zNv w _ _ g 0 256 _ (by unfold Pg.vs;rw[List.length_map,hb]) (fun j u hu=>by rw[Nat.zero_add];exact h.cell j hu) underlying137 rfl zPg
theorem zM6:Go.WideMaps.ArrKey prog 137 109 256:=⟨underlying137,by kernel_rfl,by kernel_rfl,by kernel_rfl⟩
theorem zM7:Go.Maps.Keyed prog 137:=QI zM6.law
def Pg.u16 (b:List Int):Prop:=b.length=256∧∀x∈b,0≤x∧x≤65535
theorem zM8 {b:List Int} (h:Pg.u16 b):∃l,keyOf prog 137 (.agg (Pg.vs b).toArray)=some l :=
 zLR zM6 underlying109 ⟨385-1,by kernel_rfl⟩ b h.1 fun x hx=>by
  obtain⟨h1,h2⟩:=h.2 x hx;simp only[Lit.wf,Zy,Zp];exact⟨Yf (by decide:_≤(0:Int)) h1,Yf h2 (by decide)⟩
theorem zQn {a b:List Int} (h:Value.agg (Pg.vs a).toArray=.agg (Pg.vs b).toArray):a=b:=by
 simp only[XI]at h;have h:Pg.vs a=Pg.vs b:=by simpa using congrArg Array.toList h
 unfold Pg.vs at h;exact (List.map_inj_right fun x y e=>by simpa using e).1 h
theorem zNw {L:List (Int × Int)} (h:∀x∈L,0≤x.2∧x.2≤65535) (c:Int):0≤Pg.last L c∧Pg.last L c≤65535:=by
 unfold Pg.last
 suffices ∀(L:List (Int × Int)) (a:Int),(∀x∈L,0≤x.2∧x.2≤65535)→0≤a∧a≤65535→0≤L.foldl (fun a x=>if x.1=c then x.2 else a) a∧L.foldl (fun a x=>if x.1=c then x.2 else a) a≤65535 from this L 0 h (by decide)
 intro L
 induction L with
 | nil=>intro a _ ha;exact ha
 | cons x l ih =>
   intro a hl ha;refine ih _ (fun y hy=>hl y (Zv _ hy)) ?_
   by_cases e:x.1=c
   · simp only[Zo e];exact hl x Zt
   simp only[Zl e];exact ha
theorem zPh {L:List (Int × Int)} (h:∀x∈L,0≤x.2∧x.2≤65535) (m:Nat):Pg.u16 (zAb (Pg.last L) m):=by
 refine⟨zBk _ _,fun x hx=>?_⟩;unfold zAb at hx;obtain⟨i,_,rfl⟩:=List.mem_map.1 hx;exact zNw h _
def Pg.Pl (W:World) (pb:Nat) (bl:List (List Int)):Prop :=
 ∃F,Mp.Is prog 137 W pb F∧∀b:List Int,F (.agg (Pg.vs b).toArray)=(zCM bl b).map fun k=>.int .i64 k
theorem Pg.Pl.look {W:World} {pb:Nat} {bl:List (List Int)} (h:Pg.Pl W pb bl) {b:List Int} (hb:Pg.u16 b) :
 (Instr.lookup 250 (.map (some pb)) (.agg (Pg.vs b).toArray) true).run prog W=.ok (.tuple #[.int .i64 ((zCM bl b).getD 0:Nat),.bool (zCM bl b).isSome]) W:=by
 obtain⟨F,hF,hp⟩:=h;obtain⟨l,hl⟩:=zM8 hb;have hz:(zeroValue 3).run prog W=.ok (.int .i64 0) W:=by kernel_rfl
 have:=hF.look zM7 underlying250 hz hl true;rw[Zo rfl,hp b]at this;rw[this];cases zCM bl b <;> rfl
theorem Pg.Pl.put {W:World} {pb:Nat} {bl:List (List Int)} (h:Pg.Pl W pb bl) {b:List Int} (hb:Pg.u16 b) (hn:b∉bl) :
 ∃W',(Instr.mapUpdate 250 (.map (some pb)) (.agg (Pg.vs b).toArray) (.int .i64 bl.length)).run prog W=.ok () W'∧Pg.Pl W' pb (Pg.add bl b)∧W.grownBy W' (some pb):=by
 obtain⟨F,hF,hp⟩:=h;obtain⟨l,hl⟩:=zM8 hb
 obtain⟨F',g1,g2⟩:∃F':Value→Option Value,F' (.agg (Pg.vs b).toArray)=some (.int .i64 bl.length)∧∀z,z≠.agg (Pg.vs b).toArray→F' z=F z:=by
  classical
  exact⟨fun z=>if z=.agg (Pg.vs b).toArray then some (.int .i64 bl.length) else F z,by simp,fun z hz=>by simp[hz]⟩
 obtain⟨W',k1,k2,k3⟩:=hF.put zM7 underlying250 hl F' g1 g2;refine⟨W',k1,⟨F',k2,fun c=>?_⟩,k3⟩;rw[zM3 hn]
 by_cases e:c=b
 · subst e;rw[g1];simp
 rw[g2 _ fun e'=>e (zQn e'),hp c,Zl e]
theorem Pg.Pl.made (w:World) (pb:Nat):∃W',(Instr.mapUpdate 250 (.map (some w.heap.size)) (.agg (Pg.vs zAk).toArray) (.int .i64 0)).run prog (w.alloc (.map #[] 0))=.ok () W'∧Pg.Pl W' w.heap.size [zAk]∧(w.alloc (.map #[] 0)).grownBy W' (some w.heap.size):=by
 have h:Pg.Pl (w.alloc (.map #[] 0)) w.heap.size []:=⟨_,Mp.Is.made w prog 137,fun b=>rfl⟩;have hz:Pg.u16 zAk:=⟨List.length_replicate,fun x hx=>by unfold zAk at hx;have:=List.eq_of_mem_replicate hx;omega⟩;obtain⟨W',h1,h2,h3⟩:=h.put hz (by simp);exact⟨W',h1,h2,h3⟩
theorem Pg.Pl.lt {W:World} {pb:Nat} {bl:List (List Int)} (h:Pg.Pl W pb bl):pb<W.heap.size:=by
 obtain⟨F,hF,_⟩:=h;exact hF.lt
theorem Pg.Pl.grown {W W':World} {pb:Nat} {bl:List (List Int)} {row:Option Nat} (h:Pg.Pl W pb bl) (hg:W.grownBy W' row) (hne:some pb≠row):Pg.Pl W' pb bl:=by
 obtain⟨F,hF,hp⟩:=h;exact⟨F,hF.grown hg hne,hp⟩
theorem Pg.Pl.notAt {W:World} {pb g:Nat} {bl:List (List Int)} (h:Pg.Pl W pb bl) {t:TypeId} {cs:Array Value} {fr:Nat × Nat} (hg:W.heap[g]?=some (.cells cs t fr)):pb≠g:=by
 rintro rfl;obtain⟨F,⟨es,c,hh,_⟩,_⟩:=h;have:=hg.symm.trans hh;cases this
theorem Ud.key32 {c:Int} (h : -2147483648≤c∧c≤2147483647):keyOf prog 21 (.int .i32 c)=some (.int .i32 c):=JC underlying21 (zKS h.1 h.2)
theorem zQo {w:World} {b:Nat} {F:Value→Option Value} (h:Mp.Is prog 21 w b F) {c:Int} (hc : -2147483648≤c∧c≤2147483647) {v:Value} (hv:(F (.int .i32 c)).getD (.slice none 0 0)=v) :
 (Instr.lookup 94 (.map (some b)) (.int .i32 c) false).run prog w=.ok v w:=by
 have hz:(zeroValue 70).run prog w=.ok (.slice none 0 0) w:=by kernel_rfl
 have:=h.look zFl underlying94 hz (Ud.key32 hc) false;rw[Zl (by simp),hv]at this;exact this
theorem zRi {w:World} {b:Nat} {F:Value→Option Value} (h:Mp.Is prog 21 w b F) {c:Int} (hc : -2147483648≤c∧c≤2147483647) (v:Value) :
 ∃w' F',(Instr.mapUpdate 94 (.map (some b)) (.int .i32 c) v).run prog w=.ok () w'∧Mp.Is prog 21 w' b F'∧F' (.int .i32 c)=some v∧(∀y,y≠.int .i32 c→F' y=F y)∧w.grownBy w' (some b):=by
 obtain⟨F',h1,h2⟩:∃F':Value→Option Value,F' (.int .i32 c)=some v∧∀z,z≠.int .i32 c→F' z=F z:=by
  classical
  exact⟨fun z=>if z=.int .i32 c then some v else F z,by simp,fun z hz=>by simp[hz]⟩
 obtain⟨w',g1,g2,g3⟩:=h.put zFl underlying94 (Ud.key32 hc) F' h1 h2;exact⟨w',F',g1,g2,h1,h2,g3⟩
theorem zM9:Go.Maps.Keyed prog 202:=QI (Go.deep_law_laid (m:=3) (by kernel_rfl) (by decide) (YF (by kernel_rfl)) (by kernel_rfl) (by rw[underlying202]))
theorem Ud.pk_key {x y:Int} (hx : -2147483648≤x∧x≤2147483647) (hy : -2147483648≤y∧y≤2147483647):∃l,keyOf prog 202 (zEG x y)=some l:=by
 have h0:∀(m:Nat) (z:Int),-2147483648≤z∧z≤2147483647→prog.keyLits (m+1) 21 [.int .i32 z]=some [.int .i32 z]:=fun m z hz=>by
  unfold Program.keyLits;rw[underlying21];simp[zKS hz.1 hz.2]
 have h1:∀z:Int,-2147483648≤z∧z≤2147483647→prog.keyLits 385 21 [.int .i32 z]=some [.int .i32 z]:=fun z hz=>by
  have:=h0 (385-1) z hz
  rwa [show 385-1+1=385 by decide]at this
 have ht:prog.types.size=385:=by kernel_rfl
 have hc:prog.cellsOf 21=1:=by kernel_rfl
 have aa:prog.cellsOf 202=2:=by kernel_rfl
 have hl:prog.keyLits (prog.types.size+1) 202 [.int .i32 x,.int .i32 y]=some [.int .i32 x,.int .i32 y]:=by
  unfold Program.keyLits;rw[underlying202,ht];simp[hc,aa,h1 x hx,h1 y hy]
 have hk:prog.keyType 202=true:=by kernel_rfl
 have hf:(zEG x y).formed prog 202=true:=by
  unfold Value.formed zEG;rw[underlying202];simp[aa]
 unfold keyOf;rw[underlying202];simp only[hk,hf,Kw,Yt];unfold zEG;simp only[Value.cells];rw[hl];exact⟨_,rfl⟩
theorem zRj {w:World} {b:Nat} {F:Value→Option Value} (h:Mp.Is prog 202 w b F) {x y:Int} (hx : -2147483648≤x∧x≤2147483647) (hy : -2147483648≤y∧y≤2147483647) :
 (Instr.lookup 95 (.map (some b)) (.agg #[.int .i32 x,.int .i32 y]) true).run prog w=.ok (.tuple #[(F (zEG x y)).getD (.int .i32 0),.bool (F (zEG x y)).isSome]) w:=by
 obtain⟨l,hl⟩:=Ud.pk_key hx hy;have hz:(zeroValue 21).run prog w=.ok (.int .i32 0) w:=by kernel_rfl
 have:=h.look zM9 underlying95 hz hl true;rw[Zo rfl]at this;exact this
theorem zRX {w:World} {b:Nat} {F:Value→Option Value} (h:Mp.Is prog 202 w b F) {x y:Int} (hx : -2147483648≤x∧x≤2147483647) (hy : -2147483648≤y∧y≤2147483647) (v:Value) :
 ∃w' F',(Instr.mapUpdate 95 (.map (some b)) (.agg #[.int .i32 x,.int .i32 y]) v).run prog w=.ok () w'∧Mp.Is prog 202 w' b F'∧F' (.agg #[.int .i32 x,.int .i32 y])=some v∧(∀z,z≠.agg #[.int .i32 x,.int .i32 y]→F' z=F z)∧w.grownBy w' (some b):=by
 obtain⟨l,hl⟩:=Ud.pk_key hx hy
 obtain⟨F',h1,h2⟩:∃F':Value→Option Value,F' (zEG x y)=some v∧∀z,z≠zEG x y→F' z=F z:=by
  classical
  exact⟨fun z=>if z=zEG x y then some v else F z,by simp,fun z hz=>by simp[hz]⟩
 obtain⟨w',g1,g2,g3⟩:=h.put zM9 underlying95 hl F' h1 h2;exact⟨w',F',g1,g2,h1,h2,g3⟩
end
end Go.Proofs.YtddbccflcekdpaaGreatDoor
