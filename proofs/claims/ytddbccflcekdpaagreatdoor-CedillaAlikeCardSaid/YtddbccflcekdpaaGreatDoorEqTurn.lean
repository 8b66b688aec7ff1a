/- cedillalaw22.Turned, by walking its text: what is exchanged stays alike. -/
import Derived.Test.YtddbccflcekdpaaGreatDoorSlCut
set_option maxRecDepth 100000
set_option maxHeartbeats 80000000
set_option linter.unusedVariables false
set_option linter.unusedSimpArgs false
namespace Go.Proofs.YtddbccflcekdpaaGreatDoor
open Go.Proofs.Tryz
open Go.RowKit
theorem Md.mp_le2 {T:List Rw.Row} {S:List Int} (ok:Ud.Ok T S) (c:Int):(Md.mp T c).length≤2:=by
 unfold Md.mp;split
 · simp
 unfold zAM;cases h:Md.find T c with
 | none=>simp
 | some r=>simpa using (ok.good r (zAp h).1).2.2.2.1
def Eq.RetTurned (T:List Rw.Row) (l:List Int) (w:World) (e:Ending) (w':World):Prop :=
 ∃(Z:List Int) (A:Option Addr) (c:Nat),e=.returned (.slice A Z.length c)∧w'.ownsRow w.heap.size 3 1 (.slice A Z.length c) Z.length (Z.map (Value.int .i64))∧Nf.chars T Z=Nf.chars T l∧(∀c∈Z,C.isC c=true)∧Below w.heap.size w w'
theorem Eq.turned_any (v:Value) (T:List Rw.Row) (E S:List Int) (Al PA:Option Addr) (ln cl pn pc:Nat) (l P:List Int) (w:World) (ok:Ud.Ok T S) (fy:T.length≤100000) (dp:∀r∈T,r.2.2.length≤1000) (hd:Md.Doc w v T E) (hl:l.length=ln) (jy:ln≤30) (gf:∀c∈l,C.isC c=true) (hA:Sl w w.heap.size Al (l.map (Value.int .i64))) (hp:P.length=pn) (hpn:pn≤maxLen) (hP:Sl w w.heap.size PA (P.map (Value.int .i64))) :
 Calls prog 33 #[v,.slice Al ln cl,.slice PA pn pc] w (Eq.RetTurned T l w):=by
 obtain⟨i0,bf,bm,bl,bc⟩:=Z7 zDE;obtain⟨A2,c2,XA2,xc2,rfl,_⟩:=id hd;obtain⟨n2,e7⟩:∃k,T.length=k:=⟨_,rfl⟩;obtain⟨xn2,ch⟩:∃k,E.length=k:=⟨_,rfl⟩;unfold zBs at hd ⊢;rw[e7,ch]at hd ⊢;obtain⟨wa,c7⟩:∃wa,w.alloc (.cells #[.slice A2 n2 c2,.slice XA2 xn2 xc2] 25)=wa:=⟨_,rfl⟩;have bq:Below w.heap.size w wa:=by rw[←c7];exact (Zc _ _).alloc (Za _) _
 have e5:Rw.At wa w.heap.size 25 [.slice A2 n2 c2,.slice XA2 xn2 xc2]:=by rw[←c7];exact Rw.At.new w 25 [.slice A2 n2 c2,.slice XA2 xn2 xc2]
 obtain⟨wb,dh⟩:∃wb,wa.alloc (.cells #[] 3)=wb:=⟨_,rfl⟩;have b6:Below wa.heap.size wa wb:=by rw[←dh];exact (Zc _ _).alloc (Za _) _
 have how:wb.ownsRow wa.heap.size 3 1 (.slice (some ⟨wa.heap.size,0,none⟩) 0 0) 0 []:=by
  rw[←dh];exact Md.own_empty wa 3 (by decide)
 have dc:=hd.below bq;have gj:=(hA.below bq bq.size).below b6 b6.size;have il:=hy' (hP.below bq bq.size);obtain⟨ZZ,dr⟩:∃z,Nf.chars T l=z:=⟨_,rfl⟩;have hzz:ZZ.length≤1024:=by rw[←dr,Nf.chars_len];exact zFs ok (by omega)
 have h9:Hy (∀(A':Option Addr) (m c':Nat) (z:List Int) (W:World),Below wa.heap.size wa W→z.length=m→m≤1024→(∀c∈z,C.isC c=true)→Sl W W.heap.size A' (z.map (Value.int .i64))→Calls prog 12 #[.agg #[.slice A2 n2 c2,.slice XA2 xn2 xc2],.slice A' m c'] W fun e w'=>∃fu fe,e=.returned (.slice fu (Nf.chars T z).length fe)∧w'.ownsRow W.heap.size 3 1 (.slice fu (Nf.chars T z).length fe) (Nf.chars T z).length ((Nf.chars T z).map (Value.int .i64))∧Below W.heap.size W w'):=hy' fun A' m c' z W hW hz hm hc hs =>
  zEl _ T E A' m c' z W fy ok.bd dp (fun c=>zB5 ok c) (dc.below hW) hz (by omega) (fun x hx=>Nf.isC_i32 (hc x hx)) hs
 have ct:Hy (∀(x:Int) (mp:List Int) (mn:Nat) W,Below wa.heap.size wa W→C.isC x=true→Md.mp T x=mp→mp.length=mn→Calls prog 17 #[.agg #[.slice A2 n2 c2,.slice XA2 xn2 xc2],.int .i64 x] W fun e w'=>∃A' c',e=.returned (.slice A' mn c')∧Sl w' w'.heap.size A' (mp.map (Value.int .i64))∧Below W.heap.size W w'):=hy' fun x mp mn W hW hx h1 h2=>by
  have:=zEj _ T E x W (by omega) (dc.below hW) (Nf.isC_i32 hx).1 (Nf.isC_i32 hx).2;unfold RetInts at this;rw[h1,h2]at this;exact this
 have gi:Hy (∀(x a:Int) W,Below wa.heap.size wa W→Md.cls T x=a→Calls prog 43 #[.agg #[.slice A2 n2 c2,.slice XA2 xn2 xc2],.int .i64 x] W fun e w'=>e=.returned (.int .i64 a)∧Below W.heap.size W w'):=hy' fun x a W hW h1=>by
  have:=zFY _ T E x W (by omega) (dc.below hW);rw[h1]at this;exact this
 have ez:=hy' (zJ1 dp);have h8:=hy' c7;have ei:=hy' bq;have ir:=hy' dh;have ic:=hy' how;have im:=hy' gj;have ih:=hy' e5;have ea:=hy' hp;have bj:=hy' ok;have gh:=hy' dr;have e8:=hy' hzz;have i6:=hy' gf;have gv:=hy' hl;have iy:=hy' b6;have gy:=hy' (show (l.map (Value.int .i64)).length=ln*1 by rw[Ze,hl];omega);have jg:=hy' (zBN .i64 l);have ij:=b6.size;have je:pn≤maxLen:=hpn;simp only[maxLen]at je;clear ok fy dp hd hl gf hA hp hpn hP e7 ch c7 bq e5 dh b6 how dc gj dr hzz;go_enter func33,ntmps33;go_upto_region 1 with (fail)
 rw[h8.o];go_upto_region 2 with (first|(at_builtin;(rw[ir.o]);refine zAc _ rfl _ _ _ rfl wa.heap.size 3 i0 _ 1 8 underlying23 bf bm bl bc rfl (by omega) _ 0 _ rfl ic.o _ Al ln cl (l.map (Value.int .i64)) rfl gy.o im.o jg.o (by simp only[maxLen];omega) (by omega) ij ?_;intro v2 q1 ae fj ed)|fail)
 rw[ZH,ZU]at ae;obtain⟨A8,c8,rfl⟩:=zA2 ae;have iv:=hy' ae;have hk:=hy' (iy.o.trans fj);clear ae fj ed;go_wp2_with fail;go_loopw [7,8] (fun vo vi wr=>∃(k zn:Nat) (Z:List Int) (A:Option Addr) (c:Nat),k≤pn∧k≤20∧vi=.int .i64 k∧vo=.slice A zn c∧Z.length=zn∧wr.ownsRow wa.heap.size 3 1 (.slice A zn c) zn (Z.map (Value.int .i64))∧Nf.chars T Z=ZZ∧(∀c∈Z,C.isC c=true)∧Below wa.heap.size wa wr) (fun _ vi _=>20-(intOf vi).toNat)
 case atStart=>exact⟨0,ln,l,A8,c8,ZG _,ZG _,rfl,rfl,gv.o,iv.o,gh.o,i6.o,hk.o⟩
 obtain⟨k,zn,Z,A,cp,jz,ji,rfl,rfl,bi,ae,cz,dk,a8⟩:=hrel;obtain⟨q0,rfl⟩:∃q:World,q=wr:=⟨_,rfl⟩
 have jv:zn≤1024:=by
  rw[←bi];refine Zi (zBE bj.o Z) ?_;rw[←Nf.chars_len,cz];exact e8.o
 have aq:=hy' bi;have a6:=hy' ae;have bz:=hy' cz;have a1:=hy' dk;have ek:=hy' a8;have aj:Hy (∀W,Below q0.heap.size q0 W→Below wa.heap.size wa W):=hy' fun W hW=>a8.trans (hW.mono a8.size)
 by_cases hgo:k<pn∧k<20∧0<zn
 rotate_left
 · have cg:¬k<pn∨(k<pn∧¬k<20)∨(k<pn∧k<20∧¬0<zn):=by omega
   have bo:Hy (Eq.RetTurned T l w (.returned (.slice A zn cp)) q0):=hy' ⟨Z,A,cp,by rw[bi],by rw[bi];exact zAw ae ei.o.size,by rw[cz,gh.o],dk,ei.o.trans (a8.mono ei.o.size)⟩;clear hgo bi ae cz dk a8;rcases cg with g1|⟨g1,g2⟩|⟨g1,g2,g3⟩
   · go_wp2_with fail;go_ret;exact bo.o
   · go_wp2_with fail;go_ret;exact bo.o
   go_wp2_with fail;go_ret;exact bo.o
 obtain⟨hkp,jt,iu⟩:=hgo;obtain⟨z,hz⟩:∃z,P[k]?=some z:=⟨_,Zb (by rw[ea.o];exact hkp)⟩;obtain⟨qb,qo,rfl,ej,fo⟩:=il.o (by rw[Ze,ea.o];omega);have hc:=fo k (by rw[Ze,ea.o];exact hkp);rw[Zs,hz,ZA,←(zAI a8).1 _ _ ej]at hc;have bt:=Zg ej a8.size;obtain⟨gb,go',rfl,bh,ft⟩:=(Sl.of_own ae) (by rw[Ze,bi];omega);obtain⟨rfl,fk,ed,jd⟩:=zDw ae;obtain⟨_,_,h7,jw⟩:=Nf.At.of_own bi ae;have kQ:(k:Int)<pn:=by omega
 have k2:(k:Int)<20:=by omega
 have k0:(0:Int)≤k:=by omega
 have z1:(zn:Int) > 0:=by omega
 have cw:Hy (∀y:Int,∃j:Nat,j<zn∧Value.int .i64 ((wrap64 (y.tmod zn+zn)).tmod zn)=.int .i64 j):=hy' fun y=>by
  obtain⟨j,h1,h2⟩:=Tx.pick y iu (show zn≤1000000 by omega);exact⟨j,h1,by rw[h2]⟩
 have e3:=hy' ft;have e6:=hy' (And.intro bh fk);clear hz fo ej bi ae cz dk a8 ft jd ed fk;go_upto_region 5 with (fail)
 go_cut [9] (fun s wx=>(∃j:Nat,j<zn∧s=.int .i64 j)∧q0=wx)
 case first =>
  have m0:(zn:Int)≠0:=by omega
  go_wp2_with fail;go_meet;exact⟨cw.o _,rfl⟩
 case rest =>
 obtain⟨⟨j,hj,rfl⟩,rfl⟩:=hcut;obtain⟨x,hx⟩:∃x,Z[j]?=some x:=⟨_,Zb (by rw[aq.o];exact hj)⟩;have e9:=a1.o x (Zn hx);have cj:=e3.o j (by rw[Ze,aq.o];exact hj);rw[Zs,hx,ZA,ZU]at cj;obtain⟨ka,cv⟩:∃z,Z.take j=z:=⟨_,rfl⟩;obtain⟨kb,b7⟩:∃z,Z.drop (j+1)=z:=⟨_,rfl⟩
 have eh:Z.drop j=x::kb:=by
  obtain⟨h1,h2⟩:=List.getElem?_eq_some_iff.1 hx;rw[ZM h1,h2,b7]
 have fq:Z=ka++x::kb:=by rw[←eh,←cv,ZF]
 have cu:ka.length=j:=by rw[←cv,Zq,aq.o];omega
 have cm:kb.length=zn-(j+1):=by rw[←b7,ZO,aq.o]
 have b3:∀c∈ka,C.isC c=true:=fun c hc=>a1.o c (Z5 (cv▸hc))
 have cy:∀c∈kb,C.isC c=true:=fun c hc=>a1.o c (Xj (b7▸hc))
 have di:=a6.o
 have ey:Hy (∀W,Below q0.heap.size q0 W→Sl W W.heap.size (some ⟨gb,0,none⟩) (ka.map (Value.int .i64))):=hy' fun W hW=>by
  rw[←cv,Q4];exact ((Sl.of_own di).below hW hW.size).takeN j
 have ig:Hy (∀W,Below q0.heap.size q0 W→Sl W W.heap.size (some ⟨gb,j+1,none⟩) (kb.map (Value.int .i64))):=hy' fun W hW=>by
  have:=((Sl.of_own di).below hW hW.size).dropN (j+1);rw[ZU]at this;rw[←b7,QB];exact this
 have ix:Hy (∀W,Below q0.heap.size q0 W→Sl W W.heap.size (some ⟨gb,j,none⟩) ((x::kb).map (Value.int .i64))):=hy' fun W hW=>by
  have:=((Sl.of_own di).below hW hW.size).dropN j;rw[ZU]at this;rw[←eh,QB];exact this
 have dl:=hy' (ih.o.below ek.o)
 have fh:Hy (∀W,Below q0.heap.size q0 W→(∀x:Stg.Later Stg.Ex W,x.val.cell? ⟨w.heap.size,0,none⟩=some (.slice A2 n2 c2))∧(∀x:Stg.Later Stg.Ex W,x.val.cell? ⟨w.heap.size,1,none⟩=some (.slice XA2 xn2 xc2))∧(∀u:Stg.Later Stg.Ex W,u.val.cell? ⟨gb,j,none⟩=some (.int .i64 x))):=hy' fun W hW =>
  have hT:=dl.o.below hW
  ⟨Stg.cells (hT.cell 0 rfl) hT.lt,Stg.cells (hT.cell 1 rfl) hT.lt,Stg.cells (((zAI hW).1 _ _ bh).trans cj) (Zg bh hW.size)⟩
 have HX:=hy' hx;have dm:=hy' e9;have cn:=hy' fq;have bw:=hy' cu;have c1:=hy' cm;have bp:=hy' b3;have ew:=hy' cy;have gw:=hy' cj;have jI:(j:Int)<zn:=by omega
 have j0:(0:Int)≤j:=by omega
 have jc:(j:Int)≤cp:=by omega
 have jl:(j:Int)≤zn:=by omega
 obtain⟨md,ef⟩:∃q,bits .and .i64 z 3=q:=⟨_,rfl⟩;clear hx e9 cj cv b7 eh fq cu cm b3 cy di
 by_cases hm0:md=0
 · subst hm0;obtain⟨mp,bu⟩:∃q,Md.mp T x=q:=⟨_,rfl⟩;obtain⟨mn,hmn⟩:∃q,mp.length=q:=⟨_,rfl⟩;have dx:mn≤1000:=by rw[←hmn,←bu];exact ez.o x
   have ag:=hy' bu;have ay:=hy' hmn;have a7:=hy' (Zc q0.heap.size q0).drew;clear bu hmn;go_upto_region 12 with (fail)
   clear ef hc bt;refine Stg.wp_region (by kernel_rfl) Stg.Ex Stg.Ex.rel ?_;obtain⟨f0,f1,e0⟩:=fh.o q0.drew a7.o;refine Stg.read 0 (by kernel_rfl) q0.drew rfl ?_;intro K hK;go_big_quiet_op;go_big_quiet_on;(iterate 3 (refine Stg.readW (by kernel_rfl) ?_;intro K hK;go_big_quiet_op;go_big_quiet_on));refine Stg.read 0 (by kernel_rfl) q0.drew rfl ?_;intro K hK;go_big_quiet_op;go_big_quiet_on;refine Stg.call 17 _ _ rfl func17 [.agg #[.slice A2 n2 c2,.slice XA2 xn2 xc2],.int .i64 x] rfl q0.drew _ (ct.o x mp mn q0.drew (aj.o _ a7.o) dm.o ag.o ay.o) (by kernel_rfl) rfl ?_;rintro e v1 ⟨A9,c9,rfl,bg,hb⟩;refine⟨_,rfl,hb,?_⟩;have az:=hy' (a7.o.trans (hb.mono a7.o.size));have e4:=hy' bg;clear bg;clear hb;intro A' aa;simp only[Act.put,Zf,Zk,Zj]at aa;subst aa
   refine Stg.readW (by kernel_rfl) ?_;intro K hK;go_big_quiet_op;go_big_quiet_on;clear f0 f1 e0;refine Stg.nil v1 rfl ?_;rcases Yy mn with hm|hm
   · have nI:¬((mn:Int) > 0):=by omega
     have ie:=hy' (zA4 a6.o az.o (Za _));go_wp2_with fail;go_roundw
     case rel=>exact⟨k+1,zn,Z,_,cp,by omega,by omega,by first|rfl|go_num,rfl,aq.o,ie.o,bz.o,a1.o,aj.o _ az.o⟩
     simp[intOf];omega
   have nI:(mn:Int) > 0:=by omega
   have b5:Md.mp T x≠[]:=fun e=>by
    have h1:=ay.o;rw[←ag.o,e]at h1;simp at h1;omega
   have ah:Nf.chars T (ka++(mp++kb))=ZZ:=by
    rw[←ag.o,zMu bj.o ka kb b5,←cn.o];exact bz.o
   have hlen:(ka++(mp++kb)).length=j+mn+(zn-(j+1)):=by
    rw[Zd,Zd,bw.o,ay.o,c1.o];omega
   have bk:∀c∈ka++(mp++kb),C.isC c=true:=fun c hc=>by
    rcases List.mem_append.1 hc with h|h
    · exact bp.o c h
    rcases List.mem_append.1 h with h|h
    · rw[←ag.o]at h;exact zQK bj.o h
    exact ew.o c h
   have bx:=hy' ah;have ak:=hy' hlen;have b2:=hy' bk;have fg:=hy' (show (ka.map (Value.int .i64)).length=j*1 by rw[Ze,bw.o];omega);have fx:=hy' (zBN .i64 ka);have gp:=hy' (show (mp.map (Value.int .i64)).length=mn*1 by rw[Ze,ay.o];omega);have gg:=hy' (zBN .i64 mp);have fc:=hy' (zBN .i64 kb);have ju:(j:Int)+1≤cp:=by omega
   have jn:(j:Int)+1≤zn:=by omega
   have bn:=hy' (Zc v1.heap.size v1).drew;have cx:Hy (∀W,Below v1.heap.size v1 W→Below q0.heap.size q0 W):=hy' fun W hW=>az.o.trans (hW.mono az.o.size)
   clear b5 ah hlen bk;rcases ZY (j+1) cp with hkc|hkc
   · have iw:¬cp=j+1:=by omega
     have br:=hy' (show (kb.map (Value.int .i64)).length=(zn-(j+1))*1 by rw[Ze,c1.o];omega);go_upto_region 14 with (fail)
     refine Stg.wp_region (by kernel_rfl) (Stg.Keep fun b=>b<v1.heap.size) (Stg.Keep.rel _) ?_;refine Stg.stepW (by kernel_rfl) v1.drew rfl ?_;intro K hK;go_simp;obtain⟨x1,ar⟩:∃wd,(v1.alloc (.cells #[] 3)).drew=wd:=⟨_,rfl⟩;have hbd:Below v1.heap.size v1 x1:=by rw[←ar];exact ((Zc _ _).alloc (Za _) _).drew
     have du:Hy (x1.ownsRow v1.heap.size 3 1 (.slice (some ⟨v1.heap.size,0,none⟩) 0 0) 0 []):=hy' (by rw[←ar];exact zA4 (Md.own_empty v1 3 (by decide)) (Zc _ _).drew (Za _));have ap:=hy' hbd;refine hK _ _ (fun q hq=>by rw[ar];exact hbd.block q hq) ?_;rw[ar];clear hbd ar;intro A' aa;try simp only[Act.put,Zf,Zk,Zj]at aa
     subst aa;(iterate 3 (refine Stg.readW (by kernel_rfl) ?_;intro K hK;go_big_quiet_op;go_big_quiet_on));refine Stg.stepW (by kernel_rfl) x1 rfl ?_;intro K hK;have ai:=hy' (ey.o x1 (cx.o _ ap.o));refine zAO x1 _ _ _ rfl v1.heap.size 3 i0 _ 1 8 underlying23 bf bm bl bc rfl (by omega) _ 0 _ rfl du.o _ (some ⟨gb,0,none⟩) j cp (ka.map (Value.int .i64)) rfl fg.o ai.o fx.o (by simp only[maxLen];omega) (by omega) ap.o.size ?_;intro v7 x2 ae hb hg;have aw:=hy' (ap.o.trans hb);refine hK _ _ (Stg.Keep.of_below hb (fun q hq=>hq)) ?_;rw[ZH,ZU]at ae;obtain⟨b4,cf,rfl⟩:=zA2 ae;have e2:=hy' ae;clear ae hb hg ai;intro A' aa;simp only[Act.put,Zf,Zk,Zj]at aa;subst aa;refine Stg.readW (by kernel_rfl) ?_;intro K hK;go_big_quiet_op;go_big_quiet_on;refine Stg.stepW (by kernel_rfl) x2 rfl ?_;intro K hK;have ai:=hy' (e4.o.below aw.o aw.o.size);refine zAO x2 _ _ _ rfl v1.heap.size 3 i0 _ 1 8 underlying23 bf bm bl bc rfl (by omega) _ j _ rfl e2.o _ A9 mn c9 (mp.map (Value.int .i64)) rfl gp.o ai.o gg.o (by simp only[maxLen];omega) (by omega) aw.o.size ?_;intro v7 x3 ae hb hg;have b1:=hy' (aw.o.trans hb);refine hK _ _ (Stg.Keep.of_below hb (fun q hq=>hq)) ?_;rw[←ZK]at ae;obtain⟨b8,cr,rfl⟩:=zA2 ae;have ec:=hy' ae;clear ae hb hg ai;intro A' aa;simp only[Act.put,Zf,Zk,Zj]at aa;subst aa;(iterate 4 (refine Stg.readW (by kernel_rfl) ?_;intro K hK;go_big_quiet_op;go_big_quiet_on))
     refine Stg.stepW (by kernel_rfl) x3 rfl ?_;intro K hK;have ai:=hy' (ig.o x3 (cx.o _ b1.o));refine zAO x3 _ _ _ rfl v1.heap.size 3 i0 _ 1 8 underlying23 bf bm bl bc rfl (by omega) _ (j+mn) _ rfl ec.o _ (some ⟨gb,j+1,none⟩) (zn-(j+1)) (cp-(j+1)) (kb.map (Value.int .i64)) rfl br.o ai.o fc.o (by simp only[maxLen];omega) (by omega) b1.o.size ?_;intro v7 x4 ae hb hg;have en:=hy' (b1.o.trans hb);refine hK _ _ (Stg.Keep.of_below hb (fun q hq=>hq)) ?_;rw[←ZK]at ae;obtain⟨cc,cb,rfl⟩:=zA2 ae;have eo:=hy' ae;clear ae hb hg ai;intro A' aa;simp only[Act.put,Zf,Zk,Zj]at aa;subst aa;refine Stg.readW (by kernel_rfl) ?_;intro K hK;go_big_quiet_op;go_big_quiet_on;refine Stg.nil x4 rfl ?_;have av:=zAw eo.o (show wa.heap.size≤v1.heap.size from (aj.o _ az.o).size);have au:=hy' av;clear av;go_wp2_with fail;go_roundw
     case rel=>exact⟨k+1,_,ka++(mp++kb),_,_,by omega,by omega,by first|rfl|go_num,rfl,ak.o,by rw[←ZC];exact au.o,bx.o,b2.o,aj.o _ (cx.o _ en.o)⟩
     simp[intOf];omega
   obtain rfl:cp=j+1:=by omega
   obtain rfl:zn=j+1:=by omega
   have ep:kb=[]:=Zz (by rw[c1.o];omega);have eb:Hy (∀W:World,Sl W W.heap.size (some ⟨gb,0,none⟩) (kb.map (Value.int .i64))):=hy' fun W=>by rw[ep];exact Sl.nil _ _ _
   have br:=hy' (show (kb.map (Value.int .i64)).length=0*1 by rw[ep];rfl);clear ep;go_upto_region 14 with (fail)
   refine Stg.wp_region (by kernel_rfl) (Stg.Keep fun b=>b<v1.heap.size) (Stg.Keep.rel _) ?_;refine Stg.stepW (by kernel_rfl) v1.drew rfl ?_;intro K hK;go_simp;obtain⟨x1,ar⟩:∃wd,(v1.alloc (.cells #[] 3)).drew=wd:=⟨_,rfl⟩;have hbd:Below v1.heap.size v1 x1:=by rw[←ar];exact ((Zc _ _).alloc (Za _) _).drew
   have du:Hy (x1.ownsRow v1.heap.size 3 1 (.slice (some ⟨v1.heap.size,0,none⟩) 0 0) 0 []):=hy' (by rw[←ar];exact zA4 (Md.own_empty v1 3 (by decide)) (Zc _ _).drew (Za _));have ap:=hy' hbd;refine hK _ _ (fun q hq=>by rw[ar];exact hbd.block q hq) ?_;rw[ar];clear hbd ar;intro A' aa;try simp only[Act.put,Zf,Zk,Zj]at aa
   subst aa;(iterate 3 (refine Stg.readW (by kernel_rfl) ?_;intro K hK;go_big_quiet_op;go_big_quiet_on));refine Stg.stepW (by kernel_rfl) x1 rfl ?_;intro K hK;have ai:=hy' (ey.o x1 (cx.o _ ap.o));refine zAO x1 _ _ _ rfl v1.heap.size 3 i0 _ 1 8 underlying23 bf bm bl bc rfl (by omega) _ 0 _ rfl du.o _ (some ⟨gb,0,none⟩) j (j+1) (ka.map (Value.int .i64)) rfl fg.o ai.o fx.o (by simp only[maxLen];omega) (by omega) ap.o.size ?_;intro v7 x2 ae hb hg;have aw:=hy' (ap.o.trans hb);refine hK _ _ (Stg.Keep.of_below hb (fun q hq=>hq)) ?_;rw[ZH,ZU]at ae;obtain⟨b4,cf,rfl⟩:=zA2 ae;have e2:=hy' ae;clear ae hb hg ai;intro A' aa;simp only[Act.put,Zf,Zk,Zj]at aa;subst aa;refine Stg.readW (by kernel_rfl) ?_;intro K hK;go_big_quiet_op;go_big_quiet_on;refine Stg.stepW (by kernel_rfl) x2 rfl ?_;intro K hK;have ai:=hy' (e4.o.below aw.o aw.o.size);refine zAO x2 _ _ _ rfl v1.heap.size 3 i0 _ 1 8 underlying23 bf bm bl bc rfl (by omega) _ j _ rfl e2.o _ A9 mn c9 (mp.map (Value.int .i64)) rfl gp.o ai.o gg.o (by simp only[maxLen];omega) (by omega) aw.o.size ?_;intro v7 x3 ae hb hg;have b1:=hy' (aw.o.trans hb);refine hK _ _ (Stg.Keep.of_below hb (fun q hq=>hq)) ?_;rw[←ZK]at ae;obtain⟨b8,cr,rfl⟩:=zA2 ae;have ec:=hy' ae;clear ae hb hg ai;intro A' aa;simp only[Act.put,Zf,Zk,Zj]at aa;subst aa;(iterate 4 (refine Stg.readW (by kernel_rfl) ?_;intro K hK;go_big_quiet_op;go_big_quiet_on))
   refine Stg.stepW (by kernel_rfl) x3 rfl ?_;intro K hK;have ai:=hy' (eb.o x3);refine zAO x3 _ _ _ rfl v1.heap.size 3 i0 _ 1 8 underlying23 bf bm bl bc rfl (by omega) _ (j+mn) _ rfl ec.o _ (some ⟨gb,0,none⟩) 0 0 (kb.map (Value.int .i64)) rfl br.o ai.o fc.o (by simp only[maxLen];omega) (by omega) b1.o.size ?_;intro v7 x4 ae hb hg;have en:=hy' (b1.o.trans hb);refine hK _ _ (Stg.Keep.of_below hb (fun q hq=>hq)) ?_;rw[←ZK]at ae;obtain⟨cc,cb,rfl⟩:=zA2 ae;have eo:=hy' ae;clear ae hb hg ai;intro A' aa;simp only[Act.put,Zf,Zk,Zj]at aa;subst aa;refine Stg.readW (by kernel_rfl) ?_;intro K hK;go_big_quiet_op;go_big_quiet_on;refine Stg.nil x4 rfl ?_;have av:=zAw eo.o (show wa.heap.size≤v1.heap.size from (aj.o _ az.o).size);have au:=hy' av;clear av;go_wp2_with fail;go_roundw
   case rel=>exact⟨k+1,_,ka++(mp++kb),_,_,by omega,by omega,by first|rfl|go_num,rfl,by rw[ak.o,Yo],by rw[←ZC];exact au.o,bx.o,b2.o,aj.o _ (cx.o _ en.o)⟩
   simp[intOf];omega
 have fw:(md == 0)=false:=by simpa using hm0
 by_cases hm1:md=1
 · subst hm1;obtain⟨R,hR⟩:∃q,Nf.chars T ka=q:=⟨_,rfl⟩;obtain⟨rn,dn⟩:∃q,R.length=q:=⟨_,rfl⟩;have ah:Nf.chars T (R++(x::kb))=ZZ:=by rw[←hR,zJH bj.o,←cn.o];exact bz.o
   have hlen:(R++(x::kb)).length=rn+(zn-j):=by
    rw[Zd,ZE,dn,c1.o];omega
   have jq:rn+(zn-j)≤1024:=by
    rw[←hlen];refine Zi (zBE bj.o _) ?_;rw[←Nf.chars_len,ah];exact e8.o
   have bk:∀c∈R++(x::kb),C.isC c=true:=fun c hc=>by
    rcases List.mem_append.1 hc with h|h
    · rw[←hR]at h;exact Nf.chars_isC bj.o bp.o c h
    exact a1.o c (by rw[cn.o];exact XJ _ h)
   have bx:=hy' ah;have ak:=hy' hlen;have b2:=hy' bk;have eg:=h9.o (some ⟨gb,0,none⟩) j cp ka;rw[hR,dn]at eg;have eu:=hy' (fun W (hW:Below q0.heap.size q0 W)=>eg W (aj.o W hW) bw.o (by omega) bp.o (ey.o W hW))
   have jb:Hy (∀W,Below q0.heap.size q0 W→(∀x:Stg.Later (Stg.Keep fun b=>b<q0.heap.size) W,x.val.cell? ⟨w.heap.size,0,none⟩=some (.slice A2 n2 c2))∧(∀x:Stg.Later (Stg.Keep fun b=>b<q0.heap.size) W,x.val.cell? ⟨w.heap.size,1,none⟩=some (.slice XA2 xn2 xc2))):=hy' fun W hW =>
    have hT:=dl.o.below hW
    ⟨Stg.Keep.cells (hT.cell 0 rfl) dl.o.lt,Stg.Keep.cells (hT.cell 1 rfl) dl.o.lt⟩
   have bn:=hy' (Zc q0.heap.size q0).drew;have h0:=hy' (show ((x::kb).map (Value.int .i64)).length=(zn-j)*1 by rw[Ze,ZE,c1.o];omega);have i7:=hy' (zBN .i64 (x::kb));have iw:¬cp=j:=by omega
   clear hR dn ah hlen bk eg fw hm0;go_upto_region 16 with (fail)
   clear ef hc bt;refine Stg.wp_region (by kernel_rfl) (Stg.Keep fun b=>b<q0.heap.size) (Stg.Keep.rel _) ?_;obtain⟨f0,f1⟩:=jb.o q0.drew bn.o;refine Stg.read 0 (by kernel_rfl) q0.drew rfl ?_;intro K hK;go_big_quiet_op;go_big_quiet_on;(iterate 3 (refine Stg.readW (by kernel_rfl) ?_;intro K hK;go_big_quiet_op;go_big_quiet_on));refine Stg.call 12 _ _ rfl func12 [.agg #[.slice A2 n2 c2,.slice XA2 xn2 xc2],.slice (some ⟨gb,0,none⟩) j cp] rfl q0.drew _ (eu.o q0.drew bn.o) (by kernel_rfl) rfl ?_;rintro e x1 ⟨A6,c6,rfl,gm,hb⟩;refine⟨_,rfl,(Stg.Keep.of_below hb (fun q hq=>Zg hq bn.o.size)),?_⟩;have ap:=hy' (bn.o.trans (hb.mono bn.o.size));have gx:=hy' (zAw gm bn.o.size);clear gm;clear hb;intro A' aa;simp only[Act.put,Zf,Zk,Zj]at aa;subst aa
   (iterate 3 (refine Stg.readW (by kernel_rfl) ?_;intro K hK;go_big_quiet_op;go_big_quiet_on))
   refine Stg.stepW (by kernel_rfl) x1 rfl ?_;intro K hK;have dz:=hy' (ix.o x1 ap.o);refine zAO x1 _ _ _ rfl q0.heap.size 3 i0 _ 1 8 underlying23 bf bm bl bc rfl (by omega) _ rn _ rfl gx.o _ (some ⟨gb,j,none⟩) (zn-j) (cp-j) ((x::kb).map (Value.int .i64)) rfl h0.o dz.o i7.o (by simp only[maxLen];omega) (by omega) ap.o.size ?_;intro v7 x2 ae hb hg;have aw:=hy' (ap.o.trans hb);refine hK _ _ (Stg.Keep.of_below hb (fun q hq=>hq)) ?_;rw[←ZK]at ae;obtain⟨jr,jo,rfl⟩:=zA2 ae;have ik:=hy' ae;clear ae hb hg;intro A' aa;simp only[Act.put,Zf,Zk,Zj]at aa;subst aa;refine Stg.readW (by kernel_rfl) ?_;intro K hK;go_big_quiet_op;go_big_quiet_on;clear f0 f1;refine Stg.nil x2 rfl ?_;have au:=hy' (zAw ik.o (show wa.heap.size≤q0.heap.size from ek.o.size));go_wp2_with fail;go_roundw
   case rel=>exact⟨k+1,_,R++(x::kb),_,_,by omega,by omega,by first|rfl|go_num,rfl,ak.o,au.o,bx.o,b2.o,aj.o _ aw.o⟩
   simp[intOf];omega
 have ja:(md == 1)=false:=by simpa using hm1
 by_cases hj1:j+1<zn
 rotate_left
 · have iq:(j:Int)+1≥zn:=by omega
   clear hm0 hm1;go_wp2_with fail;go_roundw
   case rel=>exact⟨k+1,zn,Z,_,cp,by omega,by omega,by first|rfl|go_num,rfl,aq.o,a6.o,bz.o,a1.o,ek.o⟩
   simp[intOf];omega
 obtain⟨y,hy⟩:∃y,Z[j+1]?=some y:=⟨_,Zb (by rw[aq.o];exact hj1)⟩;have fp:=a1.o y (Zn hy);have ck:=e3.o (j+1) (by rw[Ze,aq.o];exact hj1);rw[Zs,hy,ZA,ZU]at ck
 obtain⟨kc,hkc⟩:∃q,kb=y::q:=by
  obtain⟨h3,h4⟩:=List.getElem?_eq_some_iff.1 hy;have h5:=Yb (List.drop (j+1)) cn.o;rw[ZM h3,h4]at h5
  have h6:(ka++x::kb).drop (j+1)=kb:=by
   rw[List.drop_append,bw.o,Xl (by rw[bw.o];omega),show j+1-j=1 by omega];rfl
  rw[h6]at h5;exact⟨_,h5.symm⟩
 have cq:Hy (∀W,Below q0.heap.size q0 W→(∀x:Stg.Later Stg.Ex W,x.val.cell? ⟨w.heap.size,0,none⟩=some (.slice A2 n2 c2))∧(∀x:Stg.Later Stg.Ex W,x.val.cell? ⟨w.heap.size,1,none⟩=some (.slice XA2 xn2 xc2))∧(∀u:Stg.Later Stg.Ex W,u.val.cell? ⟨gb,j,none⟩=some (.int .i64 x))∧(∀u:Stg.Later Stg.Ex W,u.val.cell? ⟨gb,j+1,none⟩=some (.int .i64 y))):=hy' fun W hW =>
  have hT:=fh.o W hW
  ⟨hT.1,hT.2.1,hT.2.2,Stg.cells (((zAI hW).1 _ _ bh).trans ck) (Zg bh hW.size)⟩
 obtain⟨a,ha⟩:∃a,Md.cls T x=a:=⟨_,rfl⟩;obtain⟨b,hb⟩:∃b,Md.cls T y=b:=⟨_,rfl⟩;have dv:=hy' ha;have dt:=hy' hb;have ib:=hy' fp;have hh:=hy' ck;have iz:=hy' hkc;have j2:(j:Int)+1<zn:=by omega
 have iq:¬((j:Int)+1≥zn):=by omega
 have a7:=hy' (Zc q0.heap.size q0).drew;clear hy fp ck hkc ha hb hm0 hm1;go_upto_region 8 with (fail)
 clear ef hc bt fw ja;refine Stg.wp_region (by kernel_rfl) Stg.Ex Stg.Ex.rel ?_;obtain⟨f0,f1,e0,e1⟩:=cq.o q0.drew a7.o;refine Stg.read 0 (by kernel_rfl) q0.drew rfl ?_;intro K hK;go_big_quiet_op;go_big_quiet_on;(iterate 3 (refine Stg.readW (by kernel_rfl) ?_;intro K hK;go_big_quiet_op;go_big_quiet_on));refine Stg.read 0 (by kernel_rfl) q0.drew rfl ?_;intro K hK;go_big_quiet_op;go_big_quiet_on;refine Stg.call 43 _ _ rfl func43 [.agg #[.slice A2 n2 c2,.slice XA2 xn2 xc2],.int .i64 x] rfl q0.drew _ (gi.o x a q0.drew (aj.o _ a7.o) dv.o) (by kernel_rfl) rfl ?_;rintro e v1 ⟨rfl,hb⟩;refine⟨_,rfl,hb,?_⟩;have az:=hy' (a7.o.trans (hb.mono a7.o.size));clear hb;intro A' aa;simp only[Act.put,Zf,Zk,Zj]at aa;subst aa
 refine Stg.read 1 (by kernel_rfl) q0.drew rfl ?_;intro K hK;go_big_quiet_op;go_big_quiet_on;(iterate 4 (refine Stg.readW (by kernel_rfl) ?_;intro K hK;go_big_quiet_op;go_big_quiet_on));refine Stg.read 1 (by kernel_rfl) q0.drew rfl ?_;intro K hK;go_big_quiet_op;go_big_quiet_on;refine Stg.call 43 _ _ rfl func43 [.agg #[.slice A2 n2 c2,.slice XA2 xn2 xc2],.int .i64 y] rfl v1 _ (gi.o y b v1 (aj.o _ az.o) dt.o) (by kernel_rfl) rfl ?_;rintro e v2 ⟨rfl,hb⟩;refine⟨_,rfl,hb,?_⟩;have fm:=hy' (az.o.trans (hb.mono az.o.size));clear hb;intro A' aa;simp only[Act.put,Zf,Zk,Zj]at aa;subst aa
 (iterate 2 (refine Stg.readW (by kernel_rfl) ?_;intro K hK;go_big_quiet_op;go_big_quiet_on))
 clear f0 f1 e0 e1;refine Stg.nil v2 rfl ?_;have ax:=hy' fm.o;clear fm;go_upto_region 9 with (fail)
 go_cut [99] (fun s wx=>∃bb,s=.bool bb∧(bb=true→0<a∧0<b∧a≠b∧Md.mp T x=[]∧Md.mp T y=[])∧Below q0.heap.size q0 wx)
 case rest =>
  obtain⟨bb,rfl,et,bs⟩:=hcut;obtain⟨q3,rfl⟩:∃q:World,q=wc:=⟨_,rfl⟩;have gq:=hy' bs;have df:=hy' (zA4 a6.o bs (Za _));rcases bb with _|_
  · clear et bs;go_wp2_with fail;go_roundw
    case rel=>exact⟨k+1,zn,Z,_,cp,by omega,by omega,by first|rfl|go_num,rfl,aq.o,df.o,bz.o,a1.o,aj.o _ gq.o⟩
    simp[intOf];omega
  obtain⟨g1,g2,g3,g4,g5⟩:=et rfl;have cj:=((zAI bs).1 _ j bh).trans gw.o;have ck:=((zAI bs).1 _ (j+1) bh).trans hh.o;have jx:=Zg bh bs.size;have fz:q3.frozen? ⟨gb,j,none⟩=false:=(zDw df.o).2.2.2 j;have j1:q3.frozen? ⟨gb,j+1,none⟩=false:=(zDw df.o).2.2.2 (j+1);have cd:Z=ka++x::y::kc:=by rw[cn.o,iz.o]
  have ah:Nf.chars T (ka++y::x::kc)=ZZ:=by
   rw[zLa bj.o ka kc (by rw[dv.o];exact g1) (by rw[dt.o];exact g2) (by rw[dv.o,dt.o];exact g3) g4 g5,←cd];exact bz.o
  have hlen:(ka++y::x::kc).length=zn:=by
   have:=aq.o;rw[cd]at this;simpa using this
  have bk:∀c∈ka++y::x::kc,C.isC c=true:=fun c hc=>by
   refine a1.o c ?_;rw[cd];simp only[YS,Y0]at hc ⊢;rcases hc with h|h|h|h
   · exact .inl h
   · exact .inr (.inr (.inl h))
   · exact .inr (.inl h)
   exact .inr (.inr (.inr h))
  have i1:=hy' cd;have bx:=hy' ah;have ak:=hy' hlen;have b2:=hy' bk;clear et bs g1 g2 g3 g4 g5 cd ah hlen bk;go_upto_region 10 with (fail)
  go_region;go_wp2_with fail;obtain⟨hN,jf,gz,ho⟩:=Nf.At.of_own (l:=Z) aq.o df.o;rw[i1.o]at hN;have hS:=hN.swap;rw[bw.o]at hS;have hO:=hS.own ak.o jf gz ho;go_roundw
  case rel=>exact⟨k+1,zn,ka++y::x::kc,_,cp,by omega,by omega,by first|rfl|go_num,rfl,ak.o,hO,bx.o,b2.o,(((aj.o _ gq.o).setCell (p:=⟨gb,j,none⟩) e6.o.2 _).setCell (p:=⟨gb,j+1,none⟩) e6.o.2 _).drew⟩
  simp[intOf];omega
 obtain⟨mp,bu⟩:∃q,Md.mp T x=q:=⟨_,rfl⟩;obtain⟨mn,hmn⟩:∃q,mp.length=q:=⟨_,rfl⟩;obtain⟨mq,dw⟩:∃q,Md.mp T y=q:=⟨_,rfl⟩;obtain⟨mk,dy⟩:∃q,mq.length=q:=⟨_,rfl⟩;have dx:mn≤1000:=by rw[←hmn,←bu];exact ez.o x
 have jh:mk≤1000:=by rw[←dy,←dw];exact ez.o y
 have ag:=hy' bu;have ay:=hy' hmn;have b9:=hy' dw;have gl:=hy' dy;clear bu hmn dw dy
 by_cases g1:0<a
 case neg =>
  go_quiet (fail)
  try go_wp2_with fail
  go_meet;exact⟨false,by first|rfl|simp,fun e=>absurd e (by decide),by first|exact below_drewN ax.o _|exact ax.o.drew|exact ax.o⟩
 by_cases g2:0<b
 case neg =>
  go_quiet (fail)
  try go_wp2_with fail
  go_meet;exact⟨false,by first|rfl|simp,fun e=>absurd e (by decide),by first|exact below_drewN ax.o _|exact ax.o.drew|exact ax.o⟩
 by_cases h3:a=b
 case pos =>
  have h4:(a != b)=false:=by simp[h3]
  clear h3;go_quiet (fail)
  try go_wp2_with fail
  go_meet;exact⟨false,by first|rfl|simp,fun e=>absurd e (by decide),by first|exact below_drewN ax.o _|exact ax.o.drew|exact ax.o⟩
 have h4:(a != b)=true:=by simpa using h3
 have H3:=hy' h3;clear h3;have ao:=hy' ax.o.drew;rcases Yy mn with hm|hm
 · subst hm;refine Stg.wp_region (by kernel_rfl) Stg.Ex Stg.Ex.rel ?_;(iterate 12 (refine Stg.readW (by kernel_rfl) ?_;intro K hK;go_big_quiet_op;go_big_quiet_on));obtain⟨f0,f1,e0,e1⟩:=cq.o v2.drew ao.o;refine Stg.read 0 (by kernel_rfl) v2.drew rfl ?_;intro K hK;go_big_quiet_op;go_big_quiet_on;(iterate 3 (refine Stg.readW (by kernel_rfl) ?_;intro K hK;go_big_quiet_op;go_big_quiet_on));refine Stg.read 0 (by kernel_rfl) v2.drew rfl ?_;intro K hK;go_big_quiet_op;go_big_quiet_on;refine Stg.call 17 _ _ rfl func17 [.agg #[.slice A2 n2 c2,.slice XA2 xn2 xc2],.int .i64 x] rfl v2.drew _ (ct.o x mp 0 v2.drew (aj.o _ ao.o) dm.o ag.o ay.o) (by kernel_rfl) rfl ?_;rintro e u1 ⟨A9,c9,rfl,bg,hb⟩;refine⟨_,rfl,hb,?_⟩;have ba:=hy' (ao.o.trans (hb.mono ao.o.size));clear bg;clear hb;intro A' aa;simp only[Act.put,Zf,Zk,Zj]at aa;subst aa
   (iterate 4 (refine Stg.readW (by kernel_rfl) ?_;intro K hK;go_big_quiet_op;go_big_quiet_on))
   clear f0 f1 e0 e1;obtain⟨f0,f1,e0,e1⟩:=cq.o u1 ba.o;refine Stg.read 0 (by kernel_rfl) u1 rfl ?_;intro K hK;go_big_quiet_op;go_big_quiet_on;(iterate 4 (refine Stg.readW (by kernel_rfl) ?_;intro K hK;go_big_quiet_op;go_big_quiet_on));refine Stg.read 0 (by kernel_rfl) u1 rfl ?_;intro K hK;go_big_quiet_op;go_big_quiet_on;refine Stg.call 17 _ _ rfl func17 [.agg #[.slice A2 n2 c2,.slice XA2 xn2 xc2],.int .i64 y] rfl u1 _ (ct.o y mq mk u1 (aj.o _ ba.o) ib.o b9.o gl.o) (by kernel_rfl) rfl ?_;rintro e u2 ⟨js,jm,rfl,ee,hb⟩;refine⟨_,rfl,hb,?_⟩;have gu:=hy' (ba.o.trans (hb.mono ba.o.size));clear ee;clear hb;intro A' aa;simp only[Act.put,Zf,Zk,Zj]at aa;subst aa
   (iterate 3 (refine Stg.readW (by kernel_rfl) ?_;intro K hK;go_big_quiet_op;go_big_quiet_on))
   clear f0 f1 e0 e1;refine Stg.nil u2 rfl ?_
   try go_wp2_with fail
   go_meet;refine⟨((mk:Int) == 0),by first|rfl|simp,fun e=>⟨g1,g2,H3.o,by rw[ag.o];exact Zz ay.o,by rw[b9.o];refine Zz ?_;rw[gl.o];have:=beq_iff_eq.1 e;omega⟩,gu.o⟩
 have ia:mn=1∨mn=2:=by
  have h1:=Md.mp_le2 bj.o x;rw[ag.o,ay.o]at h1;omega
 rcases ia with rfl|rfl
 · skip
   refine Stg.wp_region (by kernel_rfl) Stg.Ex Stg.Ex.rel ?_;(iterate 12 (refine Stg.readW (by kernel_rfl) ?_;intro K hK;go_big_quiet_op;go_big_quiet_on));obtain⟨f0,f1,e0,e1⟩:=cq.o v2.drew ao.o;refine Stg.read 0 (by kernel_rfl) v2.drew rfl ?_;intro K hK;go_big_quiet_op;go_big_quiet_on;(iterate 3 (refine Stg.readW (by kernel_rfl) ?_;intro K hK;go_big_quiet_op;go_big_quiet_on));refine Stg.read 0 (by kernel_rfl) v2.drew rfl ?_;intro K hK;go_big_quiet_op;go_big_quiet_on;refine Stg.call 17 _ _ rfl func17 [.agg #[.slice A2 n2 c2,.slice XA2 xn2 xc2],.int .i64 x] rfl v2.drew _ (ct.o x mp 1 v2.drew (aj.o _ ao.o) dm.o ag.o ay.o) (by kernel_rfl) rfl ?_;rintro e u1 ⟨A9,c9,rfl,bg,hb⟩;refine⟨_,rfl,hb,?_⟩;have ba:=hy' (ao.o.trans (hb.mono ao.o.size));clear bg;clear hb;intro A' aa;simp only[Act.put,Zf,Zk,Zj]at aa;subst aa
   (iterate 4 (refine Stg.readW (by kernel_rfl) ?_;intro K hK;go_big_quiet_op;go_big_quiet_on))
   have af:(0:Nat)=0:=rfl;clear af;refine Stg.skip ?_ ?_;kernel_rfl;intro A' aa;simp only[Act.put,Zf,Zk,Zj]at aa;subst aa;have af:(0:Nat)=0:=rfl;clear af;refine Stg.skip ?_ ?_;kernel_rfl;intro A' aa;simp only[Act.put,Zf,Zk,Zj]at aa;subst aa;have af:(0:Nat)=0:=rfl;clear af;refine Stg.skip ?_ ?_;kernel_rfl;intro A' aa;simp only[Act.put,Zf,Zk,Zj]at aa;subst aa;have af:(0:Nat)=0:=rfl;clear af;refine Stg.skip ?_ ?_;kernel_rfl;intro A' aa;simp only[Act.put,Zf,Zk,Zj]at aa;subst aa;have af:(0:Nat)=0:=rfl;clear af;refine Stg.skip ?_ ?_;kernel_rfl;intro A' aa;simp only[Act.put,Zf,Zk,Zj]at aa;subst aa;have af:(0:Nat)=0:=rfl;clear af;refine Stg.skip ?_ ?_;kernel_rfl;intro A' aa;simp only[Act.put,Zf,Zk,Zj]at aa;subst aa;have af:(0:Nat)=0:=rfl;clear af;refine Stg.skipStep ?_ u1 rfl ?_;kernel_rfl;intro A' aa;simp only[Act.put,Zf,Zk,Zj]at aa;subst aa;have af:(0:Nat)=0:=rfl;clear af;refine Stg.skip ?_ ?_;kernel_rfl;intro A' aa;simp only[Act.put,Zf,Zk,Zj]at aa;subst aa;have af:(0:Nat)=0:=rfl;clear af;refine Stg.skip ?_ ?_;kernel_rfl;intro A' aa;simp only[Act.put,Zf,Zk,Zj]at aa;subst aa;refine Stg.readW (by kernel_rfl) ?_;intro K hK;go_big_quiet_op;go_big_quiet_on;clear f0 f1 e0 e1;refine Stg.nil u1 rfl ?_
   try go_wp2_with fail
   go_meet;exact⟨false,by first|rfl|simp,fun e=>absurd e (by decide),ba.o⟩
 skip
 refine Stg.wp_region (by kernel_rfl) Stg.Ex Stg.Ex.rel ?_;(iterate 12 (refine Stg.readW (by kernel_rfl) ?_;intro K hK;go_big_quiet_op;go_big_quiet_on));obtain⟨f0,f1,e0,e1⟩:=cq.o v2.drew ao.o;refine Stg.read 0 (by kernel_rfl) v2.drew rfl ?_;intro K hK;go_big_quiet_op;go_big_quiet_on;(iterate 3 (refine Stg.readW (by kernel_rfl) ?_;intro K hK;go_big_quiet_op;go_big_quiet_on));refine Stg.read 0 (by kernel_rfl) v2.drew rfl ?_;intro K hK;go_big_quiet_op;go_big_quiet_on;refine Stg.call 17 _ _ rfl func17 [.agg #[.slice A2 n2 c2,.slice XA2 xn2 xc2],.int .i64 x] rfl v2.drew _ (ct.o x mp 2 v2.drew (aj.o _ ao.o) dm.o ag.o ay.o) (by kernel_rfl) rfl ?_;rintro e u1 ⟨A9,c9,rfl,bg,hb⟩;refine⟨_,rfl,hb,?_⟩;have ba:=hy' (ao.o.trans (hb.mono ao.o.size));clear bg;clear hb;intro A' aa;simp only[Act.put,Zf,Zk,Zj]at aa;subst aa
 (iterate 4 (refine Stg.readW (by kernel_rfl) ?_;intro K hK;go_big_quiet_op;go_big_quiet_on))
 have af:(0:Nat)=0:=rfl;clear af;refine Stg.skip ?_ ?_;kernel_rfl;intro A' aa;simp only[Act.put,Zf,Zk,Zj]at aa;subst aa;have af:(0:Nat)=0:=rfl;clear af;refine Stg.skip ?_ ?_;kernel_rfl;intro A' aa;simp only[Act.put,Zf,Zk,Zj]at aa;subst aa;have af:(0:Nat)=0:=rfl;clear af;refine Stg.skip ?_ ?_;kernel_rfl;intro A' aa;simp only[Act.put,Zf,Zk,Zj]at aa;subst aa;have af:(0:Nat)=0:=rfl;clear af;refine Stg.skip ?_ ?_;kernel_rfl;intro A' aa;simp only[Act.put,Zf,Zk,Zj]at aa;subst aa;have af:(0:Nat)=0:=rfl;clear af;refine Stg.skip ?_ ?_;kernel_rfl;intro A' aa;simp only[Act.put,Zf,Zk,Zj]at aa;subst aa;have af:(0:Nat)=0:=rfl;clear af;refine Stg.skip ?_ ?_;kernel_rfl;intro A' aa;simp only[Act.put,Zf,Zk,Zj]at aa;subst aa;have af:(0:Nat)=0:=rfl;clear af;refine Stg.skipStep ?_ u1 rfl ?_;kernel_rfl;intro A' aa;simp only[Act.put,Zf,Zk,Zj]at aa;subst aa;have af:(0:Nat)=0:=rfl;clear af;refine Stg.skip ?_ ?_;kernel_rfl;intro A' aa;simp only[Act.put,Zf,Zk,Zj]at aa;subst aa;have af:(0:Nat)=0:=rfl;clear af;refine Stg.skip ?_ ?_;kernel_rfl;intro A' aa;simp only[Act.put,Zf,Zk,Zj]at aa;subst aa;refine Stg.readW (by kernel_rfl) ?_;intro K hK;go_big_quiet_op;go_big_quiet_on;clear f0 f1 e0 e1;refine Stg.nil u1 rfl ?_
 try go_wp2_with fail
 go_meet;exact⟨false,by first|rfl|simp,fun e=>absurd e (by decide),ba.o⟩
end Go.Proofs.YtddbccflcekdpaaGreatDoor
