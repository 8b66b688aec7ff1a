/- Encode, the reference's Encode, Told; the law UtfDecodes. -/
import Derived.Test.YthngjlllojiacaaGreatDoorUtfF
import Derived.Great.BuildSlice
set_option maxRecDepth 100000
set_option maxHeartbeats 4000000
set_option linter.unusedVariables false
set_option linter.unusedSimpArgs false
namespace Go.Proofs.YthngjlllojiacaaGreatDoor
open Go.RowKit
theorem zOZ (l:List UInt8):strOfNums (l.map fun b=>((b.toNat:Nat):Int))=⟨l.toArray⟩:=by
 unfold strOfNums;rw[Xf];congr 1
 have:l.map ((fun n:Int=>UInt8.ofNat n.toNat) ∘ fun b:UInt8=>((b.toNat:Nat):Int))=l:=by
  conv=>rhs;rw[←List.map_id l]
  refine YV fun b _=>?_
  simp
 rw[this]
theorem zQV {w:World} {base m c:Nat} {A:Option Addr} {l:List UInt8} (h:w.ownsRow base 5 1 (.slice A m c) m (zFq l)) :
 (convert 30 9 (.slice A m c)).run Tryz.prog w=.ok (.string ⟨l.toArray⟩) w:=by
 obtain⟨hl,hr⟩:=h;rcases hr with ⟨hv,hm⟩|⟨g,cap,ae,hv,_,hg,hc,_,hcs,aa⟩
 · simp only[Z2]at hv;obtain⟨rfl,rfl,rfl⟩:=hv;have:l=[]:=List.eq_nil_of_length_eq_zero (by unfold zFq at hl;simpa using hl);subst this;exact run_convert_bytes_nil _ _ 5 Tryz.underlying30 Tryz.underlying5 _ _ _ Tryz.underlying9
 simp only[Z2]at hv;obtain⟨rfl,_,rfl⟩:=hv;unfold zFq at hl aa;rw[Ze]at hl;rw[←zOZ];refine Qf _ _ 5 Tryz.underlying30 Tryz.underlying5 g 0 m c _ (by rw[Ze];omega) (fun i hi=>?_) _ Tryz.underlying9;have af:i<l.length:=by omega
 have ag:ae.toList[i]?=some (Value.int .u8 ((l[i].toNat:Nat):Int)):=by
  have e:(ae.toList.take (m*1))[i]?=(l.map fun b=>Value.int .u8 ((b.toNat:Nat):Int))[i]?:=by rw[aa]
  rw[Yk,Zl (by omega),Zw,Zb af]at e;exact e
 simp only[World.cell?,hg,Z1];have:ae[i]?=some (Value.int .u8 ((l[i].toNat:Nat):Int)):=by rw[←ag];simp
 simp[this,List.getD,af]
def zHg (l:List Int):Bool:=l.all U.isC
def zBc (l:List Int):ByteArray:=if zHg l then ⟨(zAx l).toArray⟩ else ⟨#[]⟩
def zHh (l:List Int):Int:=if zHg l then 0 else 1
theorem zKy (a b:List UInt8):zFq (a++b)=zFq a++zFq b:=by unfold zFq;rw[List.map_append]
theorem zIA (l:List Int):(zAx l).length≤4*l.length:=by
 induction l with
 | nil=>simp[zAx]
 | cons c l ih=>rw[zAA,Zd,ZF];have:=(zCq c).2;omega
theorem take_succ_get {α:Type} {l:List α} {k:Nat} {x:α} (h:l[k]?=some x):l.take (k+1)=l.take k++[x]:=by
 rw[ZA,h];rfl
theorem zEF {α:Type} {l:List α} {k:Nat} {x:α} (h:l[k]?=some x):x∈l:=Zk h
theorem zEG (A:Option Addr) (cap B:Nat) (l:List Int) (w:World) (hB:B≤w.heap.size) (hA:Sl w B A (l.map (Value.int .i32))) (hl:l.length≤100000000000) (hb:∀c∈l,-2147483648≤c∧c≤2147483647) (hH:Heads w) :
 Calls Tryz.prog 46 #[.slice A l.length cap] w fun e w'=>e=.returned (.tuple #[.string (zBc l),.int .i64 (zHh l)])∧Below w.heap.size w w':=by
 have hg:=hH.lt;obtain⟨n,hn⟩:∃n,l.length=n:=⟨_,rfl⟩;have HN:=hy' hn;rw[hn]at hl ⊢;clear hn;have HB:=hy' hb;clear hb;go_enter Tryz.func46,Tryz.ntmps46;go_wp2;go_loopw [9,4] (fun i v wr=>∃k:Nat,k≤n∧i=.int .i64 k∧(∀x∈l.take k,U.isC x=true)∧wr.ownsRow w.heap.size 5 1 v (zAx (l.take k)).length (zFq (zAx (l.take k)))∧Below w.heap.size w wr) (fun i _ _=>n-(intOf i).toNat)
 case atStart=>exact⟨0,by omega,rfl,by simp,ZI _ _ _ _,Zc _ _⟩
 obtain⟨k,hk,rfl,af,ae,aa⟩:=hrel;have au:=aa.size;have av:=hH.next aa;have HG:=hy' af;clear af;have aq:=zIA (l.take k);rw[Zr,HN.o]at aq
 by_cases hkn:(k:Int)<n
 rotate_left
 · obtain rfl:k=n:=by omega
   have ag:l.take k=l:=Zi (by rw[HN.o];omega);rw[ag]at ae;have hG:=HG.o;rw[ag]at hG;have ak:zHg l=true:=by unfold zHg;rw[List.all_eq_true];exact hG
   have H1:zBc l=⟨(zAx l).toArray⟩:=by unfold zBc;rw[if_pos ak]
   have H2:zHh l=0:=by unfold zHh;rw[if_pos ak]
   have K1:=hy' H1;have K2:=hy' H2;clear H1 H2 ak hG ag;obtain⟨A',c',rfl⟩:=zA3 ae;have hcv:=zQV ae;go_wp2;go_ret2;rw[K1.o,K2.o];exact⟨rfl,aa⟩
 obtain⟨x,hx⟩:∃x,l[k]?=some x:=⟨_,Zb (by rw[HN.o];omega)⟩;obtain⟨x1,x2⟩:=HB.o x (zEF hx);obtain⟨b,o,rfl,aw,hc⟩:=hA.belowN aa hB (Za _) (by rw[Ze,HN.o];omega);have hcell:=hc k (by rw[Ze,HN.o];omega);rw[Zw,hx]at hcell;simp only[Option.map]at hcell;have ao:=take_succ_get hx;have HX:=hy' hx;have ap:=hy' ao;clear hx ao hc
 by_cases hch:U.isC x=true
 · have HC:=hy' hch;go_wp2_with (go_at_call 39;refine (zHL _ _ x1 x2).mono ?_;rintro e w' ⟨rfl,rfl⟩);refine (U.put_any x _ _ w.heap.size _ _ HC.o av ae (by omega) au).mono ?_;rintro e w2 ⟨v',rfl,ai,ar⟩;go_wp2;refine⟨⟨k+1,by omega,by go_num,?_,?_,aa.trans ar⟩,by simp[intOf];omega⟩
   · rw[ap.o];intro y hy;rcases List.mem_append.1 hy with hy|hy
     · exact HG.o y hy
     rw[Zp]at hy;subst hy;exact HC.o
   rw[ap.o,zDT,Zd,zKy];have e:zAx [x]=zAk x:=by simp[zAx]
   rw[e];exact ai
 have aj:U.isC x=false:=by simpa using hch
 have ah:zHg l=false:=by
  unfold zHg;rw[List.all_eq_false];exact⟨x,zEF HX.o,by simp[aj]⟩
 have H1:zBc l=⟨#[]⟩:=by unfold zBc;rw[if_neg (by rw[ah];decide)]
 have H2:zHh l=1:=by unfold zHh;rw[if_neg (by rw[ah];decide)]
 have H1:=hy' H1;have H2:=hy' H2;rename_i h1' h2';clear h1' h2' ah hch;go_wp2_with (go_at_call 39;refine (zHL _ _ x1 x2).mono ?_;rintro e w' ⟨rfl,rfl⟩);go_ret2;rw[H1.o,H2.o];exact⟨rfl,aa⟩
theorem zQ9 (a b:List UInt8):(⟨a.toArray⟩++⟨b.toArray⟩:ByteArray)=⟨(a++b).toArray⟩:=by
 apply Kj
 simp
theorem zKz (A:Option Addr) (cap B:Nat) (l:List Int) (w:World) (hB:B≤w.heap.size) (hA:Sl w B A (l.map (Value.int .i64))) (hl:l.length≤100000000000) (hb:∀c∈l,U.isC c=true) :
 Calls Tryz.prog 18 #[.slice A l.length cap] w fun e w'=>e=.returned (.string ⟨(zAx l).toArray⟩)∧Below w.heap.size w w':=by
 obtain⟨n,hn⟩:∃n,l.length=n:=⟨_,rfl⟩;have HN:=hy' hn;rw[hn]at hl ⊢;clear hn;have HB:=hy' hb;clear hb;go_enter Tryz.func18,Tryz.ntmps18;go_wp2;go_loopw [8,3] (fun i v wr=>∃k:Nat,k≤n∧i=.int .i64 k∧v=.string ⟨(zAx (l.take k)).toArray⟩∧Below w.heap.size w wr) (fun i _ _=>n-(intOf i).toNat)
 case atStart=>exact⟨0,by omega,rfl,rfl,Zc _ _⟩
 obtain⟨k,hk,rfl,rfl,aa⟩:=hrel;have aj:=aa.size
 by_cases hkn:(k:Int)<n
 · obtain⟨x,hx⟩:∃x,l[k]?=some x:=⟨_,Zb (by rw[HN.o];omega)⟩;have ag:=HB.o x (zEF hx);obtain⟨b,o,rfl,ao,hc⟩:=hA.belowN aa hB (Za _) (by rw[Ze,HN.o];omega);have hcell:=hc k (by rw[Ze,HN.o];omega);rw[Zw,hx]at hcell;simp only[Option.map]at hcell;have af:=take_succ_get hx;have ak:=hy' af;have HC:=hy' ag;clear hx af hc ag;have ah:=zIA (l.take k);rw[Zr,HN.o]at ah;have hex:=(zCq x).2
   have hlen:((⟨(zAx (l.take k)).toArray⟩:ByteArray).size:Int)+((⟨(zAk x).toArray⟩:ByteArray).size:Int)≤900000000000:=by
    simp[ByteArray.size];omega
   go_wp2_with fail;refine (zHX _ _ HC.o).mono ?_;rintro e w2 ⟨rfl,ai⟩;go_wp2;refine⟨⟨k+1,by omega,by go_num,?_,aa.trans (ai.mono aj)⟩,by simp[intOf];omega⟩;rw[ak.o,zDT,zQ9];have e:zAx [x]=zAk x:=by simp[zAx]
   rw[e]
 obtain rfl:k=n:=by omega
 have ae:l.take k=l:=Zi (by rw[HN.o];omega);have HA:=hy' ae;clear ae;go_wp2;go_ret;rw[HA.o];exact⟨rfl,aa⟩
def RetOwn (el:TypeId) (k:IntKind) (l:List Int) (w:World) (e:Ending) (w':World):Prop :=
 ∃A c,e=.returned (.slice A l.length c)∧w'.ownsRow w.heap.size el 1 (.slice A l.length c) l.length (l.map (Value.int k))∧Below w.heap.size w w'
theorem RetOwn.mk {el:TypeId} {k:IntKind} {l:List Int} {w w':World} {v:Value} {m:Nat} {xs:List Value} (h:w'.ownsRow w.heap.size el 1 v m xs) (hm:m=l.length) (hx:xs=l.map (Value.int k)) (hb:Below w.heap.size w w') :
 RetOwn el k l w (.returned v) w':=by
 subst hm hx;obtain⟨A,c,rfl⟩:=zA3 h;exact⟨A,c,rfl,h,hb⟩
theorem zP0 {cs:List Int} (h:∀c∈cs,U.isC c=true):∀c∈cs,-2147483648≤c∧c≤2147483647:=by
 intro c hc;have:=(U.isC_iff c).1 (h c hc);omega
theorem zLW {cs:List Int} (h:∀c∈cs,U.isC c=true):zHg cs=true:=by unfold zHg;rw[List.all_eq_true];exact h
theorem zIB {cs:List Int} (h:∀c∈cs,U.isC c=true):zBc cs=⟨(zAx cs).toArray⟩:=by unfold zBc;rw[if_pos (zLW h)]
theorem zQa {cs:List Int} (h:∀c∈cs,U.isC c=true):zHh cs=0:=by unfold zHh;rw[if_pos (zLW h)]
def Nf.fl (T:List Rw.Row) (l:List Int):List Int:=l.flatMap (Ud.full T)
def Nf.chars (T:List Rw.Row) (l:List Int):List Int:=Or.of (Md.cls T) (Nf.fl T l)
theorem zGM {T:List Rw.Row} {l:List Int} {k:Nat} {x:Int} (hx:l[k]?=some x):Nf.fl T (l.take (k+1))=Nf.fl T (l.take k)++Ud.full T x:=by
 unfold Nf.fl;rw[ZA,hx,YG];simp
theorem zFb {T:List Rw.Row} (h:∀c,(Ud.full T c).length≤32):∀l:List Int,(Nf.fl T l).length≤32*l.length
 | []=>by simp[Nf.fl]
 | x::l=>by
   have h1:=zFb h l;have h2:=h x;unfold Nf.fl at h1 ⊢;rw[Y7,Zd,ZF];omega
theorem Nf.rchars_any (v:Value) (T:List Rw.Row) (E:List Int) (A:Option Addr) (n c:Nat) (l:List Int) (w:World) (bc:T.length≤100000) (hbd:Md.bd T) (ak:∀r∈T,r.2.2.length≤1000) (hle:∀c,(Ud.full T c).length≤32) (h:Md.Doc w v T E) (hl:l.length=n) (hn:n≤3000) (bn:∀x∈l,-2147483648≤x∧x≤2147483647) (hA:Sl w w.heap.size A (l.map (Value.int .i64))) :
 Calls Tryz.prog 15 #[v,.slice A n c] w (zBJ (Nf.chars T l) w):=by
 obtain⟨i0,cq,b4,b7,cy⟩:=Z7 zFy;have hd:=h;obtain⟨AT,cT,XA,xc,rfl,_⟩:=hd;obtain⟨tn,bp⟩:∃k,T.length=k:=⟨_,rfl⟩;obtain⟨xn,hxn⟩:∃k,E.length=k:=⟨_,rfl⟩;rw[bp,hxn]at h ⊢;have bw:∀x W,Below w.heap.size w W → -2147483648≤x→x≤2147483647→Calls Tryz.prog 36 #[zBd AT tn cT XA xn xc,.int .i64 x] W (zFa (Md.full T x) W):=fun x W hW h3 h4=>zHe _ T E x W bc (h.below hW) hbd ak h3 h4
 have b1:∀A' m c' z W,Below w.heap.size w W→z.length=m→m≤100000→Sl W W.heap.size A' (z.map (Value.int .i64))→Calls Tryz.prog 37 #[zBd AT tn cT XA xn xc,.slice A' m c'] W (zBJ (Or.of (Md.cls T) z) W):=fun A' m c' z W hW h1 h2 h3=>zOY _ T E A' m c' z W (Zh bc (by decide)) (h.below hW) h1 h2 h3
 unfold zBd at *;obtain⟨wa,aq⟩:∃wa,(w.alloc (.cells #[.slice AT tn cT,.slice XA xn xc] 38)).alloc (.cells #[] 3)=wa:=⟨_,rfl⟩;have bg:Below w.heap.size w wa:=by rw[←aq];exact ((Zc _ _).alloc (Za _) _).alloc (by simp) _
 have bo:Rw.At wa w.heap.size 38 [.slice AT tn cT,.slice XA xn xc]:=by
  rw[←aq];exact (Rw.At.new w 38 [.slice AT tn cT,.slice XA xn xc]).alloc _
 have aw:wa.ownsRow (w.heap.size+1) 3 1 (.slice (some ⟨w.heap.size+1,0,none⟩) 0 0) 0 []:=by
  have:=zDk (w.alloc (.cells #[.slice AT tn cT,.slice XA xn xc] 38)) 3 (by decide);rw[ZK]at this;rw[←aq];exact this
 have cj:=hy' aq;have cc:=hy' bg;have cp:=hy' bo;have bk:=hy' aw;have HL:=hy' hl;have b6:=hy' bn;have HA:=hy' (hA.below bg (Za _));have cb:=hy' bw;have cu:=hy' b1;have bm:=hy' (zFb hle);have a7:=hy' hle;clear aq bg bo aw hl bn hA bw b1 h bp hxn bc hbd ak hle;go_enter Tryz.func15,Tryz.ntmps15;go_upto_region 2 with (fail)
 rw[cj.o];go_wp2_with fail;go_loopw [5,7,8,9,13] (fun v5 _ _ _ i wr=>∃(k:Nat) (sl:Value),k≤n∧i=.int .i64 k∧v5=sl∧Rw.At wr w.heap.size 38 [.slice AT tn cT,.slice XA xn xc]∧wr.ownsRow (w.heap.size+1) 3 1 sl (Nf.fl T (l.take k)).length ((Nf.fl T (l.take k)).map (Value.int .i64))∧Below (w.heap.size+1) wa wr) (fun _ _ _ _ i _=>n-(intOf i).toNat)
 case atStart=>exact⟨0,_,ZG _,rfl,rfl,cp.o,bk.o,Zc _ _⟩
 obtain⟨k,sl,hk,rfl,rfl,ae,aa,ah⟩:=hrel;have br:w.heap.size+1≤wr.heap.size:=ae.lt;have ay:Below w.heap.size w wr:=cc.o.trans (ah.mono (ZW _))
 by_cases hlt:k<n
 · obtain⟨x,hx⟩:∃x,l[k]?=some x:=⟨_,Zb (by rw[HL.o];exact hlt)⟩;obtain⟨b3,bs⟩:=b6.o x (Zk hx);obtain⟨ab,ao,hA2,cz,bt⟩:=HA.o (by rw[Ze,HL.o];omega);have hc:=bt k (by rw[Ze,HL.o];exact hlt);rw[Zw,hx,Zx,←(zAP ah).1 _ _ (by omega)]at hc;have bi:=zGM (T:=T) hx;have aj:=bm.o (l.take k);rw[Zr,HL.o]at aj;have a1:=a7.o x;obtain⟨m,hm⟩:∃m,Ud.full T x=m:=⟨_,rfl⟩;obtain⟨S,hS⟩:∃S,Nf.fl T (l.take k)=S:=⟨_,rfl⟩;obtain⟨ml,ak⟩:∃q,m.length=q:=⟨_,rfl⟩;obtain⟨sn,af⟩:∃q,S.length=q:=⟨_,rfl⟩;have az:=cb.o x wr ay b3 bs;unfold zFa at az;rw[show (Md.full T x).getD []=m from hm,ak]at az;rw[hS,af]at aa;rw[hS,af]at aj;rw[hm,ak]at a1;rw[hS,hm]at bi;have kI:(k:Int)<n:=by omega
   have k0:(0:Int)≤k:=by omega
   have z0:=ae.cell 0 rfl;have z1:=ae.cell 1 rfl;have cn:=hy' bi;have bb:=hy' ae;have ap:=hy' aa;have bf:=hy' ah;have bx:=hy' ak;have ck:=hy' af;have cm:=hy' az;have c6:sn≤32*k:=by omega
   subst hA2;clear hx b3 bs bt bi aj hm hS ak af az aa ae ah ay;go_wp2_with fail;refine cm.o.mono ?_;rintro e w1 ⟨A1,c1,rfl,bz,ar⟩;have av:=hy' (zA4 ap.o ar (Za _));have bj:=hy' (bb.o.below ar);have ct:=hy' bz;have b9:=hy' (bf.o.trans (ar.mono br));have cw:w.heap.size+1≤w1.heap.size:=Zh br ar.size;have bu:(m.map (Value.int .i64)).length=ml*1:=by rw[Ze,bx.o];omega
   have bl:∀u∈m.map (Value.int .i64),u.oneCell'=true:=zF0 .i64 _;have cd:=hy' bu;have cg:=hy' bl;clear bz ar z0 z1 hc bu bl;go_wp2_with (first|(at_builtin;refine zAd _ rfl _ _ _ rfl (w.heap.size+1) 3 i0 _ 1 8 Tryz.underlying36 cq b4 b7 cy rfl (by omega) _ sn _ rfl av.o _ A1 ml c1 (m.map (Value.int .i64)) rfl cd.o ct.o cg.o (by simp only[maxLen];omega) (by omega) cw ?_;intro v1 w4 ai a6 ch;have au:=hy' ai;have a8:=hy' (bj.o.below' a6 (ZN _));have cf:=hy' (b9.o.trans a6);clear ai a6 ch)|fail);refine⟨⟨k+1,v1,by omega,by first|rfl|go_num,rfl,a8.o,?_,cf.o⟩,by simp[intOf];omega⟩;rw[cn.o,Zd,ck.o,bx.o,ZO];exact au.o
 obtain rfl:k=n:=by omega
 rw[Zi (by rw[HL.o];exact Za _)]at aa;have aj:=bm.o l;rw[HL.o]at aj;obtain⟨S,hS⟩:∃S,Nf.fl T l=S:=⟨_,rfl⟩;obtain⟨sn,af⟩:∃q,S.length=q:=⟨_,rfl⟩;rw[hS,af]at aa aj;obtain⟨A4,c4,rfl⟩:=zA3 aa;have ba:=cu.o A4 sn c4 S wr ay af (by omega) (Sl.of_own aa);obtain⟨Z,hZ⟩:∃Z,Or.of (Md.cls T) S=Z:=⟨_,rfl⟩;have bq:Nf.chars T l=Z:=by unfold Nf.chars;rw[hS,hZ]
 rw[hZ]at ba;have cr:=hy' bq;have kI:¬(k:Int)<k:=by omega
 have z0:=ae.cell 0 rfl;have z1:=ae.cell 1 rfl;have ax:=ae.lt;have b5:=hy' ba;have bh:=hy' ay;clear aa ba bq hZ hS af aj ae ah;go_wp2_with fail;refine b5.o.mono ?_;rintro e w5 ⟨A5,c5,rfl,ag,b2⟩;obtain⟨zl,ax⟩:∃q,Z.length=q:=⟨_,rfl⟩;rw[ax]at ag ⊢;have cx:=hy' ag;have cv:=hy' b2;have b8:=hy' ax;clear ag b2 ax;go_wp2_with fail;go_ret;rw[cr.o];unfold zBJ;rw[b8.o];exact⟨_,_,rfl,zB0 cx.o bh.o.size,bh.o.trans (cv.o.mono bh.o.size)⟩
theorem zIC {f g:Int→Option (List Int)} (h:∀c l,f c=some l→g c=some l):∀(L l:List Int),zAp f L=some l→zAp g L=some l
 | [],l,hl=>hl
 | d::r,l,hl=>by
   unfold zAp at hl ⊢;cases hd:f d with
   | none=>rw[hd]at hl;cases hl
   | some a =>
     rw[hd,Zy]at hl;rw[h d a hd,Zy];cases hr:zAp f r with
     | none=>rw[hr]at hl;cases hl
     | some b=>rw[hr]at hl;rw[zIC h r b hr];exact hl
theorem zJR (mp:Int→List Int):∀(k:Nat) (c:Int) (l:List Int),Md.lv mp k c=some l→Md.lv mp (k+1) c=some l
 | 0,c,l,h=>by
   unfold Md.lv at h ⊢;split at h
   · rename_i hc;rw[Zl hc];exact h
   cases h
 | k+1,c,l,h=>by
   unfold Md.lv at h ⊢;split at h
   · rename_i hc;rw[Zl hc];exact h
   rename_i hc;rw[Zj hc];exact zIC (zJR mp k) _ _ h
theorem zID {f:Int→Option (List Int)} {g:Int→List Int}:∀(L l:List Int),(∀d∈L,∀a,f d=some a→g d=a)→zAp f L=some l→l=L.flatMap g
 | [],l,_,h=>by unfold zAp at h;cases h;rfl
 | d::r,l,hg,h=>by
   unfold zAp at h;cases hd:f d with
   | none=>rw[hd]at h;cases h
   | some a =>
     rw[hd,Zy]at h;cases hr:zAp f r with
     | none=>rw[hr]at h;cases h
     | some b =>
       rw[hr,Zx]at h;cases h
       rw[Y7,hg d Zq a hd,zID r b (fun x hx=>hg x (Zv _ hx)) hr]
theorem zGN {T:List Rw.Row} {c:Int} {l:List Int} (h:Md.full T c=some l):Md.lv (Md.mp T) (T.length+3) c=some l:=by
 unfold Md.full at h;rw[zBv _ _ _ _ (by simp)]at h;obtain⟨m,h1,h2⟩:=Option.bind_eq_some_iff.1 h;unfold Md.fit at h2;split at h2
 · simp at h2;rw[←h2];exact h1
 cases h2
theorem zDK {T:List Rw.Row} {S:List Int} (ok:Ud.Ok T S) (c:Int):Md.full T c=some (Ud.full T c):=by
 obtain⟨l,hl⟩:=zDg ok.chk c;unfold Ud.full;rw[hl];rfl
theorem zHi {T:List Rw.Row} {S:List Int} (ok:Ud.Ok T S) {c:Int} (hc:Md.mp T c≠[]):Ud.full T c=(Md.mp T c).flatMap (Ud.full T):=by
 have h:=zGN (zDK ok c);rw[show T.length+3=(T.length+2)+1 from rfl]at h;unfold Md.lv at h;rw[Zj hc]at h;refine zID _ _ (fun d _ a ha=>?_) h;have h1:=zJR _ _ _ _ ha;have h2:=zGN (zDK ok d);rw[h1]at h2;exact (XD h2).symm
theorem zFc {T:List Rw.Row} {S:List Int} (ok:Ud.Ok T S) {c:Int} (hc:Md.mp T c=[]):Ud.full T c=[c]:=by
 have h:=zGN (zDK ok c);rw[zBo _ _ hc]at h;exact (XD h).symm
theorem zKA {T:List Rw.Row} {S:List Int} (ok:Ud.Ok T S) (c:Int):∀x∈Ud.full T c,Md.mp T x=[]:=fun x hx=>((zCr (zDK ok c)).1 x hx).1
theorem zJS {T:List Rw.Row} {S:List Int} (ok:Ud.Ok T S) (c:Int):Ud.full T c≠[]:=fun e=>by
 have:=(zCr (zDK ok c)).2.1;rw[e]at this;simp at this
theorem zLX {T:List Rw.Row} {S:List Int} (ok:Ud.Ok T S) {c:Int} (hc:zA2 c≠0):Md.find T c=none:=by
 cases h:Md.find T c with
 | none=>rfl
 | some r =>
   obtain⟨h1,h2⟩:=zAq h;have:=(ok.good r h1).2.2.2.2.1;rw[h2]at this;exact absurd this hc
theorem zN9 {T:List Rw.Row} {S:List Int} (ok:Ud.Ok T S) {c:Int} (hc:zA2 c≠0):Md.cls T c=0:=by
 unfold Md.cls;rw[zLX ok hc];rfl
def Nc.j (T:List Rw.Row) (S:List Int) (a b:Int):Option Int:=if (Ud.joinK T S a b).2=true then some (Ud.joinK T S a b).1 else none
theorem zHj {α β:Type} {P:α→Prop} [DecidablePred P] {g:α→β}:∀(l:List α) (o:Option β) {p:β},l.foldl (fun o r=>if P r then some (g r) else o) o=some p→o=some p∨∃r∈l,P r∧g r=p
 | [],o,p,h=>.inl h
 | r::l,o,p,h=>by
   rw[Yz]at h;rcases zHj l _ h with h1|⟨q,h1,h2⟩
   · by_cases hp:P r
     · rw[Zl hp]at h1;cases h1
       exact .inr ⟨r,Zq,hp,rfl⟩
     rw[Zj hp]at h1;exact .inl h1
   exact .inr ⟨q,Zv _ h1,h2⟩
theorem zJT {α β:Type} {P:α→Prop} [DecidablePred P] {g:α→β}:∀(l:List α) (o:Option β),(∃r∈l,P r)→∃p,l.foldl (fun o r=>if P r then some (g r) else o) o=some p
 | [],o,h=>by obtain⟨r,h1,_⟩:=h;cases h1
 | r::l,o,h=>by
   rw[Yz]
   have more:∀(l:List α) (b:β),∃p,l.foldl (fun o r=>if P r then some (g r) else o) (some b)=some p:=by
    intro l
    induction l with
    | nil=>intro b;exact⟨b,rfl⟩
    | cons q l ih =>
      intro b;rw[Yz]
      by_cases hq:P q
      · rw[Zl hq];exact ih _
      rw[Zj hq];exact ih _
   by_cases hp:P r
   · rw[Zl hp];exact more l _
   rw[Zj hp];obtain⟨q,h1,h2⟩:=h;rcases List.mem_cons.1 h1 with rfl|h1
   · exact absurd h2 hp
   exact zJT l o ⟨q,h1,h2⟩
theorem zGO {T:List Rw.Row} {S:List Int} (ok:Ud.Ok T S) {a b p:Int} (h:zCb T (C.mem S) T a b=some p):∃r∈T,r.1=p∧r.2.2=[a,b]∧zAo T (C.mem S) r.1=true:=by
 unfold zCb at h;rcases zHj (P:=fun r:Rw.Row=>r.2.2.getD 0 0=a∧r.2.2.getD 1 0=b) (g:=fun r:Rw.Row=>r.1) _ _ h with h|⟨r,h1,⟨h2,h3⟩,h4⟩
 · cases h
 unfold zJv at h1;rw[X0,zCW]at h1;obtain⟨⟨h5,h6⟩,h7⟩:=h1;obtain⟨x,y,aa⟩:=zId (ok.good r h5) ok.rises h5 h7;rw[aa]at h2 h3;simp at h2 h3;subst h2;subst h3;exact⟨r,h5,h4,aa,h7⟩
theorem zOa {T:List Rw.Row} {S:List Int} (ok:Ud.Ok T S) {a b p:Int} (h:Nc.j T S a b=some p):(Hg.joinK a b=(p,true)∧zAg p=(a,b,true))∨((Hg.joinK a b).2=false∧∃r∈T,r.1=p∧r.2.2=[a,b]∧zAo T (C.mem S) r.1=true):=by
 unfold Nc.j Ud.joinK at h
 by_cases hj:(Hg.joinK a b).2=true
 · rw[Zl hj]at h;simp at h;exact .inl ⟨by rw[←h,←hj],by rw[←h];exact zLQ a b hj⟩
 rw[Zj hj]at h;refine .inr ⟨by simpa using hj,zGO ok ?_⟩;cases hd:zCb T (C.mem S) T a b with
 | none=>rw[hd]at h;simp at h
 | some q=>rw[hd]at h;simpa using h
theorem zIE {T:List Rw.Row} {S:List Int} (ok:Ud.Ok T S) {a b p:Int} (h:Nc.j T S a b=some p):Md.mp T p=[a,b]∧Md.cls T p=0∧0≤p∧C.isC p=true:=by
 rcases zOa ok h with ⟨h1,h2⟩|⟨_,r,h1,rfl,h3,h4⟩
 · have hk:=zCs p;rw[h2]at hk;simp at hk;have hs:=zAt p (by have:=zF3 p;omega);refine⟨by unfold Md.mp;rw[h2];rfl,zN9 ok (by omega),by omega,?_⟩;unfold C.isC;simp only[Zm];omega
 have hg:=ok.good r h1;have hp:=zCV (X:=C.mem S) ok.rises h1 hg;rw[hp]at h4;unfold zAc at h4;simp at h4;exact⟨by rw[zPL ok.rises h1 hg,h3],by rw[zOu ok.rises h1,h4.1],(zF6 hg).1,hg.1⟩
theorem Nc.fit {T:List Rw.Row} {S:List Int} (ok:Ud.Ok T S):Nc.Fit (Md.cls T) (Nc.j T S) (Ud.full T) where
 nn:=fun x=>(zDE ok x).1
 cls:=fun x c p h=>(zIE ok h).2.1
 full:=fun x c p hc h=>by
  have:=(zIE ok h).1;rw[zHi ok (by rw[this];simp),this];simp[hc]
def Nc.sec (T:List Rw.Row) (S:List Int) (c:Int):Bool:=C.mem (C.chars (Ud.sec T (C.mem S) T)) c||decide (zA2 c=2)||decide (zA2 c=3)
theorem zNa {T:List Rw.Row} {S:List Int} (ok:Ud.Ok T S) {c:Int} (h:Nc.sec T S c=false) (x:Int):Nc.j T S x c=none:=by
 cases hj:Nc.j T S x c with
 | none=>rfl
 | some p =>
   unfold Nc.sec at h;simp only[XN,ZY]at h;rcases zOa ok hj with ⟨h1,h2⟩|⟨_,r,h1,h2,h3,h4⟩
   · have hi:=zOW x c;rw[h1]at hi;simp at hi;omega
   exfalso;have hg:=ok.good r h1;rw[(zC0 _).2]at h
   have hc:c∈Ud.sec T (C.mem S) T:=by
    unfold Ud.sec;refine List.mem_map.2 ⟨r,?_,by rw[h3];rfl⟩;unfold zJv;rw[X0,zCW];exact⟨⟨h1,by rw[h3];exact J6⟩,h4⟩
   have aa:=(hg.2.2.2.2.2 c (by rw[h3];simp)).1;simp[hc,aa]at h
def Nc.two (T:List Rw.Row) (X:Int→Bool) (a b:Int):Int :=
 if (Hg.joinK a b).2=true then (Hg.joinK a b).1 else ((T.find? fun r=>decide (r.2.2=[a,b])&&zAo T X r.1).map (·.1)).getD (-1)
theorem zFr {T:List Rw.Row} {X:Int→Bool}:∀(l pre:List Rw.Row),zAZ T X pre l=false→(l.Pairwise fun q r=>¬(zAc T X q=true∧zAc T X r=true∧q.2.2=r.2.2))∧∀q∈pre,∀r∈l,¬(zAc T X q=true∧zAc T X r=true∧q.2.2=r.2.2)
 | [],pre,_=>⟨List.Pairwise.nil,fun q _ r hr=>absurd hr Z6⟩
 | r::l,pre,h=>by
   unfold zAZ at h;rw[XN]at h;obtain⟨h1,h2⟩:=zFr l (pre++[r]) h.2
   have h3:∀q∈pre,¬(zAc T X q=true∧zAc T X r=true∧q.2.2=r.2.2):=fun q hq ⟨g1,g2,g3⟩=>by
    have:=h.1;unfold Md.ahead at this;rw[XK]at this;have:=this q hq;simp[g1,g2,g3]at this
   refine⟨List.pairwise_cons.2 ⟨fun q hq=>h2 r (by simp) q hq,h1⟩,fun q hq s hs=>?_⟩;rcases List.mem_cons.1 hs with rfl|hs
   · exact h3 q hq
   exact h2 q (YO _ hq) s hs
theorem zP1 {T:List Rw.Row} {S:List Int} (ok:Ud.Ok T S) {q r:Rw.Row} (hq:q∈T) (hr:r∈T) (h1:zAo T (C.mem S) q.1=true) (h2:zAo T (C.mem S) r.1=true) (h3:q.2.2=r.2.2):q=r:=by
 obtain⟨_,_,_,ht⟩:=zDX ok.chk;have hd:=zDf T (C.mem S) T [];rw[show ((([]:List Rw.Row).filter (zAc T (C.mem S))).map fun r=>r.2.2)=[] from rfl,ht]at hd;have hp:=(zFr T [] hd.symm).1;rw[zCV ok.rises hq (ok.good q hq)]at h1;rw[zCV ok.rises hr (ok.good r hr)]at h2;obtain⟨i,hi⟩:=Js hq;obtain⟨k,hk⟩:=Js hr;rw[QF]at hp;obtain⟨ag,ae⟩:=List.getElem?_eq_some_iff.1 hi;obtain⟨af,aa⟩:=List.getElem?_eq_some_iff.1 hk;rcases XJ i k with h|h|h
 · exact absurd ⟨by rw[ae];exact h1,by rw[aa];exact h2,by rw[ae,aa];exact h3⟩ (hp i k ag af h)
 · subst h;rw[←ae,←aa]
 exact absurd ⟨by rw[aa];exact h2,by rw[ae];exact h1,by rw[ae,aa];exact h3.symm⟩ (hp k i af ag h)
theorem zQW {T:List Rw.Row} {S:List Int} (ok:Ud.Ok T S) (a b:Int):Nc.two T (C.mem S) a b=(Nc.j T S a b).getD (-1):=by
 unfold Nc.two Nc.j Ud.joinK
 by_cases hj:(Hg.joinK a b).2=true
 · rw[Zl hj,Zl hj];simp
 rw[Zj hj,Zj hj];cases hf:T.find? fun r=>decide (r.2.2=[a,b])&&zAo T (C.mem S) r.1 with
 | some r =>
   have h1:=Q8 hf;have h2:=XU hf;simp at h1
   have:∃p,zCb T (C.mem S) T a b=some p:=by
    unfold zCb;refine zJT (P:=fun r:Rw.Row=>r.2.2.getD 0 0=a∧r.2.2.getD 1 0=b) (g:=fun r:Rw.Row=>r.1) _ _ ⟨r,?_,?_⟩
    · unfold zJv;rw[X0,zCW];exact⟨⟨h2,by rw[h1.1];exact J6⟩,h1.2⟩
    rw[h1.1];exact⟨rfl,rfl⟩
   obtain⟨p,hp⟩:=this;obtain⟨q,g1,g2,g3,g4⟩:=zGO ok hp;have:=zP1 ok g1 h2 g4 h1.2 (g3.trans h1.1.symm);subst this;rw[hp,←g2];simp
 | none =>
   cases hp:zCb T (C.mem S) T a b with
   | none=>simp
   | some p =>
     obtain⟨q,g1,g2,g3,g4⟩:=zGO ok hp;have:=List.find?_eq_none.1 hf q g1;simp[g3,g4]at this
end Go.Proofs.YthngjlllojiacaaGreatDoor
namespace Go.Proofs.YthngjlllojiacaaGreatDoor.Stg
open Go Go.RowKit
section
variable {P:Program} {ops:Array Oper} {md:Region.Mode} {R:World→World→Prop} {F:Act→World→Prop}
def xOper (P:Program) (ops:Array Oper) (R:World→World→Prop) (o:Oper) (K:Act→World→Prop) (a:Act) (w:World):Prop :=
 if Region.wanted o (yielded ops a.tmps)=true then
  (if readsOnly o.op=true then o.quiet P a (fun w'=>w'=w) (fun a'=>K a' w) else stepAt P o a w (fun v w'=>R w w'∧K (a.put o.dst v) w'))
 else K (a.put o.dst undef) w
def xOp (P:Program) (ops:Array Oper) (R:World→World→Prop) (i:Nat) (K:Act→World→Prop) (a:Act) (w:World):Prop :=
 match ops[i]? with
 | none=>K a w
 | some o=>xOper P ops R o K a w
def wpX (P:Program) (md:Region.Mode) (ops:Array Oper) (R:World→World→Prop) (F:Act→World→Prop):Nat→Array Bool→Act→World→Prop
 | 0,listed,a,w=>Region.ready md ops listed=[]∧F a w
 | fuel+1,listed,a,w=>(Region.ready md ops listed=[]→F a w)∧∀i∈Region.ready md ops listed,xOp P ops R i (wpX P md ops R F fuel (listed.setIfInBounds i true)) a w
theorem wpAny_of_x {Q:Exit→Act→World→Prop} (hQ:∀a w,F a w→Q .normal a w):∀(fuel:Nat) (listed:Array Bool) (a:Act) (w:World),wpX P md ops R F fuel listed a w→wpAny P md ops Q fuel listed a w
 | 0,_,_,_,h=>⟨h.1,hQ _ _ h.2⟩
 | fuel+1,listed,a,w,h=>⟨fun h0=>hQ _ _ (h.1 h0),fun i hi=>by
    have h2:=h.2 i hi;unfold xOp at h2;unfold wpOp;cases ho:ops[i]? with
    | none=>exact absurd (lt_of_ready hi) (by have:=Array.getElem?_eq_none_iff.1 ho;omega)
    | some o =>
      simp only[ho]at h2 ⊢;unfold xOper at h2;split
      · rename_i hw;simp only[hw,Yv]at h2;left
        by_cases hro:readsOnly o.op=true
        · rw[Zl hro]at h2;obtain⟨v,h3,h4⟩:=h2;have h5:=h3 w rfl;have hne:=noEnter hro a.eval P w;unfold Oper.quietAt at h5;unfold Oper.wp;generalize (execOp a.eval o).run P w=r at *;cases r with
          | ok x w' =>
            cases x <;> simp only[Oper.quietUpon]at h5 <;> simp only[Oper.upon]
            case value u=>rw[h5.1,h5.2];exact wpAny_of_x hQ fuel _ _ _ h4
            case skip=>rw[h5.1,←h5.2];exact wpAny_of_x hQ fuel _ _ _ h4
            case enter f args=>exact absurd rfl (hne w' f args)
          | halt x w'=>simp only[Oper.quietUpon]at h5
        rw[Zj hro]at h2;unfold stepAt at h2;unfold Oper.wp;generalize (execOp a.eval o).run P w=r at *;cases r with
        | ok x w' =>
          cases x <;> simp only[stepUpon]at h2 <;> simp only[Oper.upon]
          case value v=>exact wpAny_of_x hQ fuel _ _ _ h2.2
          case skip=>exact wpAny_of_x hQ fuel _ _ _ h2.2
          case enter f args =>
           refine h2.mono ?_;rintro e w'' ⟨v,rfl,h3,h4⟩;exact wpAny_of_x hQ fuel _ _ _ h4
          case row s args =>
           refine Jw h2 ?_;rintro v w'' ⟨h3,h4⟩;exact wpAny_of_x hQ fuel _ _ _ h4
        | halt x w'=>simp only[stepUpon]at h2
      rename_i hw;simp only[hw,Yc]at h2;exact wpAny_of_x hQ fuel _ _ _ h2⟩
def YieldsX (P:Program) (ops:Array Oper) (R:World→World→Prop) (o:Oper) (v:Value) (a:Act) (w:World):Prop :=
 (Region.wanted o (yielded ops a.tmps)=true∧readsOnly o.op=true∧∀w',R w w'→o.quietAt P a (fun _=>True) w' v)∨(Region.wanted o (yielded ops a.tmps)=false∧v=undef)
theorem YieldsX.xOp {i:Nat} {o:Oper} {v:Value} {a:Act} {w:World} (hR:Rel R) (hi:ops[i]?=some o) (hy:YieldsX P ops R o v a w) {K:Act→World→Prop} (h:K (a.put o.dst v) w):xOp P ops R i K a w:=by
 unfold Stg.xOp xOper;simp only[hi];rcases hy with ⟨hw,hro,hv⟩|⟨hw,rfl⟩
 · simp only[hw,hro,Yv];exact⟨v,fun w' hw'=>by subst hw';exact quietAt_same hro (hv _ (hR.refl _)),h⟩
 simp only[hw,ZL,Yc];exact h
theorem firstX {i:Nat} {oi:Oper} {v:Value} (hR:Rel R) (hi:ops[i]?=some oi) (af:∀(j:Nat) (o:Oper) cs b,ops[j]?=some o→o.op≠.select cs b) :
 ∀(fuel:Nat) (listed:Array Bool) (a:Act) (w:World),
  (∀j oj,ops[j]?=some oj→j≠i→listed.getD j true=false→(∀e∈oj.after,Region.binds md e=true→e.on≠i)→oi.apart ops oj=true) →
  i∈Region.ready md ops listed→YieldsX P ops R oi v a w →
  wpX P md ops R F fuel (listed.setIfInBounds i true) (a.put oi.dst v) w→wpX P md ops R F (fuel+1) listed a w:=by
 intro fuel
 induction fuel with
 | zero =>
   intro listed a w _ hr hy H;refine⟨fun h=>(by rw[h]at hr;cases hr),fun j hj=>?_⟩
   by_cases hji:j=i
   · subst hji;exact hy.xOp hR hi H
   have:=XQ hj hji;rw[H.1]at this;cases this
 | succ fuel ih =>
   intro listed a w aa hr hy H;refine⟨fun h=>(by rw[h]at hr;cases hr),fun j hj=>?_⟩
   by_cases hji:j=i
   · subst hji;exact hy.xOp hR hi H
   have h1:=H.2 j (XQ hj hji);obtain⟨ag,oj,ah,aj⟩:=mem_ready.1 hj
   have ai:∀e∈oj.after,Region.binds md e=true→e.on≠i:=fun e he hb ao=>by
    have h1:=aj e he hb;have h0:=(mem_ready.1 hr).1;rw[ao,unl h0]at h1;cases h1
   obtain⟨p1,p2,p3⟩:=Q9 (aa j oj ah hji ag ai)
   have ae:∀k ok,ops[k]?=some ok→k≠i→(listed.setIfInBounds j true).getD k true=false →
    (∀e∈ok.after,Region.binds md e=true→e.on≠i)→oi.apart ops ok=true:=fun k ok hk aq ak ap=>by
    refine aa k ok hk aq ?_ ap
    by_cases hjk:j=k
    · subst hjk;exact ag
    rw[Xx true hjk]at ak;exact ak
   have keep:∀u w',R w w'→YieldsX P ops R oi v (a.put oj.dst u) w':=fun u w' hw'=>by
    unfold YieldsX Oper.quietAt at *;rw[XO oi (af i oi · · hi) a oj.dst u p3,XP oi a oj.dst u p3];exact hy.imp (fun ⟨x,y,z⟩=>⟨x,y,fun w2 h2=>z w2 (hR.trans hw' h2)⟩) id
   have go:∀u w',R w w' →
    wpX P md ops R F fuel ((listed.setIfInBounds i true).setIfInBounds j true) ((a.put oi.dst v).put oj.dst u) w'→wpX P md ops R F (fuel+1) (listed.setIfInBounds j true) (a.put oj.dst u) w':=by
    intro u w' hw' h3;refine ih _ _ _ ae (XQ hr (Z9 hji)) (keep u w' hw') ?_;rw[XZ _ _ hji,←Q3 a v u p2];exact h3
   unfold Stg.xOp xOper at *;simp only[ah]at h1 ⊢;rw[XP oj a oi.dst v p1]at h1;split
   · rename_i hw;simp only[hw,Yv]at h1
     by_cases hro:readsOnly oj.op=true
     · rw[Zl hro]at h1 ⊢;obtain⟨u,h2,h3⟩:=h1;refine⟨u,fun w' hw'=>?_,go u w (hR.refl _) h3⟩;have:=h2 w' hw';unfold Oper.quietAt at *
       rwa [XO oj (af j oj · · ah) a oi.dst v p1]at this
     rw[Zj hro]at h1 ⊢;unfold stepAt at *;rw[XO oj (af j oj · · ah) a oi.dst v p1]at h1;exact stepUpon_mono (fun u w' ⟨h2,h3⟩=>⟨h2,go u w' h2 h3⟩) h1
   rename_i hw;simp only[hw,Yc]at h1;exact go _ w (hR.refl _) h1
theorem wp_regionX (R:World→World→Prop) (hR:Rel R) {id:Nat} {Q:Exit→Act→World→Prop} {a:Act} {w:World} {l:List Oper} (hm:P.follows .mixedOrders=true)
 (h:wpX P .any l.toArray R (fun a w=>Q .normal a w) l.toArray.size (Array.replicate l.toArray.size false) a w.drew):(Code.region id l.toArray true).wp P Q a w :=
 JC hm (wpAny_of_x (F:=fun a w=>Q .normal a w) (fun _ _ h=>h) _ _ _ _ h)
variable {fuel:Nat} {listed:Array Bool} {a:Act} {w:World}
theorem takeX {l:List Oper} (i:Nat) {o:Oper} (hk:(Region.noSelect l.toArray&&Region.free md l.toArray listed i&&(Region.ready md l.toArray listed).contains i&&readsOnly o.op&&Region.wanted o (yielded l.toArray a.tmps))=true) (hR:Rel R) (hi':l[i]?=some o)
 (h:∀K:Act→Prop,(∀A,wpX P md l.toArray R F fuel (listed.setIfInBounds i true) A w→K A)→o.quiet P a (fun w'=>∃x:Later R w,w'=x.val) K):wpX P md l.toArray R F (fuel+1) listed a w:=by
 simp only[Zs]at hk;obtain⟨⟨⟨⟨hs,hf⟩,hr⟩,hro⟩,hw⟩:=hk;have hi:l.toArray[i]?=some o:=by simpa using hi'
 obtain⟨v,h1,h2⟩:=h (fun A=>wpX P md l.toArray R F fuel (listed.setIfInBounds i true) A w) (fun A h=>h);exact firstX hR hi (Region.noSelect_spec hs) fuel listed a w (Region.free_spec hi hf) (by simpa using hr) (.inl ⟨hw,hro,fun w' hw'=>quietAt_same hro (h1 w' ⟨⟨w',hw'⟩,rfl⟩)⟩) h2
theorem one (i:Nat) (hr:Region.ready md ops listed=[i]) (h:xOp P ops R i (wpX P md ops R F fuel (listed.setIfInBounds i true)) a w):wpX P md ops R F (fuel+1) listed a w :=
 ⟨fun e=>absurd e (by rw[hr];simp),fun j hj=>by
  rw[hr,Zp]at hj;subst hj;exact h⟩
theorem two (i i':Nat) (hr:Region.ready md ops listed=[i,i']) (h:xOp P ops R i (wpX P md ops R F fuel (listed.setIfInBounds i true)) a w) (h':xOp P ops R i' (wpX P md ops R F fuel (listed.setIfInBounds i' true)) a w):wpX P md ops R F (fuel+1) listed a w :=
 ⟨fun e=>absurd e (by rw[hr];simp),fun j hj=>by
  rw[hr]at hj;rcases List.mem_cons.1 hj with e|hj
  · subst e;exact h
  rw[Zp]at hj;subst hj;exact h'⟩
theorem endX (hr:Region.ready md ops listed=[]) (h:F a w):wpX P md ops R F fuel listed a w:=by
 cases fuel with
 | zero=>exact⟨hr,h⟩
 | succ fuel=>exact⟨fun _=>h,fun i hi=>by rw[hr]at hi;cases hi⟩
theorem stepX {l:List Oper} (i:Nat) {o:Oper} (hk:(plainOp o.op&&!readsOnly o.op&&Region.wanted o (yielded l.toArray a.tmps))=true) (hi':l[i]?=some o) {K:Act→World→Prop}
 (h:∀K':Act→World→Prop,(∀A w',R w w'→(∀A',A'=A→K A' w')→K' A w')→o.wp P a w K' (fun _ _ _=>False)):xOp P l.toArray R i K a w:=by
 simp only[Zs,Yr]at hk;obtain⟨⟨hp,hro⟩,hw⟩:=hk;have hi:l.toArray[i]?=some o:=by simpa using hi'
 unfold xOp xOper;simp only[hi,hw,hro,Yv,ZL,Yc];have h1:=h (fun A w'=>R w w'∧K A w') (fun A w' h1 h2=>⟨h1,h2 A rfl⟩);have aa:=noDefer hp a.eval P w;unfold stepAt;unfold Oper.wp at h1;generalize (execOp a.eval o).run P w=r at *;cases r with
 | ok x w' =>
   cases x <;> simp only[Oper.upon]at h1 <;> simp only[stepUpon]
   case value v=>exact h1
   case skip=>exact h1
   case defer d=>exact absurd rfl (aa w' d)
   case enter f args =>
    refine h1.mono fun e w'' he=>?_
    cases e with
    | returned v=>exact⟨v,rfl,he⟩
    | panicked c=>exact absurd he id
    | outgrown=>obtain⟨_,_,he⟩:=he;exact absurd he id
   case row s args=>exact Jw h1 fun v w'' he=>he
 | halt x w'=>cases x <;> simp only[Oper.upon]at h1
theorem callX {l:List Oper} (i:Nat) {o:Oper} {fn:Func} (hi':l[i]?=some o) (f:FuncId) (xs:List Operand) (ts:Array TypeId) (ho:o.op=.call { callee:=.value (.func f),args:=xs.toArray,argTypes:=ts })
 (ae:P.funcs[f]?=some fn) (us:List Value) (hv:xs.map a.eval=us) (T:Ending→World→Prop) (hC:Calls P f us.toArray w T) (hk:(fn.name != "runtime.NumGoroutine" && fn.body.isSome&&!readsOnly o.op&&Region.wanted o (yielded l.toArray a.tmps))=true) {K:Act→World→Prop}
 (h:∀e w',T e w'→∃v,e=.returned v∧R w w'∧∀A,A=a.put o.dst v→K A w'):xOp P l.toArray R i K a w:=by
 simp only[Zs,Yr]at hk;obtain⟨⟨⟨af,hbd⟩,hro⟩,hw⟩:=hk;have entry:∀args w,(callFunc f args).run P w=.ok (.enter f args) w:=fun args w=>entered ae af hbd args w
 have hi:l.toArray[i]?=some o:=by simpa using hi'
 unfold xOp xOper;simp only[hi,hw,hro,Yv,ZL,Yc]
 have aa:(execOp a.eval o).run P w=.ok (.enter f us.toArray) w:=by
  have hf:a.eval (.func f)=.func (.func f) #[] #[]:=rfl;unfold execOp;subst hv;simp[ho,resolve,invoke,go_sem,entry,hf]
 unfold stepAt;rw[aa];exact hC.mono fun e w' ht=>let ⟨v,he,h1,h2⟩:=h e w' ht;⟨v,he,h1,h2 _ rfl⟩
end
end Go.Proofs.YthngjlllojiacaaGreatDoor.Stg
namespace Go.Proofs.YthngjlllojiacaaGreatDoor
open Go.RowKit
theorem zBa {P:Program} {ops:Array Oper} {rest:List Oper} {o:Oper} {a:Act} {w w':World} {Q:Exit→Act→World→Prop} (aa:o.guard=none) (u:Value) (hr:(execOp a.eval o).run P w=.ok (.value u) w') (h:wpList P ops Q rest (a.put o.dst u) w'):wpList P ops Q (o::rest) a w :=
 QY aa fun _ hK=>by
  unfold Oper.wp;rw[hr];exact hK _ _ h
theorem zLY {P:Program} {ops:Array Oper} {o:Oper} {a:Act} {K:Act→World→Prop} {Q:Exit→Act→World→Prop} {E:Prop} {w w':World} (aa:o.guard=none) (u:Value) (hr:(execOp a.eval o).run P w=.ok (.value u) w') (h:K (a.put o.dst u) w') :
 if Region.wanted o (yielded ops a.tmps)=true then Oper.wp P o a w K Q else E:=by
 rw[Zl (by simp[Region.wanted,aa])];unfold Oper.wp;rw[hr];exact h
theorem zE7 {P:Program} {o:Oper} {ρ:Operand→Value} {w w':World} (t:TypeId) (ho:o.op=.build t #[]) (u:Value) (hr:(Instr.build t #[]).run P w=.ok u w'):(execOp ρ o).run P w=.ok (.value u) w':=by
 simp only[execOp,ho,YE,Xc,Yq,hr,Yt,Ys]
theorem zJa {P:Program} {o:Oper} {ρ:Operand→Value} {w w':World} (t:TypeId) (k:Nat) (x:Operand) (ho:o.op=.build t #[(k,x)]) (v:Value) (hx:ρ x=v) (u:Value) (hr:(Instr.build t #[(k,v)]).run P w=.ok u w'):(execOp ρ o).run P w=.ok (.value u) w':=by
 subst hx;simp only[execOp,ho,YE,Xc,ZX,Yq,hr,Yt,Ys]
theorem zCo {P:Program} {o:Oper} {ρ:Operand→Value} {w w':World} (t:TypeId) (n k:Nat) (x:Operand) (ho:o.op=.buildSlice t n #[(k,x)]) (v:Value) (hx:ρ x=v) (u:Value) (hr:(Instr.buildSlice t n #[(k,v)]).run P w=.ok u w'):(execOp ρ o).run P w=.ok (.value u) w':=by
 subst hx;simp only[execOp,ho,YE,Xc,ZX,Yq,hr,Yt,Ys]
theorem zCv {P:Program} {o:Oper} {ρ:Operand→Value} {w w':World} (t:TypeId) (x:Operand) (ho:o.op=.load t x) (v:Value) (hx:ρ x=v) (u:Value) (hr:(Instr.loadAt t v).run P w=.ok u w'):(execOp ρ o).run P w=.ok (.value u) w':=by
 subst hx;simp only[execOp,ho,YE,hr,Yt,Ys]
theorem zDs {P:Program} {o:Oper} {ρ:Operand→Value} {w w':World} (s x:Operand) (t:TypeId) (ho:o.op=.call { callee:=.builtin .append,args := #[s,x],argTypes := #[t,t] }) (v u:Value) (hs:ρ s=v) (hx:ρ x=u) (r:Value)
 (hr:(Builtin.append_ #[t,t] o.type #[v,u]).run P w=.ok r w'):(execOp ρ o).run P w=.ok (.value r) w':=by
 subst hs hx;unfold execOp;simp only[ho,resolve,invoke,builtin,YE,Ys,Yt,Xc,ZX,Yq,hr]
section
variable {P:Program} {ops:Array Oper} {Q:Exit→Act→World→Prop} {fuel:Nat} {listed:Array Bool} {a:Act} {w:World}
theorem Pg.take (i:Nat) (op:Op) (d:Option Tmp) (t:TypeId) (v:Value) (ho:(ops[i]?).map (fun o=>(o.op,o.dst,o.type,o.guard))=some (op,d,t,none)) (hs:Region.noSelect ops=true) (hf:Region.free .any ops listed i=true) (hr:(Region.ready .any ops listed).contains i=true)
 (hQ:∀c a w,Q (.panic c) (a.put d v) w→Q (.panic c) a w) (hy:∀o:Oper,o.op=op→∀w,(execOp a.eval o).run P w=.ok (.value v) w)
 (h:wpAny P .any ops Q fuel (listed.setIfInBounds i true) (a.put d v) w):wpAny P .any ops Q (fuel+1) listed a w:=by
 cases hi:ops[i]? with
 | none=>simp[hi]at ho
 | some o =>
   simp only[hi,Zx,Zg,YB]at ho;obtain⟨h1,h2,h3,h4⟩:=ho;refine wpAny_take (i:=i) (oi:=o) (v:=v) hi hs hf hr (fun c a w=>by rw[h2];exact hQ c a w) (Or.inl ⟨by simp[Region.wanted,h4],hy o h1⟩) ?_;rw[h2];exact h
theorem zBF {i:Nat} {rs:List Nat} (op:Op) (d:Option Tmp) (t:TypeId) (v:Value) (w':World) (ho:(ops[i]?).map (fun o=>(o.op,o.dst,o.type,o.guard))=some (op,d,t,none)) (hr:∀o:Oper,o.op=op→o.type=t→(execOp a.eval o).run P w=.ok (.value v) w')
 (h:wpAny P .any ops Q fuel (listed.setIfInBounds i true) (a.put d v) w') (hs:AllReady P .any ops Q fuel listed a w rs):AllReady P .any ops Q fuel listed a w (i::rs):=by
 cases hi:ops[i]? with
 | none=>simp[hi]at ho
 | some o =>
   simp only[hi,Zx,Zg,YB]at ho;obtain⟨h1,h2,h3,h4⟩:=ho;refine AllReady.cons hi (fun K hK=>?_) hs;refine zLY h4 v (hr o h1 h3) (hK _ _ ?_);rw[h2];exact h
theorem zGP {i:Nat} {rs:List Nat} (op:Op) (w':World) (ho:(ops[i]?).map (fun o=>(o.op,o.dst,o.type,o.guard))=some (op,none,0,none)) (hr:∀o:Oper,o.op=op→(execOp a.eval o).run P w=.ok .skip w')
 (h:wpAny P .any ops Q fuel (listed.setIfInBounds i true) a w') (hs:AllReady P .any ops Q fuel listed a w rs):AllReady P .any ops Q fuel listed a w (i::rs):=by
 cases hi:ops[i]? with
 | none=>simp[hi]at ho
 | some o =>
   simp only[hi,Zx,Zg,YB]at ho;obtain⟨h1,h2,h3,h4⟩:=ho;refine AllReady.cons hi (fun K hK=>?_) hs;rw[Zl (by simp[Region.wanted,h4])];unfold Oper.wp;rw[hr o h1];refine hK _ _ ?_;rw[h2];exact h
end
theorem zEH {P:Program} {o:Oper} {ρ:Operand→Value} {w:World} (x:Operand) (ho:o.op=.move x) (v:Value) (hx:ρ x=v):(execOp ρ o).run P w=.ok (.value v) w:=by
 subst hx;simp only[execOp,ho,Ys]
theorem zD0 {P:Program} {o:Oper} {ρ:Operand→Value} {w:World} (x:Operand) (ho:o.op=.nilCheck x) (a:Addr) (hx:ρ x=.pointer (some a)):(execOp ρ o).run P w=.ok (.value (.pointer (some a))) w:=by
 simp only[execOp,ho,hx,Ys]
theorem zCE {P:Program} {o:Oper} {ρ:Operand→Value} {w w':World} (t:TypeId) (x:Operand) (k:Nat) (ho:o.op=.fieldAddr t x k) (v:Value) (hx:ρ x=v) (u:Value) (hr:(Instr.fieldAt t v k).run P w=.ok u w'):(execOp ρ o).run P w=.ok (.value u) w':=by
 subst hx;simp only[execOp,ho,YE,hr,Yt,Ys]
theorem zE8 {P:Program} {o:Oper} {ρ:Operand→Value} {w w':World} (t:TypeId) (p x:Operand) (ho:o.op=.store t p x) (v u:Value) (hp:ρ p=v) (hx:ρ x=u) (hr:(Instr.storeAt t v u).run P w=.ok () w'):(execOp ρ o).run P w=.ok .skip w':=by
 subst hp hx;simp only[execOp,ho,YE,hr,Yt,Ys]
theorem zHk:∀(xs:List Value) (k:Nat) (cs:Array Value),cs.size=k+xs.length→((xs.zipIdx k).foldl (fun (cs:Array Value) (p:Value × Nat)=>cs.setIfInBounds (0+p.2) p.1) cs).toList=cs.toList.take k++xs
 | [],k,cs,h=>by simp;rw[Zi (by simp;simp at h;omega)]
 | x::xs,k,cs,h=>by
   rw[List.zipIdx_cons,Yz,zHk xs (k+1) _ (by simp at h ⊢;omega)];have hk:k<cs.toList.length:=by simp at h ⊢;omega
   simp only[Array.toList_setIfInBounds,Z1];rw[ZA,List.take_set_of_le (Za _),List.getElem?_set_self hk];simp
theorem zNb (n:Nat) (cs v:Array Value) (h1:v.size=n) (h2:cs.size=n):Instr.fill (fun i=>some (i*n,n)) cs [(0,.agg v)]=some v:=by
 unfold Instr.fill;simp only[];split
 · rename_i h;have e1:(Value.agg v).cells.size=n:=h1;rw[e1]at h;have e2:¬(0*n+n > cs.size):=by omega
   simp[h2]at h
 unfold Instr.fill;congr 1;have:=zHk v.toList 0 cs (by simp;omega);apply Array.ext'
 simp only[Value.cells,JP];rw[←Array.foldl_toList,Array.toList_zipIdx];rw[Kc,ZH]at this;exact this
theorem zP2:(Tryz.prog.info? 202).map (fun i=>(i.zero.isSome,i.size,i.bytes))=some (true,256,512):=by kernel_rfl
theorem zQb (w:World) (b:List Int) (hb:b.length=256):(Instr.buildSlice 204 1 #[(0,.agg (Pg.vs b).toArray)]).run Tryz.prog w=.ok (.slice (some ⟨w.heap.size,0,none⟩) 1 1) (w.alloc (.cells (Pg.vs b).toArray 202)):=by
 have hi:=zP2;cases hie:Tryz.prog.info? 202 with
 | none=>simp[hie]at hi
 | some ie =>
   simp only[hie,Zx,Zg,YB]at hi;obtain⟨z,hz⟩:=Option.isSome_iff_exists.1 hi.1;refine run_buildSlice w _ _ 1 _ _ ie z Tryz.underlying204 hie hz (by rw[hi.2.1];decide) (by rw[hi.2.1];decide) ?_;rw[hi.2.1];exact zNb 256 _ _ (by unfold Pg.vs;simp[hb]) (by simp)
theorem zNc (w:World):(Instr.build 202 #[]).run Tryz.prog w=.ok (.agg (Pg.vs zAj).toArray) w:=by kernel_rfl
theorem zRD (w:World) (v:Addr):(Instr.build 206 #[(1,Value.slice (some v) 1 1)]).run Tryz.prog w=.ok (.agg (Pg.vs (List.replicate 4352 0)++[Value.slice (some v) 1 1]).toArray) w:=by kernel_rfl
theorem zQc:∃(i:TypeInfo) (z:Value),Tryz.prog.info? 202=some i∧i.zero=some z∧i.size=256∧i.bytes=512∧z.cells.size=256:=by
 have hi:(Tryz.prog.info? 202).map (fun i=>(i.zero.map fun z=>z.cells.size,i.size,i.bytes))=some (some 256,256,512):=by kernel_rfl
 cases hie:Tryz.prog.info? 202 with
 | none=>simp[hie]at hi
 | some ie =>
   simp only[hie,Zx,Zg,YB]at hi;obtain⟨h1,h2,h3⟩:=hi;cases hz:ie.zero with
   | none=>simp[hz]at h1
   | some z=>exact⟨ie,z,rfl,hz,h2,h3,by simpa [hz] using h1⟩
theorem zDl (g:Nat) (w:World):(Instr.fieldAt 206 (.pointer (some ⟨g,0,none⟩)) 1).run Tryz.prog w=.ok (.pointer (some ⟨g,4352,none⟩)) w:=by
 have hu:=Tryz.underlying206;go_simp
theorem zE9 (w:World) (b o:Nat) (u:Value) (A:Option Addr) (n c:Nat) (h:w.cell? ⟨b,o,none⟩=some u) (hf:w.frozen? ⟨b,o,none⟩=false):(Instr.storeAt 204 (.pointer (some ⟨b,o,none⟩)) (.slice A n c)).run Tryz.prog w=.ok () (w.setCell ⟨b,o,none⟩ (.slice A n c)):=by
 have hu:=Tryz.underlying204;go_simp
theorem zGh {W:World} {base n pb:Nat} {e:TypeId} {size:Nat} {v:Value} {xs:List Value} {bl:List (List Int)} (h:W.ownsRow base e size v n xs) (hp:Pg.Pl W pb bl):v.ownBlock≠some pb:=by
 intro hv;rcases h.2 with ⟨rfl,_⟩|⟨g,cap,aa,rfl,_,hg,_⟩
 · simp[Value.ownBlock]at hv
 simp only[Value.ownBlock,Zg]at hv;exact hp.notAt hg hv.symm
theorem zHl (w:World) (b o:Nat) (v:Value) (h:w.cell? ⟨b,o,none⟩=some v):(Instr.loadAt 204 (.pointer (some ⟨b,o,none⟩))).run Tryz.prog w=.ok v w:=by
 have hu:=Tryz.underlying204;go_simp
theorem zNd (base:Nat) (W:World) (v:Value) (n:Nat) (xs:List Value) (b:List Int) (hb:b.length=256) (aa:W.ownsRow base 202 256 v n xs) (ae:base≤W.heap.size) (hn:n≤100000) (ty:TypeId) :
 ∃v' w',(Builtin.append_ #[204,204] ty #[v,.slice (some ⟨W.heap.size,0,none⟩) 1 1]).run Tryz.prog (W.alloc (.cells (Pg.vs b).toArray 202))=.ok v' w' ∧
  w'.ownsRow base 202 256 v' (n+1) (xs++Pg.vs b)∧W.grownBy w' v.ownBlock:=by
 obtain⟨i,z,h1,h2,h3,h4,h5⟩:=zQc;have hl:(Pg.vs b).length=1*256:=by unfold Pg.vs;rw[List.length_map,hb]
 obtain⟨v',w',g1,g2,g3,_⟩:=run_append_own (P:=Tryz.prog) (w:=W.alloc (.cells (Pg.vs b).toArray 202)) base 204 ty 202 i z 256 512 Tryz.underlying204 h1 h2 h3 h4 h5 (by decide) v n xs (aa.alloc _) ⟨W.heap.size,0,none⟩ 1 1 (Pg.vs b) hl
  (fun j u hu=>by
    have hj:=Rw.At.new W 202 (Pg.vs b);have:(⟨W.heap.size,0,none⟩:Addr).add j=⟨W.heap.size,0+j,none⟩:=by unfold Addr.add;split <;> simp_all
    rw[this,Z1];exact hj.cell j hu) (fun u hu=>by unfold Pg.vs at hu;obtain⟨y,_,rfl⟩:=List.mem_map.1 hu;rfl) (by simp only[maxLen];omega) (by omega) (by simp;omega)
 exact⟨v',w',g1,g2,zA0 (zLp (YW W _ none)) g3⟩
end Go.Proofs.YthngjlllojiacaaGreatDoor
