/- RowsPlain, plain: rows that say nothing, put between; no program in sight. -/
import Derived.Test.YthngjlllojiacaaGreatDoorChar
import Derived.Test.YthngjlllojiacaaGreatDoorRwRLine
import Derived.Deep.SlicePairs
import Derived.Deep.Strs
import Derived.ProofKit
import Derived.OpenShut
set_option maxRecDepth 100000
set_option maxHeartbeats 4000000
set_option linter.unusedVariables false
set_option linter.unusedSimpArgs false
namespace Go.Proofs.YthngjlllojiacaaGreatDoor
open Go.Proofs.Tryz
section
open Go.RowKit Go.Stop
def zAX (l:List Rw.Row):List UInt8:=l.flatMap fun r=>Rw.line r++[10]
theorem zFh (a b:List Rw.Row):zAX (a++b)=zAX a++zAX b:=by simp[zAX]
theorem zFi (r:Rw.Row):zAX [r]=Rw.line r++[10]:=by simp[zAX]
theorem zIX (l:List Rw.Row):zAX l=(l.map Rw.line).flatMap fun x=>x++[10]:=by simp[zAX,J1]
theorem zFX (r:Rw.Row) (h:Rw.right r):(Rw.line r).length≤1000:=by
 have:=zDP r h;unfold zC8 at this;rw[Zs,Zm]at this;exact this.1
theorem zCj:∀(l:List Rw.Row),(∀r∈l,Rw.right r)→(zAX l).length≤1001*l.length
 | [],_=>by simp[zAX]
 | r::l,h=>by
   have h1:=zFX r (h r Zq);have h2:=zCj l fun q hq=>h q (Zv _ hq)
   rw[show r::l=[r]++l from rfl,zFh,zFi];simp;omega
def zFj:Int→List Rw.Row→Int
 | c,[]=>c
 | _,r::l=>zFj r.1 l
def zFY (r:Rw.Row):Prop:=Rw.right r∧(C.isC r.1=true∨Rw.quiet r=true)
theorem Rw.parse_txt (l:List Rw.Row) (h:∀r∈l,zFY r) (hr:zD7 (-1) l) (hl:l.length≤40000):Rw.parse (zAX l)=some (l.filter fun r=>!Rw.quiet r):=by
 rw[zIX];exact zJd l h hr hl
abbrev Rp.St:=List Rw.Row × List Rw.Row × Int
structure Rp.Inv (st:Rp.St) (n:Nat):Prop where
 c0 : -1≤st.2.2
 c1:st.2.2≤1114111
 r1:zD7 (-1) st.1
 r2:zD7 (-1) st.2.1
 l1:zFj (-1) st.1=st.2.2
 l2:zFj (-1) st.2.1=st.2.2
 f1:∀r∈st.1,zFY r
 f2:∀r∈st.2.1,zFY r
 g1:st.1.filter (fun r=>!Rw.quiet r)=st.1
 g2:st.2.1.filter (fun r=>!Rw.quiet r)=st.1
 n1:st.1.length≤n
 n2:st.2.1.length≤2*n
end
section
open Go.RowKit
theorem Bd.size:(prog.info? 104).map (·.size)=some 2:=by kernel_rfl
theorem zRL:liesAt prog prog.depth 104 (2/prog.cellsOf 104) 0 104 1=true:=by kernel_rfl
theorem zNG:(prog.info? 5).map (fun i=>(i.zero,i.size,i.bytes))=some (some (.int .u8 0),1,1):=by kernel_rfl
theorem zKV (b:Nat) (w:World) (h0:w.cell? ⟨b,0,none⟩=some (.pointer (some ⟨b,0,none⟩))) :
 Calls prog 93 #[.pointer (some ⟨b,0,none⟩)] w fun e w'=>e=.returned (.tuple #[])∧w'=w:=by
 obtain⟨j,hj,_⟩:=Option.map_eq_some_iff.1 Bd.size;go_enter func93,ntmps93;go_wp2;rw[Lib.run_neq_ptr_same w _ underlying102 hj];go_wp2;go_end0;exact⟨rfl,rfl⟩
theorem zJg (b:Nat) (w:World) (h0:w.cell? ⟨b,0,none⟩=some (.pointer none)) (aa:w.shape? b=some (104,2)) (af:w.frozen? ⟨b,0,none⟩=false) :
 Calls prog 93 #[.pointer (some ⟨b,0,none⟩)] w fun e w'=>e=.returned (.tuple #[])∧w'=w.setCell ⟨b,0,none⟩ (.pointer (some ⟨b,0,none⟩)):=by
 obtain⟨j,hj,ae⟩:=Option.map_eq_some_iff.1 Bd.size;go_enter func93,ntmps93;go_wp2;rw[Lib.run_to_unsafe w ⟨b,0,none⟩ underlying102 underlying235 hj (by rw[ae];decide) aa (Nat.zero_lt_succ 1)];simp only[Result.andThen];rw[Ja];go_wp2;rw[run_callFunc_extern func133 (by kernel_rfl) (by kernel_rfl) (by kernel_rfl) (e:=Extern.AbiNoEscape.same) (by kernel_rfl)];rw[Lib.run_noEscape];simp only[Result.andThen];rw[Ja];go_wp2;rw[Lib.run_from_unsafe w ⟨b,0,none⟩ underlying235 underlying102 hj aa zRL];simp only[Result.andThen];rw[Ja];go_wp2;go_end0;exact⟨rfl,rfl⟩
end
section
open Go.RowKit
def Bd.At (w:World) (b D:Nat) (bs:List Value):Prop :=
 ∃p v,(p=.pointer none∨p=.pointer (some ⟨b,0,none⟩))∧Rw.At w b 104 [p,v]∧w.ownsRow D 5 1 v bs.length bs
def Bd.Kept (w w':World):Prop:=∀(t:TypeId) (A:Option Addr) (xs:List Value),t≠104→t≠5→Slt w t A xs→Slt w' t A xs
theorem zGn (b D:Nat) (bs:List Value) (s:ByteArray) (w:World) (hD:b<D) (bh:D≤w.heap.size) (h:Bd.At w b D bs) (hlen:bs.length+s.size≤140737488355328) :
 Calls prog 55 #[.pointer (some ⟨b,0,none⟩),.string s] w fun e w'=>e=.returned (.tuple #[.int .i64 s.size,.nilIface])∧Bd.At w' b D (bs++Lib.strCells s)∧Bd.Kept w w'∧Below b w w':=by
 obtain⟨i0,hi,bf,bc,bg⟩:=Z7 zNG;obtain⟨p,v,hp,ai,ak⟩:=h
 have ap:∀W,W=w→Calls prog 93 #[.pointer (some ⟨b,0,none⟩)] W fun e w'=>e=.returned (.tuple #[])∧(w'=w∨w'=w.setCell ⟨b,0,none⟩ (.pointer (some ⟨b,0,none⟩)))∧Rw.At w' b 104 [.pointer (some ⟨b,0,none⟩),v]:=by
  rintro W rfl;rcases hp with rfl|rfl
  · refine (zJg b W (ai.cell 0 rfl) ?_ (ai.frozen 0)).mono ?_
    · unfold Rw.At at ai;simp[World.shape?,ai]
    rintro e w' ⟨rfl,rfl⟩;exact⟨rfl,.inr rfl,ai.set 0 _⟩
  refine (zKV b W (ai.cell 0 rfl)).mono ?_;rintro e w' ⟨rfl,rfl⟩;exact⟨rfl,.inl rfl,ai⟩
 have aq:=hy' ak;have a7:=hy' ai;clear ak ai hp;go_enter func55,ntmps55;go_wp2_with fail;refine (ap _ rfl).mono ?_;rintro e w1 ⟨rfl,ar,aj⟩
 have ae:w1.ownsRow D 5 1 v bs.length bs:=by
  rcases ar with rfl|rfl
  · exact aq.o
  exact zA8 aq.o hD (Rw.grown_set b 0 _)
 have ax:Bd.Kept w w1:=by
  rcases ar with rfl|rfl
  · exact fun t A xs _ _ h=>h
  exact fun t A xs h1 _ h=>h.setAt a7.o (fun e=>h1 e.symm) 0 _
 have au:Below b w w1:=by
  rcases ar with rfl|rfl
  · exact Zc _ _
  exact (Zc _ _).setCell (p:=⟨b,0,none⟩) (Za _) _
 have hne:=zBi ae b hD;have c0:=aj.cell 0 rfl;have c1:=aj.cell 1 rfl;have bb:=au.size;have ag:=hy' ae;have ba:=hy' ax;have ay:=hy' au;have a1:=hy' hne;clear ar ae ax au hne ap;go_wp2_with (at_builtin;refine Lib.wpList_append_own_string _ rfl _ _ 30 9 rfl D 5 i0 underlying30 underlying9 hi bf bc bg _ _ _ rfl ag.o s rfl ?c3 ?c4 ?c5 ?_)
 case c3=>unfold maxLen;omega
 case c4=>omega
 case c5=>omega
 intro v' w2 ah aa _;have af:=aj.grown aa a1.o;have d0:=af.cell 0 rfl;have d1:=af.cell 1 rfl;have f1:=af.frozen 1;obtain⟨ao,cap,rfl⟩:=zA3 ah;have aw:Bd.Kept w1 w2:=fun t A xs _ h2 h=>h.grown aa (zAy ag.o (fun e=>h2 e.symm))
 have av:Below b w1 w2:=zAe aa (Z4 aj.lt) (fun k hk=>by have:=(ag.o.lt k hk).1;omega);have a6:=hy' aw;have a8:=hy' av;have az:=hy' ah;clear aw av ah aa c0 c1;go_wp2_with fail;go_ret2;refine⟨rfl,⟨_,_,.inr rfl,af.set 1 _,?_⟩,?_,(ay.o.trans a8.o).setCell (p:=⟨b,1,none⟩) (Za _) _⟩
 · have:=zA8 az.o hD (Rw.grown_set b 1 (.slice ao (bs.length+s.size) cap));rw[Zd,Lib.strCells_length];exact this
 exact fun t A xs h1 h2 h=>(a6.o t A xs h1 h2 (ba.o t A xs h1 h2 h)).setAt af (fun e=>h1 e.symm) 1 _
def zAf (X:List Int):List UInt8:=X.flatMap fun c=>Fi.text c.toNat++[10]
theorem zHy (X:List Int) (c:Int):zAf (X++[c])=zAf X++(Fi.text c.toNat++[10]):=by simp[zAf]
theorem zD9:∀(X:List Int),(∀c∈X,0≤c∧c≤1114111)→(zAf X).length≤7*X.length
 | [],_=>by simp[zAf]
 | c::X,h=>by
   have h1:=zAD c.toNat (by have:=(h c Zq).2;omega);have h2:=zD9 X fun d hd=>h d (Zv _ hd)
   unfold zAf at h2 ⊢;rw[Y7];simp only[Zd,ZF,Z0];omega
theorem zKW (n:Nat):zBu (Fi.text n)=Fi.text n:=by
 obtain⟨x,m,y,h1,h2,h3,h4⟩:=zMf n;unfold zBu;rw[zNC _ (zMg n)];have:=zND 0 (Fi.text n) x y m h1 h2 h3 h4 0;simpa using this
theorem zFx:∀(l:List Int) (seen:List Int),(∀c∈l,C.isC c=true)→l.Nodup→(∀c∈l,c∉seen)→Ex.steps seen (l.map fun c=>Fi.text c.toNat)=some (seen++l)
 | [],seen,_,_,_=>by simp[Ex.steps]
 | c::l,seen,h1,h2,h3=>by
   have hc:=h1 c Zq
   have aa:0≤c∧c≤1114111:=by
    unfold C.isC at hc;have:=YI hc;omega
   have hl:Ex.line seen (Fi.text c.toNat)=some (seen++[c]):=by
    unfold Ex.line;rw[zKW,Zj (zGU _),zFS _ (by omega),Zy,zEe aa.1,Zl ⟨hc,h3 c Zq⟩]
   rw[ZX,Ex.steps,hl,Zy,zFx l (seen++[c]) (fun d hd=>h1 d (Zv _ hd)) (List.nodup_cons.1 h2).2 (fun d hd hm=>by
    rcases List.mem_append.1 hm with h|h
    · exact h3 d (Zv _ hd) h
    rw[Zp]at h;subst h;exact (List.nodup_cons.1 h2).1 hd)]
   simp
theorem Ex.parse_btxt (l:List Int) (h1:∀c∈l,C.isC c=true) (h2:l.Nodup) (hn:l.length≤1000):Ex.parse (zAf l)=some l:=by
 have hb:∀c∈l,0≤c∧c≤1114111:=fun c hc=>by
  have:=h1 c hc;unfold C.isC at this;have:=YI this;omega
 have ae:∀x∈l.map (fun c=>Fi.text c.toNat),zC8 x=true:=by
  intro x hx;obtain⟨c,hc,rfl⟩:=List.mem_map.1 hx;have:=zAD c.toNat (by have:=(hb c hc).2;omega);exact zR4 (by omega) fun b af=>by have:=zC9 _ b af;omega
 have aa:zAM [] (zAf l)=l.map fun c=>Fi.text c.toNat:=by
  have:=zEd (l.map fun c=>Fi.text c.toNat) fun x hx=>zOi (ae x hx)
  rw[J1]at this;exact this
 unfold Ex.parse;rw[aa,Zl ⟨by rw[Yf];exact ae,by simp;omega⟩,zFx l [] h1 h2 (fun c _=>by simp)];simp
theorem Ex.text_any (A:Option Addr) (c n:Nat) (S X:List Int) (w:World) (hn:S.length=n) (b5:n≤1000) (bn:C.ok S) (hX:zCA (zAH S)=X) (bk:∀c∈X,C.isC c=true) (bp:X.length≤1000)
 (hA:Slt w 21 A (S.map (Value.int .i32))) (hL:Fi.Laid w) :
 Calls prog 59 #[.agg #[.slice A n c]] w fun e w'=>e=.returned (.string ⟨(zAf X).toArray⟩)∧Below w.heap.size w w':=by
 have bj:∀c∈X,0≤c∧c≤1114111:=fun c hc=>by
  have:=bk c hc;unfold C.isC at this;have:=YI this;omega
 obtain⟨wa,aw⟩:∃wa,(w.alloc (.cells #[.slice A n c] 96)).alloc (.cells #[.pointer none,.slice none 0 0] 104)=wa:=⟨_,rfl⟩;have ba:Below w.heap.size w wa:=by rw[←aw];exact ((Zc _ _).alloc (Za _) _).alloc (by simp) _
 have av:Rw.At wa w.heap.size 96 [.slice A n c]:=by rw[←aw];exact (Rw.At.new w 96 [.slice A n c]).alloc _
 have ai:Rw.At wa (w.heap.size+1) 104 [.pointer none,.slice none 0 0]:=by
  have h:=Rw.At.new (w.alloc (.cells #[.slice A n c] 96)) 104 [.pointer none,.slice none 0 0];rw[ZK]at h;rw[←aw];exact h
 have bx:w.heap.size+1<wa.heap.size:=ai.lt;have aq:=zJ8 A c n wa.heap.size S wa hn (by omega) bn (Za _) (hA.below ba).sl;rw[hX]at aq;obtain⟨m,hm⟩:∃m,X.length=m:=⟨_,rfl⟩;unfold zJJ at aq;rw[hm]at aq bp;have bs:=hy' aw;have HM:=hy' hm;have bb:=hy' bj;have bf:=hy' ba;have HL:=hy' hL;have z0:=av.cell 0 rfl;clear aw hm bj ba hL hA hX bk hn;go_enter func59,ntmps59;go_upto_region 2 with (fail)
 rw[bs.o];go_wp2_with fail;refine aq.mono ?_;rintro e w2 ⟨A5,c5,rfl,af,ay⟩;have a1:Bd.At w2 (w.heap.size+1) w2.heap.size []:=⟨_,_,.inl rfl,ai.below ay,ZI _ _ _ _⟩;have bm:=hy' (Slt.of_own af);have bw:=hy' (bf.o.trans (ay.mono bf.o.size));have b2:w.heap.size+1<w2.heap.size:=Zf bx ay.size;clear af ay aq av ai z0;go_wp2_with fail;go_loopw [5,9] (fun _ i wr=>∃k:Nat,k≤m∧i=.int .i64 k∧Bd.At wr (w.heap.size+1) w2.heap.size (Lib.byteCells (zAf (X.take k)))∧Slt wr 21 A5 (X.map (Value.int .i32))∧Below (w.heap.size+1) w2 wr) (fun _ i _=>m-(intOf i).toNat)
 case atStart=>exact⟨0,ZG _,rfl,a1,bm.o,Zc _ _⟩
 obtain⟨k,hk,rfl,ap,hS,ae⟩:=hrel;have bo:w2.heap.size≤wr.heap.size:=ae.size;have ax:Below w.heap.size w wr:=bw.o.trans (ae.mono (ZW _))
 by_cases hlt:k<m
 rotate_left
 · obtain rfl:k=m:=by omega
   have kI:¬(k:Int)<k:=by omega
   rw[Zi (by rw[HM.o];exact Za _)]at ap
   have bc:Lib.IsBuilder 104 5 (w.heap.size+1) (w.heap.size+1) (Lib.byteCells (zAf X)) wr:=by
    obtain⟨p,v,h1,h2,h3⟩:=ap;have h4:Lib.BuilderAt 104 5 (w.heap.size+1) (w.heap.size+1) p (Lib.byteCells (zAf X)) wr:=⟨Za _,v,h2,zFe h3 (by omega),zBi h3 _ (by omega)⟩;rcases h1 with rfl|rfl
    · exact .inl h4
    exact .inr h4
   have bi:=Tryz.Builder_String_any (w.heap.size+1) (w.heap.size+1) (zAf X) wr bc (by omega);have HB:=hy' ax;clear ap hS ae bc ax;go_wp2_with fail;refine bi.mono ?_;rintro e w4 ⟨rfl,ar⟩;have a7:=hy' (HB.o.trans (ar.mono (ZW _)));clear ar bi;go_wp2_with fail;go_ret;exact⟨rfl,a7.o⟩
 obtain⟨x,hx⟩:∃x,X[k]?=some x:=⟨_,Zb (by rw[HM.o];exact hlt)⟩;have hxb:=bb.o x (Zk hx);obtain⟨ab,ao,rfl,b4,bh⟩:=hS.sl (by rw[Ze,HM.o];omega);have hc:=bh k (by rw[Ze,HM.o];exact hlt);rw[Zw,hx,Zx]at hc;obtain⟨xn,rfl⟩:∃xn:Nat,x=xn:=⟨x.toNat,by omega⟩;have hT:=Fi.text_any xn (by omega) wr (HL.o.below ax)
 have ag:zAf (X.take (k+1))=zAf (X.take k)++(Fi.text xn++[10]):=by
  rw[ZA,hx];show zAf (X.take k++[(xn:Int)])=_;rw[zHy,Y8]
 have b3:=zD9 (X.take k) fun d hd=>bb.o d (Yd hd)
 have bl:(X.take k).length≤k:=Xs _ _;obtain⟨tx,az⟩:∃y:ByteArray,⟨(Fi.text xn).toArray⟩=y:=⟨_,rfl⟩;rw[az]at hT
 have bq:tx.size≤6:=by
  rw[←az];show (Fi.text xn).toArray.size≤6;have:=zAD xn (by omega);simpa using this
 have s1:(⟨#[10]⟩:ByteArray).size=1:=rfl;have c1:¬9223372036854775807<tx.size+(⟨#[10]⟩:ByteArray).size:=by omega
 have aa:Lib.byteCells (zAf (X.take (k+1)))=Lib.byteCells (zAf (X.take k))++Lib.strCells (tx++⟨#[10]⟩):=by
  rw[ag,←az,show (⟨#[10]⟩:ByteArray)=⟨[10].toArray⟩ from rfl,zAI];unfold Lib.byteCells Lib.strCells;simp
 have kI:(k:Int)<m:=by omega
 have HC:=hy' aa;have bu:=hy' ap;have HS:=hy' hS;have a8:=hy' ae
 have ah:(Lib.byteCells (zAf (X.take k))).length+7≤140737488355328:=by
  have:(Lib.byteCells (zAf (X.take k))).length=(zAf (X.take k)).length:=by unfold Lib.byteCells;simp
  omega
 have b1:=hy' ah;clear bh hx ag b3 bl az aa ap hS ae ah hxb ax;go_wp2_with fail;refine hT.mono ?_;rintro e w3 ⟨rfl,aj⟩
 have au:Bd.At w3 (w.heap.size+1) w2.heap.size (Lib.byteCells (zAf (X.take k))):=by
  obtain⟨p,v,h1,h2,h3⟩:=bu.o;exact⟨p,v,h1,h2.below aj,zA4 h3 aj (Za _)⟩
 have hW:=zGn (w.heap.size+1) w2.heap.size (Lib.byteCells (zAf (X.take k))) (tx++⟨#[10]⟩) w3 b2 (Zh bo aj.size) au (by rw[ZU];have:=b1.o;omega);have bt:=hy' (HS.o.below aj);have bz:=hy' (a8.o.trans (aj.mono (by omega)));clear aj hT au;go_wp2_with fail;refine hW.mono ?_;rintro e w4 ⟨rfl,ak,bg,ar⟩;have a6:=hy' ak;have br:=hy' (bg _ _ _ (by decide) (by decide) bt.o);have a7:=hy' (bz.o.trans ar);clear ak bg ar hW;go_wp2_with fail;exact⟨⟨k+1,by omega,by go_num,by rw[HC.o];exact a6.o,br.o,a7.o⟩,by simp[intOf];omega⟩
theorem Ud.rtext_any (A:Option Addr) (n c:Nat) (T:List Rw.Row) (w:World) (hn:T.length=n) (a8:n≤1000) (hr:∀r∈T,Rw.right r) (hA:Rw.SeesI w A T) :
 Calls prog 106 #[.slice A n c] w fun e w'=>e=.returned (.string ⟨(zAX T).toArray⟩)∧Below w.heap.size w w':=by
 have HN:=hy' hn;have HR:=hy' hr;have HA:=hy' hA;clear hn hr hA;go_enter func106,ntmps106;go_wp2_with fail;go_loopw [3,5,8] (fun v3 _ i wr=>∃j:Nat,j≤n∧i=.int .i64 j∧v3=.string ⟨(zAX (T.take j)).toArray⟩∧Below w.heap.size w wr) (fun _ _ i _=>n-(intOf i).toNat)
 case atStart=>exact⟨0,ZG _,rfl,rfl,Zc _ _⟩
 obtain⟨j,hj,rfl,rfl,aa⟩:=hrel
 by_cases hlt:j<n
 · obtain⟨r,hr⟩:∃r,T[j]?=some r:=⟨_,Zb (by rw[HN.o];exact hlt)⟩;have ae:=HR.o r (Zk hr);obtain⟨b,o,a,rfl,hb,av,ay,ar,ax⟩:=HA.o.row hr;have c0:=((zAP aa).1 b (o+j*3) hb).trans av;have c1:=((zAP aa).1 b (o+j*3+1) hb).trans ay;have c2:=((zAP aa).1 b (o+j*3+2) hb).trans ar;have a7:b<wr.heap.size:=Zf hb aa.size;obtain⟨ml,ak⟩:∃k,r.2.2.length=k:=⟨_,rfl⟩;rw[ak]at c2;have aj:Below wr.heap.size wr (wr.alloc (.cells #[.int .i64 r.1,.int .i64 r.2.1,.slice a.1 ml a.2] 74)):=(Zc _ _).alloc (Za _) _;have ah:=Rw.At.new wr 74 [.int .i64 r.1,.int .i64 r.2.1,.slice a.1 ml a.2];have aq:ml≤2:=by rw[←ak];exact ae.2.2.2.2.1
   have hL:=zMi r.1 r.2.1 a.1 r.2.2 ml a.2 w.heap.size (wr.alloc (.cells #[.int .i64 r.1,.int .i64 r.2.1,.slice a.1 ml a.2] 74)) ae.1 (by have:=ae.2.1;omega) ae.2.2.1 (by have:=ae.2.2.2.1;omega) ak (by omega) (fun x hx=>by have:=ae.2.2.2.2.2 x hx;omega) (Zh aa.size aj.size) ((ax.below aa (Za _)).below (aj.mono aa.size) (Za _));have au:=zFX r ae;have a1:=zCj (T.take j) (fun q hq=>HR.o q (Yd hq));have a6:(T.take j).length≤j:=Xs _ _
   have af:zAX (T.take (j+1))=zAX (T.take j)++(Rw.line r++[10]):=by
    rw[ZA,hr,zFh];show _++zAX [r]=_;rw[zFi]
   obtain⟨ln,ao⟩:∃y:ByteArray,⟨(Rw.line (r.1,r.2.1,r.2.2)).toArray⟩=y:=⟨_,rfl⟩;obtain⟨st,ai⟩:∃y:ByteArray,⟨(zAX (T.take j)).toArray⟩=y:=⟨_,rfl⟩;have s1:ln.size≤1000:=by rw[←ao,zAv];exact au
   have s2:st.size≤1001000:=by rw[←ai,zAv];omega
   have ag:st++(ln++⟨#[10]⟩)=⟨(zAX (T.take (j+1))).toArray⟩:=by
    rw[af,←ai,←ao,show (⟨#[10]⟩:ByteArray)=⟨[10].toArray⟩ from rfl];simp only[zAI]
   simp only[ao]at hL;rw[ai];have jI:(j:Int)<n:=by omega
   have j0:(0:Int)≤j:=by omega
   obtain⟨d1,d2,d3,-,-,-⟩:=ah.three;have ap:=hy' ag;have HB:=hy' (aa.trans (aj.mono aa.size));clear av ay ar ax hr ae ak ao ai ag af au a1 a6 aa aj ah aq;go_wp2_with fail;refine hL.mono ?_;rintro e w2 ⟨rfl,aw⟩;have az:=hy' (HB.o.trans (aw.mono HB.o.size));clear aw hL d1 d2 d3 c0 c1 c2;go_wp2_with fail;exact⟨⟨j+1,by omega,by go_num,by rw[←ap.o],az.o⟩,by simp[intOf];omega⟩
 obtain rfl:j=n:=by omega
 have jI:¬(j:Int)<j:=by omega
 have he:zAX (T.take j)=zAX T:=by rw[Zi (by rw[HN.o];exact Za _)]
 rw[he];have HB:=hy' aa;clear aa he;go_wp2_with fail;go_ret;exact⟨rfl,HB.o⟩
def zAs (l:List Int):List Int:=l.foldl (fun acc c=>if c∈acc then acc else acc++[c]) []
theorem zFk:∀(l acc:List Int),acc.Nodup→(l.foldl (fun acc c=>if c∈acc then acc else acc++[c]) acc).Nodup∧∀d,d∈l.foldl (fun acc c=>if c∈acc then acc else acc++[c]) acc↔d∈acc∨d∈l
 | [],acc,h=>⟨h,fun d=>by simp⟩
 | c::l,acc,h=>by
   rw[Yz]
   by_cases hc:c∈acc
   · rw[Zl hc];obtain⟨h1,h2⟩:=zFk l acc h;refine⟨h1,fun d=>?_⟩;rw[h2 d,Xd];constructor
     · rintro (h|h)
       · exact .inl h
       exact .inr (.inr h)
     rintro (h|rfl|h)
     · exact .inl h
     · exact .inl hc
     exact .inr h
   rw[Zj hc]
   obtain⟨h1,h2⟩:=zFk l (acc++[c]) (by
    rw[List.nodup_append];refine⟨h,by simp,fun a ha b hb=>?_⟩;rw[Zp]at hb;rw[hb];exact fun e=>hc (e▸ha))
   refine⟨h1,fun d=>?_⟩;rw[h2 d,Xb,Zp,Xd,or_assoc]
theorem zKX (l:List Int):(zAs l).Nodup:=(zFk l [] Kg).1
theorem zCk (l:List Int) (d:Int):d∈zAs l↔d∈l:=by
 unfold zAs;rw[(zFk l [] Kg).2 d];simp
theorem zMj (l:List Int) (c:Int):zAs (l++[c])=if c∈l then zAs l else zAs l++[c]:=by
 have h:=zCk l c;unfold zAs at h ⊢;rw[YJ,Yz,Jm]
 by_cases hc:c∈l
 · rw[Zl hc,Zl (h.2 hc)]
 rw[Zj hc,Zj (fun x=>hc (h.1 x))]
theorem zEh (l:List Int):(zAs l).length≤l.length:=by
 unfold zAs
 have:∀(l acc:List Int),(l.foldl (fun acc c=>if c∈acc then acc else acc++[c]) acc).length≤acc.length+l.length:=by
  intro l
  induction l with
  | nil=>intro acc;simp
  | cons c l ih =>
    intro acc;rw[Yz];refine Zh (ih _) ?_;split
    · simp
    simp;omega
 simpa using this l []
theorem zMk (A:Option Addr) (n c:Nat) (XA:Option Addr) (xn xc:Nat) (T:List Rw.Row) (E:List Int) (w:World) (hn:T.length=n) (bp:n≤1000) (hxn:E.length=xn) (bm:xn≤1000) (bn:xn≤xc)
 (hr:∀r∈T,Rw.right r) (hE:∀x∈E,0≤x∧x≤1114111) (hA:Rw.SeesI w A T) (hX:Sl w w.heap.size XA (E.map (Value.int .i64))) :
 Calls prog 68 #[.agg #[.slice A n c,.slice XA xn xc]] w fun e w'=>e=.returned (.tuple #[.string ⟨(zAX T).toArray⟩,.string ⟨(zAf (zAs E)).toArray⟩])∧Below w.heap.size w w':=by
 have HT:=hy' (fun W (hW:Below w.heap.size w W)=>Ud.rtext_any A n c T W hn bp hr (hA.below hW));have HE:=hy' hE;have av:=hy' hxn;obtain⟨t1,ay⟩:∃y:ByteArray,⟨(zAX T).toArray⟩=y:=⟨_,rfl⟩;obtain⟨t2,a7⟩:∃y:ByteArray,⟨(zAf (zAs E)).toArray⟩=y:=⟨_,rfl⟩;simp only[ay]at HT;rw[ay,a7];have bj:=hy' a7;have ba:=Rw.At.new w 38 [.slice A n c,.slice XA xn xc];have aw:Below w.heap.size w (w.alloc (.cells #[.slice A n c,.slice XA xn xc] 38)):=(Zc _ _).alloc (Za _) _;obtain⟨w0,au⟩:∃w0,w.alloc (.cells #[.slice A n c,.slice XA xn xc] 38)=w0:=⟨_,rfl⟩;have ah:Rw.At w0 w.heap.size 38 [.slice A n c,.slice XA xn xc]:=by rw[←au];exact ba
 rw[au]at aw;have br:=hy' au;have bl:=hy' ah;have HB:=hy' aw;have HX:=hy' (hX.below aw (Za _));have y1:=ah.cell 1 rfl;have yl:=ah.lt;clear hn hr hE hxn hA hX ba aw au ah ay a7;go_enter func68,ntmps68;go_upto_region 1 with (fail)
 rw[br.o];go_wp2_with fail;clear y1 yl;go_loopw [4,5,6,7,9,13] (fun v4 _ _ _ _ i wr=>∃j:Nat,j≤xn∧i=.int .i64 j∧v4=.string ⟨(zAf (zAs (E.take j))).toArray⟩∧Below w0.heap.size w0 wr) (fun _ _ _ _ _ i _=>xn-(intOf i).toNat)
 case atStart=>exact⟨0,ZG _,rfl,rfl,Zc _ _⟩
 obtain⟨j,hj,rfl,rfl,aa⟩:=hrel;have ae:=bl.o.below aa;have y0:=ae.cell 0 rfl;have y1:=ae.cell 1 rfl;have yl:=ae.lt
 by_cases hlt:j<xn
 rotate_left
 · obtain rfl:j=xn:=by omega
   have jI:¬(j:Int)<j:=by omega
   have he:(⟨(zAf (zAs (E.take j))).toArray⟩:ByteArray)=t2:=by rw[Zi (by rw[av.o];exact Za _)];exact bj.o
   rw[he];have hT:=HT.o wr (HB.o.trans (aa.mono HB.o.size));have aj:=hy' (HB.o.trans (aa.mono HB.o.size));clear aa he ae;go_wp2_with fail;refine hT.mono ?_;rintro e w2 ⟨rfl,ap⟩;have a1:=hy' (aj.o.trans (ap.mono aj.o.size));clear ap hT;go_wp2_with fail;go_ret2;exact⟨rfl,a1.o⟩
 obtain⟨x,hx⟩:∃x,E[j]?=some x:=⟨_,Zb (by rw[av.o];exact hlt)⟩;have aq:=HE.o x (Zk hx);obtain⟨xb,xo,rfl,hxb,a8⟩:=HX.o (by rw[Ze,av.o];omega);have ao:xb<w0.heap.size:=Zf hxb HB.o.size
 have hcell:∀(i:Nat) (y:Int),E[i]?=some y→wr.cell? ⟨xb,xo+i,none⟩=some (.int .i64 y):=fun i y hy=>by
  have hi:=(List.getElem?_eq_some_iff.1 hy).1;have:=a8 i (by rw[Ze];exact hi);rw[Zw,hy,Zx,←(zAP aa).1 _ _ ao]at this;exact this
 have q:=hcell j x hx;have HC:=hy' hcell;have bo:xb<wr.heap.size:=Zf ao aa.size;have jI:(j:Int)<xn:=by omega
 have j0:(0:Int)≤j:=by omega
 have jc:(j:Int)≤xc:=by omega
 have bs:=hy' hx;have aj:=hy' aa
 have bk:(⟨(zAf (zAs (E.take j))).toArray⟩:ByteArray).size≤7000:=by
  rw[zAv];have h1:=zD9 (zAs (E.take j)) (fun d hd=>HE.o d (Yd ((zCk _ _).1 hd)));have h2:=zEh (E.take j);have h3:(E.take j).length≤j:=Xs _ _;omega
 have ai:zAf (zAs (E.take (j+1)))=if x∈E.take j then zAf (zAs (E.take j)) else zAf (zAs (E.take j))++(Fi.text x.toNat++[10]):=by
  rw[ZA,hx];show zAf (zAs (E.take j++[x]))=_;rw[zMj]
  by_cases hm:x∈E.take j
  · rw[Zl hm,Zl hm]
  rw[Zj hm,Zj hm,zHy]
 obtain⟨st,az⟩:∃y:ByteArray,⟨(zAf (zAs (E.take j))).toArray⟩=y:=⟨_,rfl⟩;rw[az]at bk ⊢;have bb:=hy' ai;have bf:=hy' az;have bi:=hy' ae;have a6:=zEQ x aq.1 (by omega)
 have bq:(⟨(Fi.text x.toNat).toArray⟩:ByteArray).size≤6:=by
  rw[zAv];have h2:=zBQ 5 x.toNat (by rw[show (16:Nat) ^ (5+1)=16777216 from by decide];omega);have h3:=Fi.text_len x.toNat;omega
 obtain⟨tx,ax⟩:∃y:ByteArray,⟨(Fi.text x.toNat).toArray⟩=y:=⟨_,rfl⟩;rw[ax]at bq;simp only[ax]at a6;have bh:=hy' a6;have bg:=hy' ax;clear hcell hx ai az ae a6 ax aa a8 aq;go_wp2_with fail;go_loop [7,9,23] (fun v7 _ k=>∃m:Nat,m≤j∧k=.int .i64 m∧v7=.bool (decide (x∈(E.take j).take m))) (fun _ _ k=>j-(intOf k).toNat)
 case atStart=>exact⟨0,ZG _,rfl,by simp⟩
 obtain⟨m,hm,rfl,rfl⟩:=hrel
 by_cases hmj:m<j
 · obtain⟨y,hy⟩:∃y,E[m]?=some y:=⟨_,Zb (by rw[av.o];omega)⟩;have qm:=HC.o m y hy
   have ag:decide (x∈(E.take j).take (m+1))=(decide (x∈(E.take j).take m)||(y == x)):=by
    rw[ZA,show (E.take j)[m]?=some y by rw[Yk,Zl hmj];exact hy,Yg];simp only[QC,Xb,Zp,Zm,Xn,YU];constructor
    · rintro (h|h)
      · exact .inl h
      exact .inr h.symm
    rintro (h|h)
    · exact .inl h
    exact .inr h.symm
   obtain⟨sn,ak⟩:∃b,decide (x∈(E.take j).take m)=b:=⟨_,rfl⟩;rw[ak]at ag ⊢;have HS:=hy' ag;have mI:(m:Int)<j:=by omega
   have m0:(0:Int)≤m:=by omega
   clear ag ak hy;cases sn
   · rcases hyx:(y == x) with _|_
     · rw[hyx]at HS;go_wp2_with fail;exact⟨⟨m+1,by omega,by go_num,by rw[HS.o];rfl⟩,by simp[intOf];omega⟩
     rw[hyx]at HS;go_wp2_with fail;exact⟨⟨m+1,by omega,by go_num,by rw[HS.o];rfl⟩,by simp[intOf];omega⟩
   go_wp2_with fail;exact⟨⟨m+1,by omega,by go_num,by rw[HS.o];rfl⟩,by simp[intOf];omega⟩
 obtain rfl:m=j:=by omega
 have mI:¬(m:Int)<m:=by omega
 obtain⟨sn,ak⟩:∃b,decide (x∈(E.take m).take m)=b:=⟨_,rfl⟩;rw[ak];have ar:decide (x∈E.take m)=sn:=by rw[←ak,Jv,JX]
 have bc:=hy' ar;clear ak ar;cases sn
 · have af:st++(tx++⟨#[10]⟩)=⟨(zAf (zAs (E.take (m+1)))).toArray⟩:=by
    rw[bb.o,if_neg (by simpa using bc.o),←bf.o,←bg.o,show (⟨#[10]⟩:ByteArray)=⟨[10].toArray⟩ from rfl];simp only[zAI]
   have HF:=hy' af;clear af;go_wp2_with (go_at_call 105;refine (bh.o _).mono ?_;rintro e w2 ⟨rfl,ap⟩;have a1:=hy' (aj.o.trans (ap.mono aj.o.size));clear ap);exact⟨⟨m+1,by omega,by go_num,by rw[←HF.o],a1.o⟩,by simp[intOf];omega⟩
 have af:st=⟨(zAf (zAs (E.take (m+1)))).toArray⟩:=by
  rw[bb.o,if_pos (by simpa using bc.o),←bf.o]
 have HF:=hy' af;clear af;go_wp2_with fail;exact⟨⟨m+1,by omega,by go_num,by rw[←HF.o],aj.o⟩,by simp[intOf];omega⟩
end
section
open Go.ChangeShapes Go.WideShapes Go.RowKit Go.Deep
def zDQ (r:Rw.Row):Prop:=(-9223372036854775808≤r.1∧r.1≤9223372036854775807)∧(-9223372036854775808≤r.2.1∧r.2.1≤9223372036854775807)∧r.2.2.length≤maxLen∧∀c∈r.2.2,-9223372036854775808≤c∧c≤9223372036854775807
def zQp (w:World) (a:Option Addr) (len cap:Nat) (l:List Rw.Row):Prop :=
 ∃ads,ads.length=l.length∧l.length=len∧len≤cap∧cap≤maxLen∧Sl w w.heap.size a (zBj l ads) ∧
  (∀(i:Nat) (r:Rw.Row) (a:Option Addr × Nat),l[i]?=some r→ads[i]?=some a→Sl w w.heap.size a.1 (r.2.2.map (Value.int .i64)))∧∀r∈l,zDQ r
theorem zEi {α:Type} {n:Nat} {f:Nat→α} {i:Nat} {x:α} (h:((List.range n).map f)[i]?=some x):i<n∧f i=x:=by
 have aa:=(List.getElem?_eq_some_iff.1 h).1;simp at aa;rw[Zw,XV aa]at h;simp at h;exact⟨aa,h⟩
theorem zIY {w:World} {b o:Nat}:∀(l:List Rw.Row) (ads:List (Option Addr × Nat)) (k:Nat),ads.length=l.length →
 (∀i r a,l[i]?=some r→ads[i]?=some a→w.cell? ⟨b,o+(k+i)*3,none⟩=some (.int .i64 r.1)∧w.cell? ⟨b,o+(k+i)*3+1,none⟩=some (.int .i64 r.2.1)∧w.cell? ⟨b,o+(k+i)*3+2,none⟩=some (.slice a.1 r.2.2.length a.2)) →
 ∀j,j<(zBj l ads).length→w.cell? ⟨b,o+k*3+j,none⟩=(zBj l ads)[j]?
 | [],_,k,_,_,j,hj=>by simp[zBj]at hj
 | _::_,[],k,h,_,j,hj=>by simp at h
 | r::t,a::as',k,hl,h,j,hj=>by
   obtain⟨h0,h1,h2⟩:=h 0 r a rfl rfl;rw[YT]at h0 h1 h2
   have ih:=zIY t as' (k+1) (by simpa using hl) (fun i r' a' hi hi'=>by
    have:=h (i+1) r' a' (by simpa using hi) (by simpa using hi');rw[show k+(i+1)=k+1+i by omega]at this;exact this)
   rcases j with _|_|_|j
   · exact h0
   · rw[show o+k*3+(0+1)=o+k*3+1 by omega];exact h1
   · rw[show o+k*3+(0+1+1)=o+k*3+2 by omega];exact h2
   have:=ih j (by simp only[zBj,ZF]at hj;omega);rw[show o+k*3+(j+1+1+1)=o+(k+1)*3+j by omega,this];rfl
theorem zRm {H:Type} {enc:TypeId × Value→H} {P:Program} {w:World} {t e q:TypeId} {f0 f1 f2:Field} {fuel:Nat} {a:Option Addr} {len cap:Nat} {x:DataW H × List MemPlace} (ht:P.underlying t=some (.slice e)) (he:P.underlying e=some (.struct #[f0,f1,f2]))
 (ce:P.cellsOf e=3) (o0:f0.offset=0) (o1:f1.offset=1) (o2:f2.offset=2) (c0:P.cellsOf f0.type=1) (c1:P.cellsOf f1.type=1) (c2:P.cellsOf f2.type=1) (k0:P.underlying f0.type=some (.int .i64)) (k1:P.underlying f1.type=some (.int .i64))
 (k2:P.underlying f2.type=some (.slice q)) (k3:P.underlying q=some (.int .i64)) (c3:P.cellsOf q=1)
 (h:DataW.trod enc P w 0 (fun _=>true) true fuel t [.slice a len cap]=some x):∃l,zQp w a len cap l:=by
 rcases open_slice ht h with ⟨hcs,_⟩|⟨ad,l,c,m,n,D,Pl,hcs,hb,hl,hm,ao,_,hx⟩
 · simp only[Yb,Z2,YH]at hcs;obtain⟨rfl,rfl,rfl⟩:=hcs;exact⟨[],[],rfl,rfl,Za _,by decide,Sl.nil _ _ _,by simp,by simp⟩
 simp only[Yb,Z2,YH]at hcs;obtain⟨rfl,rfl,rfl⟩:=hcs;have aq:len≤m:=by rw[ao];split <;> omega
 have each:∀i,i<len→∃q:Rw.Row × Option Addr × Nat,w.cell? (ad.add (i*3))=some (.int .i64 q.1.1)∧w.cell? (ad.add (i*3+1))=some (.int .i64 q.1.2.1)∧w.cell? (ad.add (i*3+2))=some (.slice q.2.1 q.1.2.2.length q.2.2) ∧
  Sl w w.heap.size q.2.1 (q.1.2.2.map (Value.int .i64))∧zDQ q.1:=by
  intro i hi;obtain⟨cs',h1,h2⟩:=hx i (by omega);rw[ce]at h1;obtain⟨_,hlen,hcell⟩:=World.cells?_some h1;obtain⟨y0,y1,y2,n',_,_,g0,g1,g2⟩:=trod_struct3 he h2
  match cs',hlen with
  | [v0,v1,v2],_ =>
    simp[o0,o1,o2,c0,c1,c2]at g0 g1 g2;obtain⟨z0,e0,_,w0⟩:=DataW.trod_int k0 g0;obtain⟨z1,e1,_,w1⟩:=DataW.trod_int k1 g1;simp only[Yb,YH]at e0 e1;have d0:=hcell 0 (by omega);have d1:=hcell 1 (by omega);have d2:=hcell 2 (by omega);rw[add_add]at d0 d1 d2
    obtain⟨a2,l2,p2,zs,ev,hR⟩:∃a2 l2 p2 zs,v2=.slice a2 l2 p2∧IsRow .i64 w a2 l2 p2 zs:=by
     rcases open_ints k2 k3 c3 g2 with ⟨hcs,_⟩|⟨x,l,c,zs,hcs,_,hl,hm,hz,_,aa,ak⟩
     · simp only[Yb,YH]at hcs;subst hcs;exact⟨none,0,0,[],rfl,.inl ⟨rfl,rfl,rfl,rfl⟩⟩
     simp only[Yb,YH]at hcs;subst hcs;exact⟨some x,l,c,zs,rfl,.inr ⟨_,rfl,hl,hm,by simpa using hz,aa,ak⟩⟩
    subst ev;obtain⟨q1,q2,q3⟩:=hR.len_le;have ap:(zs.take l2).length=l2:=by rw[Zr,q3];omega
    refine⟨((z0,z1,zs.take l2),a2,p2),?_,?_,?_,hR.sl l2 (Za _),bounds_i64 w0,bounds_i64 w1,by show (zs.take l2).length≤maxLen;omega,fun c hc=>bounds_i64 (hR.wf c (Yd hc))⟩
    · rw[←e0];simpa using d0
    · rw[←e1];simpa using d1
    show w.cell? (ad.add (i*3+2))=some (.slice a2 (zs.take l2).length p2);rw[ap];simpa using d2
 obtain⟨q,hq⟩:=choose_lt each;refine⟨(List.range len).map fun i=>(q i).1,(List.range len).map fun i=>(q i).2,by simp,by simp,hl,hm,?_,?_,?_⟩
 rotate_left
 · intro i r a hi hi';obtain⟨aj,ai⟩:=zEi hi;obtain⟨_,ag⟩:=zEi hi';have:=(hq i aj).2.2.2.1;rw[ai,ag]at this;exact this
 · intro r hr;obtain⟨i,hi,rfl⟩:=List.mem_map.1 hr;exact (hq i (List.mem_range.1 hi)).2.2.2.2
 intro hne;rw[zCI _ _ (by simp),Ze,JU]at hne;obtain⟨b,off,spot⟩:=ad;have ah:=(hq 0 (by omega)).1;have af:spot=none:=by simpa [Addr.add] using World.cell?_spot ah
 subst af
 have ae:∀i,(⟨b,off,none⟩:Addr).add i=⟨b,off+i,none⟩:=by
  intro i;unfold Addr.add;split <;> simp_all
 refine⟨b,off,rfl,?_,fun j hj=>?_⟩
 · rw[ae]at ah;exact YN w _ ah
 have:=zIY (w:=w) (b:=b) (o:=off) ((List.range len).map fun i=>(q i).1) ((List.range len).map fun i=>(q i).2) 0 (by simp) (fun i r a hi hi'=>by
  obtain⟨aj,ai⟩:=zEi hi;obtain⟨_,ag⟩:=zEi hi';obtain⟨a0,a1,a2,_⟩:=hq i aj;rw[ae]at a0 a1 a2;rw[ai]at a0 a1 a2;rw[ag]at a2;rw[Z1];exact⟨a0,a1,a2⟩) j hj
 simpa using this
end
end Go.Proofs.YthngjlllojiacaaGreatDoor
