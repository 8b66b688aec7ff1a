/- RowsPlain, plain: rows that say nothing, put between; no program in sight. -/
import Derived.Test.YtddbccflcekdpaaGreatDoorChar
import Derived.Test.YtddbccflcekdpaaGreatDoorRwRLine
import Derived.Deep.SlicePairs
import Derived.Deep.Strs
import Derived.ProofKit
import Derived.OpenShut
set_option maxRecDepth 100000
set_option maxHeartbeats 4000000
set_option linter.unusedVariables false
set_option linter.unusedSimpArgs false
namespace Go.Proofs.YtddbccflcekdpaaGreatDoor
open Go.Proofs.Tryz
section
open Go.RowKit Go.Stop
def zB2 (l:List Rw.Row):List UInt8:=l.flatMap fun r=>Rw.line r++[10]
theorem zFw (a b:List Rw.Row):zB2 (a++b)=zB2 a++zB2 b:=by simp[zB2]
theorem zFx (r:Rw.Row):zB2 [r]=Rw.line r++[10]:=by simp[zB2]
theorem zJs (l:List Rw.Row):zB2 l=(l.map Rw.line).flatMap fun x=>x++[10]:=by simp[zB2,Ke]
theorem zG8 (r:Rw.Row) (h:Rw.right r):(Rw.line r).length≤1000:=by
 have:=zE2 r h;unfold zCh at this;rw[Zy,Zp]at this;exact this.1
theorem zCu:∀(l:List Rw.Row),(∀r∈l,Rw.right r)→(zB2 l).length≤1001*l.length
 | [],_=>by simp[zB2]
 | r::l,h=>by
   have h1:=zG8 r (h r Zt);have h2:=zCu l fun q hq=>h q (Zv _ hq)
   rw[show r::l=[r]++l from rfl,zFw,zFx];simp;omega
def zFy:Int→List Rw.Row→Int
 | c,[]=>c
 | _,r::l=>zFy r.1 l
def zG9 (r:Rw.Row):Prop:=Rw.right r∧(C.isC r.1=true∨Rw.quiet r=true)
theorem Rw.parse_txt (l:List Rw.Row) (h:∀r∈l,zG9 r) (hr:zDj (-1) l) (hl:l.length≤40000):Rw.parse (zB2 l)=some (l.filter fun r=>!Rw.quiet r):=by
 rw[zJs];exact zJK l h hr hl
def Rp.cl (k:Int):Int:=1+k%256%254
abbrev Rp.St:=List Rw.Row × List Rw.Row × Int
def Rp.next (st:Rp.St) (r:Rw.Row):Rp.St :=
 if Ch.K r.1≤st.2.2+1 then st else (st.1++[(Ch.K r.1,Rp.cl r.2.1,[])],st.2.1++[(st.2.2+1,0,[]),(Ch.K r.1,Rp.cl r.2.1,[])],Ch.K r.1)
def Rp.fold (l:List Rw.Row):Rp.St:=l.foldl Rp.next ([],[],-1)
structure Rp.Inv (st:Rp.St) (n:Nat):Prop where
 c0 : -1≤st.2.2
 c1:st.2.2≤1114111
 r1:zDj (-1) st.1
 r2:zDj (-1) st.2.1
 l1:zFy (-1) st.1=st.2.2
 l2:zFy (-1) st.2.1=st.2.2
 f1:∀r∈st.1,zG9 r
 f2:∀r∈st.2.1,zG9 r
 g1:st.1.filter (fun r=>!Rw.quiet r)=st.1
 g2:st.2.1.filter (fun r=>!Rw.quiet r)=st.1
 n1:st.1.length≤n
 n2:st.2.1.length≤2*n
end
section
open Go.RowKit
theorem Bd.size:(prog.info? 147).map (·.size)=some 2:=by kernel_rfl
theorem zSg:liesAt prog prog.depth 147 (2/prog.cellsOf 147) 0 147 1=true:=by kernel_rfl
theorem zOd:(prog.info? 5).map (fun i=>(i.zero,i.size,i.bytes))=some (some (.int .u8 0),1,1):=by kernel_rfl
theorem zLp (b:Nat) (w:World) (h0:w.cell? ⟨b,0,none⟩=some (.pointer (some ⟨b,0,none⟩))) :
 Calls prog 116 #[.pointer (some ⟨b,0,none⟩)] w fun e w'=>e=.returned (.tuple #[])∧w'=w:=by
 obtain⟨j,hj,_⟩:=Option.map_eq_some_iff.1 Bd.size;go_enter func116,ntmps116;go_wp2;rw[Lib.run_neq_ptr_same w _ underlying145 hj];go_wp2;go_end0;exact⟨rfl,rfl⟩
theorem zJN (b:Nat) (w:World) (h0:w.cell? ⟨b,0,none⟩=some (.pointer none)) (aa:w.shape? b=some (147,2)) (af:w.frozen? ⟨b,0,none⟩=false) :
 Calls prog 116 #[.pointer (some ⟨b,0,none⟩)] w fun e w'=>e=.returned (.tuple #[])∧w'=w.setCell ⟨b,0,none⟩ (.pointer (some ⟨b,0,none⟩)):=by
 obtain⟨j,hj,ae⟩:=Option.map_eq_some_iff.1 Bd.size;go_enter func116,ntmps116;go_wp2;rw[Lib.run_to_unsafe w ⟨b,0,none⟩ underlying145 underlying223 hj (by rw[ae];decide) aa (Nat.zero_lt_succ 1)];simp only[Result.andThen];rw[Jq];go_wp2;rw[run_callFunc_extern func141 (by kernel_rfl) (by kernel_rfl) (by kernel_rfl) (e:=Extern.AbiNoEscape.same) (by kernel_rfl)];rw[Lib.run_noEscape];simp only[Result.andThen];rw[Jq];go_wp2;rw[Lib.run_from_unsafe w ⟨b,0,none⟩ underlying223 underlying145 hj aa zSg];simp only[Result.andThen];rw[Jq];go_wp2;go_end0;exact⟨rfl,rfl⟩
end
section
open Go.RowKit
def Bd.At (w:World) (b D:Nat) (bs:List Value):Prop :=
 ∃p v,(p=.pointer none∨p=.pointer (some ⟨b,0,none⟩))∧Rw.At w b 147 [p,v]∧w.ownsRow D 5 1 v bs.length bs
def Bd.Kept (w w':World):Prop:=∀(t:TypeId) (A:Option Addr) (xs:List Value),t≠147→t≠5→Slt w t A xs→Slt w' t A xs
theorem zGF (b D:Nat) (bs:List Value) (s:ByteArray) (w:World) (hD:b<D) (bh:D≤w.heap.size) (h:Bd.At w b D bs) (hlen:bs.length+s.size≤140737488355328) :
 Calls prog 90 #[.pointer (some ⟨b,0,none⟩),.string s] w fun e w'=>e=.returned (.tuple #[.int .i64 s.size,.nilIface])∧Bd.At w' b D (bs++Lib.strCells s)∧Bd.Kept w w'∧Below b w w':=by
 obtain⟨i0,hi,ay,bb,a8⟩:=Z7 zOd;obtain⟨p,v,hp,aj,ap⟩:=h
 have ak:∀W,W=w→Calls prog 116 #[.pointer (some ⟨b,0,none⟩)] W fun e w'=>e=.returned (.tuple #[])∧(w'=w∨w'=w.setCell ⟨b,0,none⟩ (.pointer (some ⟨b,0,none⟩)))∧Rw.At w' b 147 [.pointer (some ⟨b,0,none⟩),v]:=by
  rintro W rfl;rcases hp with rfl|rfl
  · refine (zJN b W (aj.cell 0 rfl) ?_ (aj.frozen 0)).mono ?_
    · unfold Rw.At at aj;simp[World.shape?,aj]
    rintro e w' ⟨rfl,rfl⟩;exact⟨rfl,.inr rfl,aj.set 0 _⟩
  refine (zLp b W (aj.cell 0 rfl)).mono ?_;rintro e w' ⟨rfl,rfl⟩;exact⟨rfl,.inl rfl,aj⟩
 have aq:=hy' ap;have a7:=hy' aj;clear ap aj hp;go_enter func90,ntmps90;go_wp2_with fail;refine (ak _ rfl).mono ?_;rintro e w1 ⟨rfl,ar,ai⟩
 have af:w1.ownsRow D 5 1 v bs.length bs:=by
  rcases ar with rfl|rfl
  · exact aq.o
  exact zA8 aq.o hD (Rw.grown_set b 0 _)
 have aw:Bd.Kept w w1:=by
  rcases ar with rfl|rfl
  · exact fun t A xs _ _ h=>h
  exact fun t A xs h1 _ h=>h.setAt a7.o (fun e=>h1 e.symm) 0 _
 have au:Below b w w1:=by
  rcases ar with rfl|rfl
  · exact Zc _ _
  exact (Zc _ _).setCell (p:=⟨b,0,none⟩) (Za _) _
 have hne:=zBm af b hD;have c0:=ai.cell 0 rfl;have c1:=ai.cell 1 rfl;have bg:=au.size;have ah:=hy' af;have bc:=hy' aw;have bf:=hy' au;have a6:=hy' hne;clear ar af aw au hne ak;go_wp2_with (at_builtin;refine Lib.wpList_append_own_string _ rfl _ _ 98 9 rfl D 5 i0 underlying98 underlying9 hi ay bb a8 _ _ _ rfl ah.o s rfl ?c3 ?c4 ?c5 ?_)
 case c3=>unfold maxLen;omega
 case c4=>omega
 case c5=>omega
 intro v' w2 ag aa _;have ae:=ai.grown aa a6.o;have d0:=ae.cell 0 rfl;have d1:=ae.cell 1 rfl;have f1:=ae.frozen 1;obtain⟨ao,cap,rfl⟩:=zA2 ag;have av:Bd.Kept w1 w2:=fun t A xs _ h2 h=>h.grown aa (zAC ah.o (fun e=>h2 e.symm))
 have ax:Below b w1 w2:=zAf aa (Z8 ai.lt) (fun k hk=>by have:=(ah.o.lt k hk).1;omega);have a1:=hy' av;have az:=hy' ax;have ba:=hy' ag;clear av ax ag aa c0 c1;go_wp2_with fail;go_ret2;refine⟨rfl,⟨_,_,.inr rfl,ae.set 1 _,?_⟩,?_,(bf.o.trans az.o).setCell (p:=⟨b,1,none⟩) (Za _) _⟩
 · have:=zA8 ba.o hD (Rw.grown_set b 1 (.slice ao (bs.length+s.size) cap));rw[Zd,Lib.strCells_length];exact this
 exact fun t A xs h1 h2 h=>(a1.o t A xs h1 h2 (bc.o t A xs h1 h2 h)).setAt ae (fun e=>h1 e.symm) 1 _
def zAg (X:List Int):List UInt8:=X.flatMap fun c=>Fi.text c.toNat++[10]
theorem zI1 (X:List Int) (c:Int):zAg (X++[c])=zAg X++(Fi.text c.toNat++[10]):=by simp[zAg]
theorem zDl:∀(X:List Int),(∀c∈X,0≤c∧c≤1114111)→(zAg X).length≤7*X.length
 | [],_=>by simp[zAg]
 | c::X,h=>by
   have h1:=zAG c.toNat (by have:=(h c Zt).2;omega);have h2:=zDl X fun d hd=>h d (Zv _ hd)
   unfold zAg at h2 ⊢;rw[Y8];simp only[Zd,ZE,Z2];omega
theorem zLq (n:Nat):zBx (Fi.text n)=Fi.text n:=by
 obtain⟨x,m,y,h1,h2,h3,h4⟩:=zMK n;unfold zBx;rw[zO9 _ (zML n)];have:=zOa 0 (Fi.text n) x y m h1 h2 h3 h4 0;simpa using this
theorem zFM:∀(l:List Int) (seen:List Int),(∀c∈l,C.isC c=true)→l.Nodup→(∀c∈l,c∉seen)→Ex.steps seen (l.map fun c=>Fi.text c.toNat)=some (seen++l)
 | [],seen,_,_,_=>by simp[Ex.steps]
 | c::l,seen,h1,h2,h3=>by
   have hc:=h1 c Zt
   have aa:0≤c∧c≤1114111:=by
    unfold C.isC at hc;have:=YF hc;omega
   have hl:Ex.line seen (Fi.text c.toNat)=some (seen++[c]):=by
    unfold Ex.line;rw[zLq,Zl (zHh _),zG3 _ (by omega),ZD,zEw aa.1,Zo ⟨hc,h3 c Zt⟩]
   rw[Z1,Ex.steps,hl,ZD,zFM l (seen++[c]) (fun d hd=>h1 d (Zv _ hd)) (List.nodup_cons.1 h2).2 (fun d hd hm=>by
    rcases List.mem_append.1 hm with h|h
    · exact h3 d (Zv _ hd) h
    rw[Zw]at h;subst h;exact (List.nodup_cons.1 h2).1 hd)]
   simp
theorem Ex.parse_btxt (l:List Int) (h1:∀c∈l,C.isC c=true) (h2:l.Nodup) (hn:l.length≤1000):Ex.parse (zAg l)=some l:=by
 have hb:∀c∈l,0≤c∧c≤1114111:=fun c hc=>by
  have:=h1 c hc;unfold C.isC at this;have:=YF this;omega
 have ae:∀x∈l.map (fun c=>Fi.text c.toNat),zCh x=true:=by
  intro x hx;obtain⟨c,hc,rfl⟩:=List.mem_map.1 hx;have:=zAG c.toNat (by have:=(hb c hc).2;omega);exact zRE (by omega) fun b af=>by have:=zCi _ b af;omega
 have aa:zAS [] (zAg l)=l.map fun c=>Fi.text c.toNat:=by
  have:=zEv (l.map fun c=>Fi.text c.toNat) fun x hx=>zOL (ae x hx)
  rw[Ke]at this;exact this
 unfold Ex.parse;rw[aa,Zo ⟨by rw[Yi];exact ae,by simp;omega⟩,zFM l [] h1 h2 (fun c _=>by simp)];simp
theorem Ex.text_any (A:Option Addr) (c n:Nat) (S X:List Int) (w:World) (hn:S.length=n) (b4:n≤1000) (bx:C.ok S) (hX:zCL (zAL S)=X) (bc:∀c∈X,C.isC c=true) (b2:X.length≤1000)
 (hA:Slt w 21 A (S.map (Value.int .i32))) (hL:Fi.Laid w) :
 Calls prog 106 #[.agg #[.slice A n c]] w fun e w'=>e=.returned (.string ⟨(zAg X).toArray⟩)∧Below w.heap.size w w':=by
 have bg:∀c∈X,0≤c∧c≤1114111:=fun c hc=>by
  have:=bc c hc;unfold C.isC at this;have:=YF this;omega
 obtain⟨wa,av⟩:∃wa,(w.alloc (.cells #[.slice A n c] 89)).alloc (.cells #[.pointer none,.slice none 0 0] 147)=wa:=⟨_,rfl⟩;have ba:Below w.heap.size w wa:=by rw[←av];exact ((Zc _ _).alloc (Za _) _).alloc (by simp) _
 have aq:Rw.At wa w.heap.size 89 [.slice A n c]:=by rw[←av];exact (Rw.At.new w 89 [.slice A n c]).alloc _
 have ai:Rw.At wa (w.heap.size+1) 147 [.pointer none,.slice none 0 0]:=by
  have h:=Rw.At.new (w.alloc (.cells #[.slice A n c] 89)) 147 [.pointer none,.slice none 0 0];rw[ZL]at h;rw[←av];exact h
 have bu:w.heap.size+1<wa.heap.size:=ai.lt;have aw:=zJE A c n wa.heap.size S wa hn (by omega) bx (Za _) (hA.below ba).sl;rw[hX]at aw;obtain⟨m,hm⟩:∃m,X.length=m:=⟨_,rfl⟩;unfold zKg at aw;rw[hm]at aw b2;have b3:=hy' av;have HM:=hy' hm;have bf:=hy' bg;have bk:=hy' ba;have HL:=hy' hL;have z0:=aq.cell 0 rfl;clear av hm bg ba hL hA hX bc hn;go_enter func106,ntmps106;go_upto_region 2 with (fail)
 rw[b3.o];go_wp2_with fail;refine aw.mono ?_;rintro e w2 ⟨A5,c5,rfl,af,az⟩;have a6:Bd.At w2 (w.heap.size+1) w2.heap.size []:=⟨_,_,.inl rfl,ai.below az,ZI _ _ _ _⟩;have bq:=hy' (Slt.of_own af);have bn:=hy' (bk.o.trans (az.mono bk.o.size));have bs:w.heap.size+1<w2.heap.size:=Zg bu az.size;clear af az aw aq ai z0;go_wp2_with fail;go_loopw [5,9] (fun _ i wr=>∃k:Nat,k≤m∧i=.int .i64 k∧Bd.At wr (w.heap.size+1) w2.heap.size (Lib.byteCells (zAg (X.take k)))∧Slt wr 21 A5 (X.map (Value.int .i32))∧Below (w.heap.size+1) w2 wr) (fun _ i _=>m-(intOf i).toNat)
 case atStart=>exact⟨0,ZG _,rfl,a6,bq.o,Zc _ _⟩
 obtain⟨k,hk,rfl,au,hS,aa⟩:=hrel;have b1:w2.heap.size≤wr.heap.size:=aa.size;have ax:Below w.heap.size w wr:=bn.o.trans (aa.mono (ZX _))
 by_cases hlt:k<m
 rotate_left
 · obtain rfl:k=m:=by omega
   have kI:¬(k:Int)<k:=by omega
   rw[Zm (by rw[HM.o];exact Za _)]at au
   have bi:Lib.IsBuilder 147 5 (w.heap.size+1) (w.heap.size+1) (Lib.byteCells (zAg X)) wr:=by
    obtain⟨p,v,h1,h2,h3⟩:=au;have h4:Lib.BuilderAt 147 5 (w.heap.size+1) (w.heap.size+1) p (Lib.byteCells (zAg X)) wr:=⟨Za _,v,h2,zFt h3 (by omega),zBm h3 _ (by omega)⟩;rcases h1 with rfl|rfl
    · exact .inl h4
    exact .inr h4
   have bj:=Tryz.Builder_String_any (w.heap.size+1) (w.heap.size+1) (zAg X) wr bi (by omega);have HB:=hy' ax;clear au hS aa bi ax;go_wp2_with fail;refine bj.mono ?_;rintro e w4 ⟨rfl,ap⟩;have a8:=hy' (HB.o.trans (ap.mono (ZX _)));clear ap bj;go_wp2_with fail;go_ret;exact⟨rfl,a8.o⟩
 obtain⟨x,hx⟩:∃x,X[k]?=some x:=⟨_,Zb (by rw[HM.o];exact hlt)⟩;have hxb:=bf.o x (Zn hx);obtain⟨ab,ao,rfl,b5,bb⟩:=hS.sl (by rw[Ze,HM.o];omega);have hc:=bb k (by rw[Ze,HM.o];exact hlt);rw[Zs,hx,ZA]at hc;obtain⟨xn,rfl⟩:∃xn:Nat,x=xn:=⟨x.toNat,by omega⟩;have hT:=Fi.text_any xn (by omega) wr (HL.o.below ax)
 have ah:zAg (X.take (k+1))=zAg (X.take k)++(Fi.text xn++[10]):=by
  rw[ZB,hx];show zAg (X.take k++[(xn:Int)])=_;rw[zI1,Y9]
 have bp:=zDl (X.take k) fun d hd=>bf.o d (Z5 hd)
 have bw:(X.take k).length≤k:=Xu _ _;obtain⟨tx,ay⟩:∃y:ByteArray,⟨(Fi.text xn).toArray⟩=y:=⟨_,rfl⟩;rw[ay]at hT
 have bo:tx.size≤6:=by
  rw[←ay];show (Fi.text xn).toArray.size≤6;have:=zAG xn (by omega);simpa using this
 have s1:(⟨#[10]⟩:ByteArray).size=1:=rfl;have c1:¬9223372036854775807<tx.size+(⟨#[10]⟩:ByteArray).size:=by omega
 have ae:Lib.byteCells (zAg (X.take (k+1)))=Lib.byteCells (zAg (X.take k))++Lib.strCells (tx++⟨#[10]⟩):=by
  rw[ah,←ay,show (⟨#[10]⟩:ByteArray)=⟨[10].toArray⟩ from rfl,zAN];unfold Lib.byteCells Lib.strCells;simp
 have kI:(k:Int)<m:=by omega
 have HC:=hy' ae;have br:=hy' au;have HS:=hy' hS;have a1:=hy' aa
 have ag:(Lib.byteCells (zAg (X.take k))).length+7≤140737488355328:=by
  have:(Lib.byteCells (zAg (X.take k))).length=(zAg (X.take k)).length:=by unfold Lib.byteCells;simp
  omega
 have bz:=hy' ag;clear bb hx ah bp bw ay ae au hS aa ag hxb ax;go_wp2_with fail;refine hT.mono ?_;rintro e w3 ⟨rfl,aj⟩
 have ak:Bd.At w3 (w.heap.size+1) w2.heap.size (Lib.byteCells (zAg (X.take k))):=by
  obtain⟨p,v,h1,h2,h3⟩:=br.o;exact⟨p,v,h1,h2.below aj,zA4 h3 aj (Za _)⟩
 have hW:=zGF (w.heap.size+1) w2.heap.size (Lib.byteCells (zAg (X.take k))) (tx++⟨#[10]⟩) w3 bs (Zi b1 aj.size) ak (by rw[ZV];have:=bz.o;omega);have bt:=hy' (HS.o.below aj);have bm:=hy' (a1.o.trans (aj.mono (by omega)));clear aj hT ak;go_wp2_with fail;refine hW.mono ?_;rintro e w4 ⟨rfl,ar,bh,ap⟩;have a7:=hy' ar;have bl:=hy' (bh _ _ _ (by decide) (by decide) bt.o);have a8:=hy' (bm.o.trans ap);clear ar bh ap hW;go_wp2_with fail;exact⟨⟨k+1,by omega,by go_num,by rw[HC.o];exact a7.o,bl.o,a8.o⟩,by simp[intOf];omega⟩
theorem Ud.rtext_any (A:Option Addr) (n c:Nat) (T:List Rw.Row) (w:World) (hn:T.length=n) (a8:n≤1000) (hr:∀r∈T,Rw.right r) (hA:Rw.SeesI w A T) :
 Calls prog 99 #[.slice A n c] w fun e w'=>e=.returned (.string ⟨(zB2 T).toArray⟩)∧Below w.heap.size w w':=by
 have HN:=hy' hn;have HR:=hy' hr;have HA:=hy' hA;clear hn hr hA;go_enter func99,ntmps99;go_wp2_with fail;go_loopw [3,5,8] (fun v3 _ i wr=>∃j:Nat,j≤n∧i=.int .i64 j∧v3=.string ⟨(zB2 (T.take j)).toArray⟩∧Below w.heap.size w wr) (fun _ _ i _=>n-(intOf i).toNat)
 case atStart=>exact⟨0,ZG _,rfl,rfl,Zc _ _⟩
 obtain⟨j,hj,rfl,rfl,aa⟩:=hrel
 by_cases hlt:j<n
 · obtain⟨r,hr⟩:∃r,T[j]?=some r:=⟨_,Zb (by rw[HN.o];exact hlt)⟩;have af:=HR.o r (Zn hr);obtain⟨b,o,a,rfl,hb,ay,ax,av,ar⟩:=HA.o.row hr;have c0:=((zAI aa).1 b (o+j*3) hb).trans ay;have c1:=((zAI aa).1 b (o+j*3+1) hb).trans ax;have c2:=((zAI aa).1 b (o+j*3+2) hb).trans av;have a7:b<wr.heap.size:=Zg hb aa.size;obtain⟨ml,ak⟩:∃k,r.2.2.length=k:=⟨_,rfl⟩;rw[ak]at c2;have aj:Below wr.heap.size wr (wr.alloc (.cells #[.int .i64 r.1,.int .i64 r.2.1,.slice a.1 ml a.2] 68)):=(Zc _ _).alloc (Za _) _;have ag:=Rw.At.new wr 68 [.int .i64 r.1,.int .i64 r.2.1,.slice a.1 ml a.2];have aq:ml≤2:=by rw[←ak];exact af.2.2.2.2.1
   have hL:=zMN r.1 r.2.1 a.1 r.2.2 ml a.2 w.heap.size (wr.alloc (.cells #[.int .i64 r.1,.int .i64 r.2.1,.slice a.1 ml a.2] 68)) af.1 (by have:=af.2.1;omega) af.2.2.1 (by have:=af.2.2.2.1;omega) ak (by omega) (fun x hx=>by have:=af.2.2.2.2.2 x hx;omega) (Zi aa.size aj.size) ((ar.below aa (Za _)).below (aj.mono aa.size) (Za _));have aw:=zG8 r af;have a6:=zCu (T.take j) (fun q hq=>HR.o q (Z5 hq));have a1:(T.take j).length≤j:=Xu _ _
   have ae:zB2 (T.take (j+1))=zB2 (T.take j)++(Rw.line r++[10]):=by
    rw[ZB,hr,zFw];show _++zB2 [r]=_;rw[zFx]
   obtain⟨ln,ai⟩:∃y:ByteArray,⟨(Rw.line (r.1,r.2.1,r.2.2)).toArray⟩=y:=⟨_,rfl⟩;obtain⟨st,ao⟩:∃y:ByteArray,⟨(zB2 (T.take j)).toArray⟩=y:=⟨_,rfl⟩;have s1:ln.size≤1000:=by rw[←ai,zAy];exact aw
   have s2:st.size≤1001000:=by rw[←ao,zAy];omega
   have ah:st++(ln++⟨#[10]⟩)=⟨(zB2 (T.take (j+1))).toArray⟩:=by
    rw[ae,←ao,←ai,show (⟨#[10]⟩:ByteArray)=⟨[10].toArray⟩ from rfl];simp only[zAN]
   simp only[ai]at hL;rw[ao];have jI:(j:Int)<n:=by omega
   have j0:(0:Int)≤j:=by omega
   obtain⟨d1,d2,d3,-,-,-⟩:=ag.three;have ap:=hy' ah;have HB:=hy' (aa.trans (aj.mono aa.size));clear ay ax av ar hr af ak ai ao ah ae aw a6 a1 aa aj ag aq;go_wp2_with fail;refine hL.mono ?_;rintro e w2 ⟨rfl,au⟩;have az:=hy' (HB.o.trans (au.mono HB.o.size));clear au hL d1 d2 d3 c0 c1 c2;go_wp2_with fail;exact⟨⟨j+1,by omega,by go_num,by rw[←ap.o],az.o⟩,by simp[intOf];omega⟩
 obtain rfl:j=n:=by omega
 have jI:¬(j:Int)<j:=by omega
 have he:zB2 (T.take j)=zB2 T:=by rw[Zm (by rw[HN.o];exact Za _)]
 rw[he];have HB:=hy' aa;clear aa he;go_wp2_with fail;go_ret;exact⟨rfl,HB.o⟩
def zAu (l:List Int):List Int:=l.foldl (fun acc c=>if c∈acc then acc else acc++[c]) []
theorem zFz:∀(l acc:List Int),acc.Nodup→(l.foldl (fun acc c=>if c∈acc then acc else acc++[c]) acc).Nodup∧∀d,d∈l.foldl (fun acc c=>if c∈acc then acc else acc++[c]) acc↔d∈acc∨d∈l
 | [],acc,h=>⟨h,fun d=>by simp⟩
 | c::l,acc,h=>by
   rw[Yh]
   by_cases hc:c∈acc
   · rw[Zo hc];obtain⟨h1,h2⟩:=zFz l acc h;refine⟨h1,fun d=>?_⟩;rw[h2 d,Y0];constructor
     · rintro (h|h)
       · exact .inl h
       exact .inr (.inr h)
     rintro (h|rfl|h)
     · exact .inl h
     · exact .inl hc
     exact .inr h
   rw[Zl hc]
   obtain⟨h1,h2⟩:=zFz l (acc++[c]) (by
    rw[List.nodup_append];refine⟨h,by simp,fun a ha b hb=>?_⟩;rw[Zw]at hb;rw[hb];exact fun e=>hc (e▸ha))
   refine⟨h1,fun d=>?_⟩;rw[h2 d,YS,Zw,Y0,or_assoc]
theorem zLr (l:List Int):(zAu l).Nodup:=(zFz l [] Ku).1
theorem zCv (l:List Int) (d:Int):d∈zAu l↔d∈l:=by
 unfold zAu;rw[(zFz l [] Ku).2 d];simp
theorem zMO (l:List Int) (c:Int):zAu (l++[c])=if c∈l then zAu l else zAu l++[c]:=by
 have h:=zCv l c;unfold zAu at h ⊢;rw[YL,Yh,JA]
 by_cases hc:c∈l
 · rw[Zo hc,Zo (h.2 hc)]
 rw[Zl hc,Zl (fun x=>hc (h.1 x))]
theorem zEz (l:List Int):(zAu l).length≤l.length:=by
 unfold zAu
 have:∀(l acc:List Int),(l.foldl (fun acc c=>if c∈acc then acc else acc++[c]) acc).length≤acc.length+l.length:=by
  intro l
  induction l with
  | nil=>intro acc;simp
  | cons c l ih =>
    intro acc;rw[Yh];refine Zi (ih _) ?_;split
    · simp
    simp;omega
 simpa using this l []
theorem zMP (A:Option Addr) (n c:Nat) (XA:Option Addr) (xn xc:Nat) (T:List Rw.Row) (E:List Int) (w:World) (hn:T.length=n) (bl:n≤1000) (hxn:E.length=xn) (bh:xn≤1000) (bp:xn≤xc)
 (hr:∀r∈T,Rw.right r) (hE:∀x∈E,0≤x∧x≤1114111) (hA:Rw.SeesI w A T) (hX:Sl w w.heap.size XA (E.map (Value.int .i64))) :
 Calls prog 69 #[.agg #[.slice A n c,.slice XA xn xc]] w fun e w'=>e=.returned (.tuple #[.string ⟨(zB2 T).toArray⟩,.string ⟨(zAg (zAu E)).toArray⟩])∧Below w.heap.size w w':=by
 have HT:=hy' (fun W (hW:Below w.heap.size w W)=>Ud.rtext_any A n c T W hn bl hr (hA.below hW));have HE:=hy' hE;have ax:=hy' hxn;obtain⟨t1,a6⟩:∃y:ByteArray,⟨(zB2 T).toArray⟩=y:=⟨_,rfl⟩;obtain⟨t2,az⟩:∃y:ByteArray,⟨(zAg (zAu E)).toArray⟩=y:=⟨_,rfl⟩;simp only[a6]at HT;rw[a6,az];have bn:=hy' az;have bc:=Rw.At.new w 25 [.slice A n c,.slice XA xn xc];have aw:Below w.heap.size w (w.alloc (.cells #[.slice A n c,.slice XA xn xc] 25)):=(Zc _ _).alloc (Za _) _;obtain⟨w0,au⟩:∃w0,w.alloc (.cells #[.slice A n c,.slice XA xn xc] 25)=w0:=⟨_,rfl⟩;have ah:Rw.At w0 w.heap.size 25 [.slice A n c,.slice XA xn xc]:=by rw[←au];exact bc
 rw[au]at aw;have br:=hy' au;have bm:=hy' ah;have HB:=hy' aw;have HX:=hy' (hX.below aw (Za _));have y1:=ah.cell 1 rfl;have yl:=ah.lt;clear hn hr hE hxn hA hX bc aw au ah a6 az;go_enter func69,ntmps69;go_upto_region 1 with (fail)
 rw[br.o];go_wp2_with fail;clear y1 yl;go_loopw [4,5,6,7,9,13] (fun v4 _ _ _ _ i wr=>∃j:Nat,j≤xn∧i=.int .i64 j∧v4=.string ⟨(zAg (zAu (E.take j))).toArray⟩∧Below w0.heap.size w0 wr) (fun _ _ _ _ _ i _=>xn-(intOf i).toNat)
 case atStart=>exact⟨0,ZG _,rfl,rfl,Zc _ _⟩
 obtain⟨j,hj,rfl,rfl,aa⟩:=hrel;have ae:=bm.o.below aa;have y0:=ae.cell 0 rfl;have y1:=ae.cell 1 rfl;have yl:=ae.lt
 by_cases hlt:j<xn
 rotate_left
 · obtain rfl:j=xn:=by omega
   have jI:¬(j:Int)<j:=by omega
   have he:(⟨(zAg (zAu (E.take j))).toArray⟩:ByteArray)=t2:=by rw[Zm (by rw[ax.o];exact Za _)];exact bn.o
   rw[he];have hT:=HT.o wr (HB.o.trans (aa.mono HB.o.size));have ak:=hy' (HB.o.trans (aa.mono HB.o.size));clear aa he ae;go_wp2_with fail;refine hT.mono ?_;rintro e w2 ⟨rfl,ap⟩;have ay:=hy' (ak.o.trans (ap.mono ak.o.size));clear ap hT;go_wp2_with fail;go_ret2;exact⟨rfl,ay.o⟩
 obtain⟨x,hx⟩:∃x,E[j]?=some x:=⟨_,Zb (by rw[ax.o];exact hlt)⟩;have aq:=HE.o x (Zn hx);obtain⟨xb,xo,rfl,hxb,bf⟩:=HX.o (by rw[Ze,ax.o];omega);have ao:xb<w0.heap.size:=Zg hxb HB.o.size
 have hcell:∀(i:Nat) (y:Int),E[i]?=some y→wr.cell? ⟨xb,xo+i,none⟩=some (.int .i64 y):=fun i y hy=>by
  have hi:=(List.getElem?_eq_some_iff.1 hy).1;have:=bf i (by rw[Ze];exact hi);rw[Zs,hy,ZA,←(zAI aa).1 _ _ ao]at this;exact this
 have q:=hcell j x hx;have HC:=hy' hcell;have bq:xb<wr.heap.size:=Zg ao aa.size;have jI:(j:Int)<xn:=by omega
 have j0:(0:Int)≤j:=by omega
 have jc:(j:Int)≤xc:=by omega
 have bs:=hy' hx;have ak:=hy' aa
 have bg:(⟨(zAg (zAu (E.take j))).toArray⟩:ByteArray).size≤7000:=by
  rw[zAy];have h1:=zDl (zAu (E.take j)) (fun d hd=>HE.o d (Z5 ((zCv _ _).1 hd)));have h2:=zEz (E.take j);have h3:(E.take j).length≤j:=Xu _ _;omega
 have ai:zAg (zAu (E.take (j+1)))=if x∈E.take j then zAg (zAu (E.take j)) else zAg (zAu (E.take j))++(Fi.text x.toNat++[10]):=by
  rw[ZB,hx];show zAg (zAu (E.take j++[x]))=_;rw[zMO]
  by_cases hm:x∈E.take j
  · rw[Zo hm,Zo hm]
  rw[Zl hm,Zl hm,zI1]
 obtain⟨st,a1⟩:∃y:ByteArray,⟨(zAg (zAu (E.take j))).toArray⟩=y:=⟨_,rfl⟩;rw[a1]at bg ⊢;have ba:=hy' ai;have a8:=hy' a1;have bj:=hy' ae;have a7:=zF4 x aq.1 (by omega)
 have bk:(⟨(Fi.text x.toNat).toArray⟩:ByteArray).size≤6:=by
  rw[zAy];have h2:=zBV 5 x.toNat (by rw[show (16:Nat) ^ (5+1)=16777216 from by decide];omega);have h3:=Fi.text_len x.toNat;omega
 obtain⟨tx,av⟩:∃y:ByteArray,⟨(Fi.text x.toNat).toArray⟩=y:=⟨_,rfl⟩;rw[av]at bk;simp only[av]at a7;have bi:=hy' a7;have bo:=hy' av;clear hcell hx ai a1 ae a7 av aa bf aq;go_wp2_with fail;go_loop [7,9,23] (fun v7 _ k=>∃m:Nat,m≤j∧k=.int .i64 m∧v7=.bool (decide (x∈(E.take j).take m))) (fun _ _ k=>j-(intOf k).toNat)
 case atStart=>exact⟨0,ZG _,rfl,by simp⟩
 obtain⟨m,hm,rfl,rfl⟩:=hrel
 by_cases hmj:m<j
 · obtain⟨y,hy⟩:∃y,E[m]?=some y:=⟨_,Zb (by rw[ax.o];omega)⟩;have qm:=HC.o m y hy
   have ag:decide (x∈(E.take j).take (m+1))=(decide (x∈(E.take j).take m)||(y == x)):=by
    rw[ZB,show (E.take j)[m]?=some y by rw[Ym,Zo hmj];exact hy,Z9];simp only[Qb,YS,Zw,Zp,X5,YP];constructor
    · rintro (h|h)
      · exact .inl h
      exact .inr h.symm
    rintro (h|h)
    · exact .inl h
    exact .inr h.symm
   obtain⟨sn,aj⟩:∃b,decide (x∈(E.take j).take m)=b:=⟨_,rfl⟩;rw[aj]at ag ⊢;have HS:=hy' ag;have mI:(m:Int)<j:=by omega
   have m0:(0:Int)≤m:=by omega
   clear ag aj hy;cases sn
   · rcases hyx:(y == x) with _|_
     · rw[hyx]at HS;go_wp2_with fail;exact⟨⟨m+1,by omega,by go_num,by rw[HS.o];rfl⟩,by simp[intOf];omega⟩
     rw[hyx]at HS;go_wp2_with fail;exact⟨⟨m+1,by omega,by go_num,by rw[HS.o];rfl⟩,by simp[intOf];omega⟩
   go_wp2_with fail;exact⟨⟨m+1,by omega,by go_num,by rw[HS.o];rfl⟩,by simp[intOf];omega⟩
 obtain rfl:m=j:=by omega
 have mI:¬(m:Int)<m:=by omega
 obtain⟨sn,aj⟩:∃b,decide (x∈(E.take m).take m)=b:=⟨_,rfl⟩;rw[aj];have ar:decide (x∈E.take m)=sn:=by rw[←aj,Qi,J9]
 have bb:=hy' ar;clear aj ar;cases sn
 · have af:st++(tx++⟨#[10]⟩)=⟨(zAg (zAu (E.take (m+1)))).toArray⟩:=by
    rw[ba.o,if_neg (by simpa using bb.o),←a8.o,←bo.o,show (⟨#[10]⟩:ByteArray)=⟨[10].toArray⟩ from rfl];simp only[zAN]
   have HF:=hy' af;clear af;go_wp2_with (go_at_call 98;refine (bi.o _).mono ?_;rintro e w2 ⟨rfl,ap⟩;have ay:=hy' (ak.o.trans (ap.mono ak.o.size));clear ap);exact⟨⟨m+1,by omega,by go_num,by rw[←HF.o],ay.o⟩,by simp[intOf];omega⟩
 have af:st=⟨(zAg (zAu (E.take (m+1)))).toArray⟩:=by
  rw[ba.o,if_pos (by simpa using bb.o),←a8.o]
 have HF:=hy' af;clear af;go_wp2_with fail;exact⟨⟨m+1,by omega,by go_num,by rw[←HF.o],ak.o⟩,by simp[intOf];omega⟩
end
section
open Go.ChangeShapes Go.WideShapes Go.RowKit Go.Deep
def zE3 (r:Rw.Row):Prop:=(-9223372036854775808≤r.1∧r.1≤9223372036854775807)∧(-9223372036854775808≤r.2.1∧r.2.1≤9223372036854775807)∧r.2.2.length≤maxLen∧∀c∈r.2.2,-9223372036854775808≤c∧c≤9223372036854775807
def zQU (w:World) (a:Option Addr) (len cap:Nat) (l:List Rw.Row):Prop :=
 ∃ads,ads.length=l.length∧l.length=len∧len≤cap∧cap≤maxLen∧Sl w w.heap.size a (zBn l ads) ∧
  (∀(i:Nat) (r:Rw.Row) (a:Option Addr × Nat),l[i]?=some r→ads[i]?=some a→Sl w w.heap.size a.1 (r.2.2.map (Value.int .i64)))∧∀r∈l,zE3 r
theorem zEA {α:Type} {n:Nat} {f:Nat→α} {i:Nat} {x:α} (h:((List.range n).map f)[i]?=some x):i<n∧f i=x:=by
 have aa:=(List.getElem?_eq_some_iff.1 h).1;simp at aa;rw[Zs,XW aa]at h;simp at h;exact⟨aa,h⟩
theorem zJt {w:World} {b o:Nat}:∀(l:List Rw.Row) (ads:List (Option Addr × Nat)) (k:Nat),ads.length=l.length →
 (∀i r a,l[i]?=some r→ads[i]?=some a→w.cell? ⟨b,o+(k+i)*3,none⟩=some (.int .i64 r.1)∧w.cell? ⟨b,o+(k+i)*3+1,none⟩=some (.int .i64 r.2.1)∧w.cell? ⟨b,o+(k+i)*3+2,none⟩=some (.slice a.1 r.2.2.length a.2)) →
 ∀j,j<(zBn l ads).length→w.cell? ⟨b,o+k*3+j,none⟩=(zBn l ads)[j]?
 | [],_,k,_,_,j,hj=>by simp[zBn]at hj
 | _::_,[],k,h,_,j,hj=>by simp at h
 | r::t,a::as',k,hl,h,j,hj=>by
   obtain⟨h0,h1,h2⟩:=h 0 r a rfl rfl;rw[YV]at h0 h1 h2
   have ih:=zJt t as' (k+1) (by simpa using hl) (fun i r' a' hi hi'=>by
    have:=h (i+1) r' a' (by simpa using hi) (by simpa using hi');rw[show k+(i+1)=k+1+i by omega]at this;exact this)
   rcases j with _|_|_|j
   · exact h0
   · rw[show o+k*3+(0+1)=o+k*3+1 by omega];exact h1
   · rw[show o+k*3+(0+1+1)=o+k*3+2 by omega];exact h2
   have:=ih j (by simp only[zBn,ZE]at hj;omega);rw[show o+k*3+(j+1+1+1)=o+(k+1)*3+j by omega,this];rfl
theorem zRR {H:Type} {enc:TypeId × Value→H} {P:Program} {w:World} {t e q:TypeId} {f0 f1 f2:Field} {fuel:Nat} {a:Option Addr} {len cap:Nat} {x:DataW H × List MemPlace} (ht:P.underlying t=some (.slice e)) (he:P.underlying e=some (.struct #[f0,f1,f2]))
 (ce:P.cellsOf e=3) (o0:f0.offset=0) (o1:f1.offset=1) (o2:f2.offset=2) (c0:P.cellsOf f0.type=1) (c1:P.cellsOf f1.type=1) (c2:P.cellsOf f2.type=1) (k0:P.underlying f0.type=some (.int .i64)) (k1:P.underlying f1.type=some (.int .i64))
 (k2:P.underlying f2.type=some (.slice q)) (k3:P.underlying q=some (.int .i64)) (c3:P.cellsOf q=1)
 (h:DataW.trod enc P w 0 (fun _=>true) true fuel t [.slice a len cap]=some x):∃l,zQU w a len cap l:=by
 rcases open_slice ht h with ⟨hcs,_⟩|⟨ad,l,c,m,n,D,Pl,hcs,hb,hl,hm,ap,_,hx⟩
 · simp only[YI,Z3,Xd]at hcs;obtain⟨rfl,rfl,rfl⟩:=hcs;exact⟨[],[],rfl,rfl,Za _,by decide,Sl.nil _ _ _,by simp,by simp⟩
 simp only[YI,Z3,Xd]at hcs;obtain⟨rfl,rfl,rfl⟩:=hcs;have aq:len≤m:=by rw[ap];split <;> omega
 have each:∀i,i<len→∃q:Rw.Row × Option Addr × Nat,w.cell? (ad.add (i*3))=some (.int .i64 q.1.1)∧w.cell? (ad.add (i*3+1))=some (.int .i64 q.1.2.1)∧w.cell? (ad.add (i*3+2))=some (.slice q.2.1 q.1.2.2.length q.2.2) ∧
  Sl w w.heap.size q.2.1 (q.1.2.2.map (Value.int .i64))∧zE3 q.1:=by
  intro i hi;obtain⟨cs',h1,h2⟩:=hx i (by omega);rw[ce]at h1;obtain⟨_,hlen,hcell⟩:=World.cells?_some h1;obtain⟨y0,y1,y2,n',_,_,g0,g1,g2⟩:=trod_struct3 he h2
  match cs',hlen with
  | [v0,v1,v2],_ =>
    simp[o0,o1,o2,c0,c1,c2]at g0 g1 g2;obtain⟨z0,e0,_,w0⟩:=DataW.trod_int k0 g0;obtain⟨z1,e1,_,w1⟩:=DataW.trod_int k1 g1;simp only[YI,Xd]at e0 e1;have d0:=hcell 0 (by omega);have d1:=hcell 1 (by omega);have d2:=hcell 2 (by omega);rw[add_add]at d0 d1 d2
    obtain⟨a2,l2,p2,zs,ev,hR⟩:∃a2 l2 p2 zs,v2=.slice a2 l2 p2∧IsRow .i64 w a2 l2 p2 zs:=by
     rcases open_ints k2 k3 c3 g2 with ⟨hcs,_⟩|⟨x,l,c,zs,hcs,_,hl,hm,hz,_,aa,ao⟩
     · simp only[YI,Xd]at hcs;subst hcs;exact⟨none,0,0,[],rfl,.inl ⟨rfl,rfl,rfl,rfl⟩⟩
     simp only[YI,Xd]at hcs;subst hcs;exact⟨some x,l,c,zs,rfl,.inr ⟨_,rfl,hl,hm,by simpa using hz,aa,ao⟩⟩
    subst ev;obtain⟨q1,q2,q3⟩:=hR.len_le;have ak:(zs.take l2).length=l2:=by rw[Zq,q3];omega
    refine⟨((z0,z1,zs.take l2),a2,p2),?_,?_,?_,hR.sl l2 (Za _),bounds_i64 w0,bounds_i64 w1,by show (zs.take l2).length≤maxLen;omega,fun c hc=>bounds_i64 (hR.wf c (Z5 hc))⟩
    · rw[←e0];simpa using d0
    · rw[←e1];simpa using d1
    show w.cell? (ad.add (i*3+2))=some (.slice a2 (zs.take l2).length p2);rw[ak];simpa using d2
 obtain⟨q,hq⟩:=choose_lt each;refine⟨(List.range len).map fun i=>(q i).1,(List.range len).map fun i=>(q i).2,by simp,by simp,hl,hm,?_,?_,?_⟩
 rotate_left
 · intro i r a hi hi';obtain⟨ag,ai⟩:=zEA hi;obtain⟨_,aj⟩:=zEA hi';have:=(hq i ag).2.2.2.1;rw[ai,aj]at this;exact this
 · intro r hr;obtain⟨i,hi,rfl⟩:=List.mem_map.1 hr;exact (hq i (List.mem_range.1 hi)).2.2.2.2
 intro hne;rw[zCU _ _ (by simp),Ze,J7]at hne;obtain⟨b,off,spot⟩:=ad;have ah:=(hq 0 (by omega)).1;have ae:spot=none:=by simpa [Addr.add] using World.cell?_spot ah
 subst ae
 have af:∀i,(⟨b,off,none⟩:Addr).add i=⟨b,off+i,none⟩:=by
  intro i;unfold Addr.add;split <;> simp_all
 refine⟨b,off,rfl,?_,fun j hj=>?_⟩
 · rw[af]at ah;exact YN w _ ah
 have:=zJt (w:=w) (b:=b) (o:=off) ((List.range len).map fun i=>(q i).1) ((List.range len).map fun i=>(q i).2) 0 (by simp) (fun i r a hi hi'=>by
  obtain⟨ag,ai⟩:=zEA hi;obtain⟨_,aj⟩:=zEA hi';obtain⟨a0,a1,a2,_⟩:=hq i ag;rw[af]at a0 a1 a2;rw[ai]at a0 a1 a2;rw[aj]at a2;rw[ZU];exact⟨a0,a1,a2⟩) j hj
 simpa using this
end
end Go.Proofs.YtddbccflcekdpaaGreatDoor
