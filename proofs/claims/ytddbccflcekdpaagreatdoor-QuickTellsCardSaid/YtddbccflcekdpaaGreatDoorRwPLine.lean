/- The layer rows: Line, by walking its text. -/
import Derived.Test.YtddbccflcekdpaaGreatDoorJoin
import Derived.Test.YtddbccflcekdpaaGreatDoorRwOpen
set_option maxRecDepth 100000
set_option maxHeartbeats 4000000
set_option linter.unusedVariables false
set_option linter.unusedSimpArgs false
namespace Go.Proofs.YtddbccflcekdpaaGreatDoor
open Go.Proofs.Tryz
open Go.RowKit
theorem zEC (l:List UInt8):(⟨l.toArray⟩:ByteArray).size=l.length:=by show l.toArray.size=_;simp
theorem zOn (k:Int) (h:0≤k):Lib.itoa k=Lib.decDigits k.toNat:=by
 unfold Lib.itoa;rw[Zl (by omega)]
theorem zJz (c:Int) (h0:0≤c) (h1:c<16777216) (w:World) (hL:Rw.Laid w) :
 Calls prog 132 #[.int .i32 c] w fun e w'=>e=.returned (.string ⟨(Fi.text c.toNat).toArray⟩)∧Below w.heap.size w w':=by
 obtain⟨n,rfl⟩:∃n:Nat,c=n:=⟨c.toNat,by omega⟩;rw[Y9];exact Fi.text_any n (by omega) w hL.1
theorem zMT (k:Int) (h0:0≤k) (h1:k≤1000000000) (w:World) (hL:Rw.Laid w) :
 Calls prog 133 #[.int .i64 k] w fun e w'=>e=.returned (.string ⟨(Lib.decDigits k.toNat).toArray⟩)∧Below w.heap.size w w':=by
 rw[←zOn k h0];exact zJm k (by omega) (by omega) w hL.2
def zR1 (x0 x3 x5:ByteArray):List Value:=[.string x0,.string ⟨#[88]⟩,.string ⟨#[]⟩,.string x3,.string ⟨#[]⟩,.string x5,.string ⟨#[]⟩,.string ⟨#[]⟩,.string ⟨#[]⟩,.string ⟨#[]⟩,.string ⟨#[]⟩,.string ⟨#[]⟩,.string ⟨#[]⟩,.string ⟨#[]⟩,.string ⟨#[]⟩]
def zGa (x0 x3 x5:ByteArray):List ByteArray:=[x0,⟨#[88]⟩,⟨#[]⟩,x3,⟨#[]⟩,x5,⟨#[]⟩,⟨#[]⟩,⟨#[]⟩,⟨#[]⟩,⟨#[]⟩,⟨#[]⟩,⟨#[]⟩,⟨#[]⟩,⟨#[]⟩]
theorem zMU (x0 x3 x5:ByteArray) (h0:x0.size≤10000) (h3:x3.size≤10000) (h5:x5.size≤10000):∀x∈zGa x0 x3 x5,x.size≤10000:=by
 intro x hx;have he:(⟨#[]⟩:ByteArray).size=0:=rfl;have aa:(⟨#[88]⟩:ByteArray).size=1:=rfl;unfold zGa at hx;simp only[Y0,Z6,Q5]at hx;rcases hx with rfl|rfl|rfl|rfl|rfl|rfl|rfl|rfl|rfl|rfl|rfl|rfl|rfl|rfl|rfl <;> omega
theorem zI4 (c:UInt8):∀l:List (List UInt8),Lib.join l [c]=zAt c l
 | []=>by rw[Lib.join_nil];rfl
 | x::r=>by
   rw[Lib.join_cons];rfl
theorem zMV (c k:Int) (m:List Int):Lib.join ((zGa ⟨(Fi.text c.toNat).toArray⟩ ⟨(Lib.decDigits k.toNat).toArray⟩ ⟨(zB1 m).toArray⟩).map (·.data.toList)) [59]=Rw.line (c,k,m):=by
 rw[zI4];unfold zGa Rw.line zB1;simp[zAt]
theorem zOo (m:List Int) (hm:m.length≤2) (hc:∀x∈m,0≤x∧x≤1114111):(zB1 m).length≤10000:=by
 unfold zB1;rcases m with _|⟨a,_|⟨b,_|⟨d,t⟩⟩⟩
 · simp[zAt]
 · have:=zAG a.toNat (by have:=(hc a (by simp)).2;omega);simp[zAt];omega
 · have h1:=zAG a.toNat (by have:=(hc a (by simp)).2;omega);have h2:=zAG b.toNat (by have:=(hc b (by simp)).2;omega);simp[zAt];omega
 simp at hm
def zF9:List Value:=[.string ByteArray.empty,.string ByteArray.empty,.string ByteArray.empty,.string ByteArray.empty,.string ByteArray.empty,.string ByteArray.empty,.string ByteArray.empty,.string ByteArray.empty,.string ByteArray.empty,.string ByteArray.empty,.string ByteArray.empty,.string ByteArray.empty,.string ByteArray.empty,.string ByteArray.empty,.string ByteArray.empty]
theorem zR2 (w:World):(Instr.makeSlice 55 (.int .i64 15) (.int .i64 15)).run prog w=.ok (.slice (some ⟨w.heap.size,0,none⟩) 15 15) (w.alloc (.cells zF9.toArray 9)):=by kernel_rfl
theorem zMW (c k:Int) (A:Option Addr) (m:List Int) (n cp B:Nat) (w:World) (c0:0≤c) (c1:c≤1114111) (k0:0≤k) (k1:k≤254) (hn:m.length=n) (hm:n≤2) (hmb:∀x∈m,0≤x∧x≤1114111)
 (hB:B≤w.heap.size) (hA:Sl w B A (m.map (Value.int .i32))) (hL:Rw.Laid w) :
 Calls prog 105 #[.agg #[.int .i32 c,.int .i64 k,.slice A n cp]] w fun e w'=>e=.returned (.string ⟨(Rw.line (c,k,m)).toArray⟩)∧Below w.heap.size w w':=by
 have hX:=zJz c c0 (by omega);have hK:=zMT k k0 (by omega);obtain⟨x0,bh⟩:∃x:ByteArray,⟨(Fi.text c.toNat).toArray⟩=x:=⟨_,rfl⟩;obtain⟨x3,bg⟩:∃x:ByteArray,⟨(Lib.decDigits k.toNat).toArray⟩=x:=⟨_,rfl⟩;simp only[bh]at hX;simp only[bg]at hK;have bo:=hy' bh;have bp:=hy' bg;have HN:=hy' hn;have bb:=hy' hmb;clear bh bg hn hmb;have cy:=zR2;go_enter func105,ntmps105;go_upto_region 2 with (fail)
 obtain⟨wa,ap⟩:∃wa,(w.alloc (.cells #[.int .i32 c,.int .i64 k,.slice A n cp] 163)).alloc (.cells zF9.toArray 9)=wa:=⟨_,rfl⟩;have hz:w.heap.size+1<wa.heap.size:=by rw[←ap];simp
 have ae:Below w.heap.size w wa:=by rw[←ap];exact ((Zc _ _).alloc (Za _) _).alloc (by simp) _
 have aq:Rw.At wa w.heap.size 163 [.int .i32 c,.int .i64 k,.slice A n cp]:=by rw[←ap];exact (Rw.At.new w 163 [.int .i32 c,.int .i64 k,.slice A n cp]).alloc _
 have au:Rw.At wa (w.heap.size+1) 9 zF9:=by
  have h:=Rw.At.new (w.alloc (.cells #[.int .i32 c,.int .i64 k,.slice A n cp] 163)) 9 zF9;rw[ZL]at h;rw[←ap];exact h
 have bi:=hL.next ae
 first
  | rw[ap]
  | (show Code.wp _ _ _ _ ((w.alloc (.cells #[.int .i32 c,.int .i64 k,.slice A n cp] 163)).alloc (.cells zF9.toArray 9));rw[ap])
 clear ap;obtain⟨d1,d2,d3,_,_,_⟩:=aq.three;go_cut [] (fun wx=>Rw.At wx (w.heap.size+1) 9 (zR1 x0 x3 ⟨#[]⟩)∧Below (w.heap.size+1) wa wx)
 case first =>
  have b5:Rw.Laid wa.drew:=bi.next (Zc _ _).drew;have b8:w.heap.size<wa.heap.size:=by omega
  go_region_with (first
   | (go_at_call 132;refine (hX _ b5).mono ?_;rintro e wq ⟨rfl,cj⟩;have ai:Below wa.heap.size wa wq:=((Zc _ _).drew).trans cj;have cu:wq.cell? ⟨w.heap.size,1,none⟩=some (.int .i64 k):=((zAI ai).1 _ _ b8).trans d2;have b1:=bi.next ai)
   | (go_at_call 133;refine (hK _ b1).mono ?_;rintro e wz ⟨rfl,b9⟩;have bq:Below wa.heap.size wa wz:=ai.trans (b9.mono ai.size);have af:=au.below' bq hz;have y0:=af.cell 0 rfl;have y1:=af.cell 1 rfl;have y3:=af.cell 3 rfl;have g0:=af.frozen 0;have g1:=af.frozen 1;have g3:=af.frozen 3)
   | fail)
  all_goals
   go_wp2_with fail;go_meet;exact⟨((af.set 0 (.string x0)).set 1 (.string ⟨#[88]⟩)).set 3 (.string x3),(((bq.mono (Z8 hz)).setCell (p:=⟨w.heap.size+1,0,none⟩) (Za _) _).setCell (p:=⟨w.heap.size+1,1,none⟩) (Za _) _).setCell (p:=⟨w.heap.size+1,3,none⟩) (Za _) _⟩
 obtain⟨ar,ai⟩:=hcut;obtain⟨wx,rfl⟩:∃wx:World,wx=wc:=⟨_,rfl⟩;have ak:=aq.below' ai (ZP _);obtain⟨f1,f2,f3,_,_,_⟩:=ak.three;have bk:Sl wx B A (m.map (Value.int .i32)):=(hA.below (ae.mono hB) (Za _)).below (ai.mono (show B≤w.heap.size+1 by omega)) (Za _);have bw:Rw.Laid wx:=hL.next (ae.trans (ai.mono (ZX _)));have cm:w.heap.size+1<wx.heap.size:=ar.lt;have br:=hy' (ae.trans (ai.mono (ZX _)));clear d1 d2 d3 aq au ae bi hX hK ak ai f1 f2;obtain⟨i0,hi,ck,cb,ch⟩:=Z7 Rw.infoStr;have cd:=hy' bk;have cq:=hy' hL;have ct:=hy' bw;have b7:=hy' ar;clear bk bw hA hL ar;go_wp2_with fail;go_loopw [4,6,23] (fun v _ i wr=>∃j:Nat,j≤n∧i=.int .i64 j∧wr.ownsRow (w.heap.size+2) 9 1 v j ((m.take j).map fun x=>Value.string ⟨(Fi.text x.toNat).toArray⟩)∧Below (w.heap.size+2) wx wr) (fun _ _ i _=>n-(intOf i).toNat)
 case atStart=>exact⟨0,ZG _,rfl,ZI _ _ _ _,Zc _ _⟩
 obtain⟨j,hj,rfl,ag,aa⟩:=hrel;have bx:w.heap.size+2≤wr.heap.size:=Zi cm aa.size;have b2:Rw.Laid wr:=cq.o.next (br.o.trans (aa.mono (by omega)))
 by_cases hlt:j<n
 · obtain⟨x,hx⟩:∃x,m[j]?=some x:=⟨_,Zb (by rw[HN.o];exact hlt)⟩;have hxb:=bb.o x (Zn hx);obtain⟨ab,ao,rfl,cx,bl⟩:=cd.o (by rw[Ze,HN.o];omega);have hc:=bl j (by rw[Ze,HN.o];exact hlt);rw[Zs,hx,ZA,←(zAI aa).1 _ _ (by omega)]at hc;have hT:=zJz x hxb.1 (by omega) wr b2
   have ah:(m.take (j+1)).map (fun x=>Value.string ⟨(Fi.text x.toNat).toArray⟩)=(m.take j).map (fun x=>Value.string ⟨(Fi.text x.toNat).toArray⟩)++[Value.string ⟨(Fi.text x.toNat).toArray⟩]:=by
    rw[ZB,hx];simp
   obtain⟨tx,bc⟩:∃y:ByteArray,⟨(Fi.text x.toNat).toArray⟩=y:=⟨_,rfl⟩;rw[bc]at ah;simp only[bc]at hT;have jI:(j:Int)<n:=by omega
   have b3:=hy' ah;have a8:=hy' aa;have bj:=hy' ag;clear ah aa ag hx bl bc;go_wp2_with fail;refine hT.mono ?_;rintro e w3 ⟨rfl,a6⟩;have av:=zA4 bj.o a6 (Za _);have cc:=hy' (a8.o.trans (a6.mono bx));have cg:w.heap.size+2≤w3.heap.size:=Zi bx a6.size;clear a6 hT;go_wp2_with (first|(at_builtin;refine zAj _ rfl _ _ _ rfl (w.heap.size+2) 9 i0 _ 16 underlying55 hi ck cb ch rfl _ j _ rfl av _ rfl rfl (by simp only[maxLen];omega) (by omega) cg ?_;intro v1 w4 ay bz)|fail);exact⟨⟨j+1,by omega,by go_num,by rw[b3.o];exact ay,cc.o.trans bz⟩,by simp[intOf];omega⟩
 obtain rfl:j=n:=by omega
 have jI:¬(j:Int)<j:=by omega
 rw[Zm (by rw[HN.o];exact Za _)]at ag;obtain⟨A4,c4,rfl⟩:=zA2 ag;have bm:=Sl.of_own ag
 have aw:j≤c4:=by
  rcases ag.2 with ⟨hv,h0⟩|⟨g,cap,cv,hv,_,_,cw,_⟩
  · omega
  simp only[Z3]at hv;omega
 have hJ:∀W:World,W=wr→Calls prog 66 #[.slice A4 j c4,.string ⟨#[32]⟩] W fun e w'=>e=.returned (.string ⟨(zB1 m).toArray⟩)∧Below W.heap.size W w':=by
  rintro W rfl;rcases Yy j with hj0|hj0
  · have cf:m=[]:=List.length_eq_zero_iff.1 (by rw[HN.o];exact hj0);subst hj0;refine (Tryz.strings_Join_none A4 c4 ⟨#[32]⟩ W).mono ?_;rintro e w' ⟨rfl,rfl⟩;exact⟨by rw[cf];rfl,Zc _ _⟩
  have h:=Jn.any A4 c4 W.heap.size j (m.map fun x=>⟨(Fi.text x.toNat).toArray⟩) ⟨#[32]⟩ W (by rw[Ze,HN.o]) hj0 (Za _) (by rw[Xg];exact bm) aw (by omega) (fun y hy=>by
   obtain⟨x,hx,rfl⟩:=List.mem_map.1 hy;rw[zEC];have:=zAG x.toNat (by have:=bb.o x hx;omega);omega) (by decide)
  refine h.mono ?_;rintro e w' ⟨rfl,hb⟩;refine⟨?_,hb⟩;rw[Xg,show (⟨#[32]⟩:ByteArray).data.toList=[32] from rfl,zI4];rfl
 have ax:=b7.o.below' aa (ZP _);have b6:=hy' (br.o.trans (aa.mono (show w.heap.size≤w.heap.size+2 by omega)));obtain⟨mt,ba⟩:∃y:ByteArray,⟨(zB1 m).toArray⟩=y:=⟨_,rfl⟩;simp only[ba]at hJ;have bt:=hy' ba;clear ag bm aw aa ba;go_wp2_with fail;refine (hJ _ rfl).mono ?_;rintro e w5 ⟨rfl,a7⟩;have aj:=ax.below a7;have y5:=aj.cell 5 rfl;have g5:=aj.frozen 5;have a1:=aj.set 5 (.string mt);have cr:wr.heap.size≤w5.heap.size:=a7.size;have b4:w.heap.size+1<w5.heap.size:=by omega
 have bs:=hy' (((b6.o.trans (a7.mono (by omega))).setCell (p:=⟨w.heap.size+1,5,none⟩) (show w.heap.size≤w.heap.size+1 by omega) (.string mt)))
 have bn:Sl (w5.setCell ⟨w.heap.size+1,5,none⟩ (.string mt)) (w5.setCell ⟨w.heap.size+1,5,none⟩ (.string mt)).heap.size (some ⟨w.heap.size+1,0,none⟩) ((zGa x0 x3 mt).map Value.string) :=
  zCj rfl _ _ a1
 have bf:=Jn.any (some ⟨w.heap.size+1,0,none⟩) 15 _ 15 (zGa x0 x3 mt) ⟨#[59]⟩ (w5.setCell ⟨w.heap.size+1,5,none⟩ (.string mt)) rfl (by decide) (Za _) bn (Za _) (by decide) (zMU x0 x3 mt (by rw[←bo.o,zEC];have:=zAG c.toNat (by omega);omega) (by
  rw[←bp.o,zEC];have:=zD2 9 k.toNat (by rw[show (10:Nat) ^ (9+1)=10000000000 from by decide];omega);omega) (by
  rw[←bt.o,zEC];exact zOo m (by rw[HN.o];exact hm) bb.o)) (by decide)
 have az:(⟨(Lib.join ((zGa x0 x3 mt).map (·.data.toList)) (⟨#[59]⟩:ByteArray).data.toList).toArray⟩:ByteArray)=⟨(Rw.line (c,k,m)).toArray⟩:=by
  rw[←bo.o,←bp.o,←bt.o];exact Yb (fun l:List UInt8=>(⟨l.toArray⟩:ByteArray)) (zMV c k m)
 rw[az]at bf;clear aj a1 bn a7 hJ ax az;go_wp2_with fail;refine bf.mono ?_;rintro e w7 ⟨rfl,bu⟩;have cn:=hy' (bs.o.trans (bu.mono bs.o.size));clear bu bf;go_wp2_with fail;go_ret;exact⟨rfl,cn.o⟩
end Go.Proofs.YtddbccflcekdpaaGreatDoor
