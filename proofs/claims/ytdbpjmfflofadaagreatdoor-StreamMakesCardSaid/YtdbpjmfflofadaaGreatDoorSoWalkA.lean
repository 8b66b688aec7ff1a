/- The two maps of a loaded table: what is found in them, and what a store makes of them. -/
import Derived.Test.YtdbpjmfflofadaaGreatDoorPgRaw
import Derived.DeepKeys4
import Derived.Lib.AppendZerosOnto
import Derived.Lib.Walk
import Derived.Lib.Strings
import Derived.CellFam
import Derived.Sort.Walk13a
import Derived.Sort.LotD4
import Derived.Sort.LotB
import Derived.Sort.LotA
set_option maxRecDepth 1000000
set_option maxHeartbeats 6400000
set_option linter.unusedVariables false
set_option linter.unusedSimpArgs false
namespace Go.Proofs.YtdbpjmfflofadaaGreatDoor
open Go.RowKit
theorem Ud.key32 {c:Int} (h : -2147483648≤c∧c≤2147483647):keyOf Tryz.prog 21 (.int .i32 c)=some (.int .i32 c):=Go.Maps.keyOf_int_mk Tryz.underlying21 (zLf h.1 h.2)
theorem zRg {w:World} {b:Nat} {F:Value→Option Value} (h:Mp.Is Tryz.prog 21 w b F) {c:Int} (hc : -2147483648≤c∧c≤2147483647) {v:Value} (hv:(F (.int .i32 c)).getD (.slice none 0 0)=v) :
 (Instr.lookup 140 (.map (some b)) (.int .i32 c) false).run Tryz.prog w=.ok v w:=by
 have hz:(zeroValue 79).run Tryz.prog w=.ok (.slice none 0 0) w:=by kernel_rfl
 have:=h.look zFw Tryz.underlying140 hz (Ud.key32 hc) false;rw[if_neg (by simp),hv]at this;exact this
theorem zSj {w:World} {b:Nat} {F:Value→Option Value} (h:Mp.Is Tryz.prog 21 w b F) {c:Int} (hc : -2147483648≤c∧c≤2147483647) (v:Value) :
 ∃w' F',(Instr.mapUpdate 140 (.map (some b)) (.int .i32 c) v).run Tryz.prog w=.ok () w'∧Mp.Is Tryz.prog 21 w' b F'∧F' (.int .i32 c)=some v∧(∀y,y≠.int .i32 c→F' y=F y)∧w.grownBy w' (some b):=by
 obtain⟨F',h1,h2⟩:∃F':Value→Option Value,F' (.int .i32 c)=some v∧∀z,z≠.int .i32 c→F' z=F z:=by
  classical
  exact⟨fun z=>if z=.int .i32 c then some v else F z,by simp,fun z hz=>by simp[hz]⟩
 obtain⟨w',g1,g2,g3⟩:=h.put zFw Tryz.underlying140 (Ud.key32 hc) F' h1 h2;exact⟨w',F',g1,g2,h1,h2,g3⟩
theorem zMx:Go.Maps.Keyed Tryz.prog 167:=Go.Maps.Keyed.of_law (Go.deep_law_laid (m:=3) (by kernel_rfl) (by decide) (of_decide_eq_true (by kernel_rfl)) (by kernel_rfl) (by rw[Tryz.underlying167]))
theorem Ud.pk_key {x y:Int} (hx : -2147483648≤x∧x≤2147483647) (hy : -2147483648≤y∧y≤2147483647):∃l,keyOf Tryz.prog 167 (zEO x y)=some l:=by
 have h0:∀(m:Nat) (z:Int),-2147483648≤z∧z≤2147483647→Tryz.prog.keyLits (m+1) 21 [.int .i32 z]=some [.int .i32 z]:=fun m z hz=>by
  unfold Program.keyLits;rw[Tryz.underlying21];simp[zLf hz.1 hz.2]
 have h1:∀z:Int,-2147483648≤z∧z≤2147483647→Tryz.prog.keyLits 380 21 [.int .i32 z]=some [.int .i32 z]:=fun z hz=>by
  have:=h0 (380-1) z hz
  rwa [show 380-1+1=380 by decide]at this
 have ht:Tryz.prog.types.size=380:=by kernel_rfl
 have hc:Tryz.prog.cellsOf 21=1:=by kernel_rfl
 have aa:Tryz.prog.cellsOf 167=2:=by kernel_rfl
 have hl:Tryz.prog.keyLits (Tryz.prog.types.size+1) 167 [.int .i32 x,.int .i32 y]=some [.int .i32 x,.int .i32 y]:=by
  unfold Program.keyLits;rw[Tryz.underlying167,ht];simp[hc,aa,h1 x hx,h1 y hy]
 have hk:Tryz.prog.keyType 167=true:=by kernel_rfl
 have hf:(zEO x y).formed Tryz.prog 167=true:=by
  unfold Value.formed zEO;rw[Tryz.underlying167];simp[aa]
 unfold keyOf;rw[Tryz.underlying167];simp only[hk,hf,Bool.and_self,if_true];unfold zEO;simp only[Value.cells];rw[hl];exact⟨_,rfl⟩
theorem zSk {w:World} {b:Nat} {F:Value→Option Value} (h:Mp.Is Tryz.prog 167 w b F) {x y:Int} (hx : -2147483648≤x∧x≤2147483647) (hy : -2147483648≤y∧y≤2147483647) :
 (Instr.lookup 141 (.map (some b)) (.agg #[.int .i32 x,.int .i32 y]) true).run Tryz.prog w=.ok (.tuple #[(F (zEO x y)).getD (.int .i32 0),.bool (F (zEO x y)).isSome]) w:=by
 obtain⟨l,hl⟩:=Ud.pk_key hx hy;have hz:(zeroValue 21).run Tryz.prog w=.ok (.int .i32 0) w:=by kernel_rfl
 have:=h.look zMx Tryz.underlying141 hz hl true;rw[if_pos rfl]at this;exact this
theorem zSU {w:World} {b:Nat} {F:Value→Option Value} (h:Mp.Is Tryz.prog 167 w b F) {x y:Int} (hx : -2147483648≤x∧x≤2147483647) (hy : -2147483648≤y∧y≤2147483647) (v:Value) :
 ∃w' F',(Instr.mapUpdate 141 (.map (some b)) (.agg #[.int .i32 x,.int .i32 y]) v).run Tryz.prog w=.ok () w'∧Mp.Is Tryz.prog 167 w' b F'∧F' (.agg #[.int .i32 x,.int .i32 y])=some v∧(∀z,z≠.agg #[.int .i32 x,.int .i32 y]→F' z=F z)∧w.grownBy w' (some b):=by
 obtain⟨l,hl⟩:=Ud.pk_key hx hy
 obtain⟨F',h1,h2⟩:∃F':Value→Option Value,F' (zEO x y)=some v∧∀z,z≠zEO x y→F' z=F z:=by
  classical
  exact⟨fun z=>if z=zEO x y then some v else F z,by simp,fun z hz=>by simp[hz]⟩
 obtain⟨w',g1,g2,g3⟩:=h.put zMx Tryz.underlying141 hl F' h1 h2;exact⟨w',F',g1,g2,h1,h2,g3⟩
def zEY (T:List Rw.Row) (c:Int):Bool:=decide (0<(zB3 T c).length)
def Ud.fl (T:List Rw.Row) (c:Int):List Int:=if zEY T c=true then Ud.full T c else []
def zKs (T:List Rw.Row) (S:List Int) (c:Int):Bool:=zEY T c&&zAt T (C.mem S) c
def Ud.RetFind (T:List Rw.Row) (S:List Int) (c:Int) (w:World) (e:Ending) (w':World):Prop :=
 ∃m mc f fc,e=.returned (.tuple #[.agg #[.slice m (zB3 T c).length mc,.slice f (Ud.fl T c).length fc,.bool (zKs T S c)],.bool (zEY T c)])∧Sl w' w'.heap.size m (Ud.ints (zB3 T c))∧Sl w' w'.heap.size f (Ud.ints (Ud.fl T c))∧Below w.heap.size w w'
theorem Ud.find_any (v:Value) (T:List Rw.Row) (S:List Int) (c:Int) (w:World) (ok:Ud.Ok T S) (h:Ud.Is w v T S) :
 Calls Tryz.prog 73 #[v,.int .i32 c] w (Ud.RetFind T S c w):=by
 obtain⟨b,A0,c0,XA,xc,pc,pp,A3,c3,mb,jb,A4,c4,A5,c5,A6,c6,es,rfl,bb,_,_,_,a7,aa,_⟩:=h.is;have hlen:=ok.len;have ax:Below w.heap.size w (w.alloc (.cells #[.slice none 0 0,.slice none 0 0,.bool false] 133)):=(Below.refl _ _).alloc (Nat.le_refl _) _;have af:=bb.below ax;have ar:=Rw.At.new w 133 [.slice none 0 0,.slice none 0 0,.bool false];have z3:=af.cell 3 rfl;have bu:=af.lt;have hG:=zKl pp _ c _ (a7.below ax);have bm:=hy' af;have HE:=hy' ar;have HB:=hy' ax;rcases zRa ok c with ⟨i,r,hi,bc,ai,hpos,ag⟩|⟨ag,ba⟩
 rotate_left
 · have ae:zEY T c=false:=by unfold zEY;rw[ba];rfl
   have aw:Ud.fl T c=[]:=by unfold Ud.fl;rw[if_neg (by rw[ae];simp)]
   have aj:zKs T S c=false:=by unfold zKs;rw[ae];rfl
   unfold Ud.RetFind;rw[ae,ba,aw,aj];rw[ag]at hG;clear aa a7 bb ag ae aj aw af ar ax hlen h ba;go_enter Tryz.func73,Tryz.ntmps73;go_wp2_with fail;refine hG.mono ?_;rintro e w1 ⟨rfl,ao⟩;have ap:=hy' (HB.o.trans (ao.mono HB.o.size));have ak:=HE.o.below ao;have bi:=ak.lt;obtain⟨_,_,_,f0,f1,f2⟩:=ak.three;have a6:=hy' ak;clear ao z3 hG ak;go_wp2_with fail;have k1:=a6.o.set 0 (.slice none 0 0);have k2:=k1.set 1 (.slice none 0 0);have k3:=k2.set 2 (.bool false);have aq:=((ap.o.setCell (p:=⟨w.heap.size,0,none⟩) (Nat.le_refl _) (.slice none 0 0)).setCell (p:=⟨w.heap.size,1,none⟩) (Nat.le_refl _) (.slice none 0 0)).setCell (p:=⟨w.heap.size,2,none⟩) (Nat.le_refl _) (.bool false);exact bodyPost_ret (zDV rfl _ _ w.heap.size _ _ _ _ rfl k3 Tryz.underlying133 rfl (by kernel_rfl)) rfl ⟨none,0,none,0,rfl,Sl.nil _ _ _,Sl.nil _ _ _,aq⟩
 have ae:zEY T c=true:=by
  unfold zEY zB3;rw[ai];exact decide_eq_true hpos
 have av:zB3 T c=r.2.2:=by unfold zB3;rw[ai];rfl
 have aw:Ud.fl T c=Ud.full T r.1:=by unfold Ud.fl;rw[if_pos ae,bc]
 have aj:zKs T S c=zAt T (C.mem S) r.1:=by unfold zKs;rw[ae,bc];rfl
 unfold Ud.RetFind;rw[ae,av,aw,aj];have bg:=(List.getElem?_eq_some_iff.1 hi).1;have hle:(zAK T).length≤T.length:=List.length_filter_le _ _;obtain⟨a,ha⟩:∃a,es[i]?=some a:=⟨_,List.getElem?_eq_getElem (by rw[aa.1];exact bg)⟩;obtain⟨bh,bf⟩:=aa.2.2 i r a hi ha;obtain⟨g1,g2,g3⟩:=zKp T (C.mem S) (zAK T) es i r a hi ha;have ah:=zHc T (C.mem S) (zAK T) es aa.1;obtain⟨eb,eo,rfl,az,ay⟩:=aa.2.1 (by rw[ah];omega);have y0:=ay (i*3) (by rw[ah];omega);have y1:=ay (i*3+1) (by rw[ah];omega);have y2:=ay (i*3+2) (by rw[ah];omega);rw[g1]at y0;rw[g2]at y1;rw[g3]at y2;rw[ag]at hG;rw[←Nat.add_assoc]at y1 y2;obtain⟨mn,hmn⟩:∃n,(zAK T).length=n:=⟨_,rfl⟩;rw[hmn]at bg hle af;have bp:=hy' hmn;obtain⟨fn,a1⟩:∃n,(Ud.full T r.1).length=n:=⟨_,rfl⟩;obtain⟨rn,a8⟩:∃n,r.2.2.length=n:=⟨_,rfl⟩;obtain⟨pb,hpb⟩:∃n,zAt T (C.mem S) r.1=n:=⟨_,rfl⟩;rw[a1,a8,hpb];rw[a1]at y1;rw[a8]at y0;rw[hpb]at y2;have bt:(i:Int)<mn:=by omega
 have br:(0:Int)≤i:=by omega
 have bs:IntKind.u16.wrap ((i:Int)+1-1)=i:=by
  show ((i:Int)+1-1)%65536=i;omega
 have bl:IntKind.u16.wrap (i:Int)=i:=by
  show (i:Int)%65536=i;omega
 have hne:((i:Int)+1 == 0)=false:=by simp;omega
 have bq:decide ((i:Int)+1=0)=false:=by simp;omega
 have bn:=hy' bh;have bj:=hy' bf;clear bh bf g1 g2 g3 ay aa a7 bb ai ag ae aj av aw hi ha ah af ar ax hmn a1 a8 hpb hle hlen h hpos bc;go_enter Tryz.func73,Tryz.ntmps73;go_wp2_with fail;refine hG.mono ?_;rintro e w1 ⟨rfl,ao⟩;have ap:=hy' (HB.o.trans (ao.mono HB.o.size));have au:=bm.o.below ao;have ak:=HE.o.below ao;have q4:=au.cell 4 rfl;rw[bp.o]at q4;have q0:=(ap.o.cell (p:=⟨eb,eo+i*3,none⟩) az).trans y0;have q1:=(ap.o.cell (p:=⟨eb,eo+i*3+1,none⟩) az).trans y1;have q2:=(ap.o.cell (p:=⟨eb,eo+i*3+2,none⟩) az).trans y2;have bo:=au.lt;have bk:eb<w1.heap.size:=Nat.lt_of_lt_of_le az ap.o.size;have bi:=ak.lt;obtain⟨_,_,_,f0,f1,f2⟩:=ak.three;have a6:=hy' ak;clear ao z3 y0 y1 y2 hG au ak;go_wp2_with fail;have k1:=a6.o.set 0 (.slice a.m rn a.mc);have k2:=k1.set 1 (.slice a.f fn a.fc);have k3:=k2.set 2 (.bool pb);have aq:=((ap.o.setCell (p:=⟨w.heap.size,0,none⟩) (Nat.le_refl _) (.slice a.m rn a.mc)).setCell (p:=⟨w.heap.size,1,none⟩) (Nat.le_refl _) (.slice a.f fn a.fc)).setCell (p:=⟨w.heap.size,2,none⟩) (Nat.le_refl _) (.bool pb);exact bodyPost_ret (zDV rfl _ _ w.heap.size _ _ _ _ rfl k3 Tryz.underlying133 rfl (by kernel_rfl)) rfl ⟨a.m,a.mc,a.f,a.fc,rfl,bn.o.below aq aq.size,bj.o.below aq aq.size,aq⟩
theorem Ud.class_any (v:Value) (T:List Rw.Row) (S:List Int) (c:Int) (w:World) (ok:Ud.Ok T S) (h:Ud.Is w v T S) :
 Calls Tryz.prog 40 #[v,.int .i32 c] w fun e w'=>e=.returned (.int .i64 (Md.cls T c))∧Below w.heap.size w w':=by
 obtain⟨b,A0,c0,XA,xc,pc,pp,A3,c3,mb,jb,A4,c4,A5,c5,A6,c6,es,rfl,ae,_,_,af,ag,aa,_⟩:=h.is;have z2:=ae.cell 2 rfl;have ai:=ae.lt;have hG:=zKl pc _ c _ af;rw[zPM ok]at hG;have hbd:=zIY ok c;obtain⟨k,hk⟩:∃k,Md.cls T c=k:=⟨_,rfl⟩;rw[hk]at hbd hG ⊢;have hw:IntKind.i64.wrap k=k:=by rw[IntKind.wrap_i64];omega
 clear aa ag af ae h hk ok;go_enter Tryz.func40,Tryz.ntmps40;go_wp2_with fail;refine hG.mono ?_;rintro e w1 ⟨rfl,ah⟩;clear hG z2;go_wp2_with fail;go_ret;exact⟨rfl,ah⟩
theorem zBh {T:List Rw.Row} {S:List Int} (ok:Ud.Ok T S) (c:Int):(Ud.full T c).length≤32:=by
 obtain⟨l,hl⟩:=zDu ok.chk c;unfold Ud.full;rw[hl];exact (zDv hl).2.2.1
theorem Ud.full_any (v:Value) (T:List Rw.Row) (S:List Int) (c:Int) (w:World) (ok:Ud.Ok T S) (h:Ud.Is w v T S) (h3 : -2147483648≤c) (h4:c≤2147483647) :
 Calls Tryz.prog 39 #[v,.int .i32 c] w (zD1 .i32 (Ud.full T c) w):=by
 have hS:=Hg.split_any c w h3 h4;obtain⟨s,hs⟩:∃s,zA9 c=s:=⟨_,rfl⟩;rw[hs]at hS
 by_cases hne:s=[]
 · subst hne;have hF:∀W,Below w.heap.size w W→Calls Tryz.prog 73 #[v,.int .i32 c] W (Ud.RetFind T S c W):=fun W hW=>Ud.find_any v T S c W ok (h.below hW)
   have hk:=zLb hs;have hle:=zBh ok c;have hA:zEY T c=true→Ud.fl T c=Ud.full T c:=fun hz=>by unfold Ud.fl;rw[if_pos hz]
   have hB:zEY T c=false→Ud.full T c=[c]:=fun hz=>by
    refine zNX ?_ hk;unfold zEY at hz;rw[decide_eq_false_iff_not]at hz;exact List.eq_nil_of_length_eq_zero (by omega)
   obtain⟨rn,au⟩:∃z,(zB3 T c).length=z:=⟨_,rfl⟩;obtain⟨z,hz⟩:∃z,zEY T c=z:=⟨_,rfl⟩;obtain⟨fl,aj⟩:∃z,Ud.fl T c=z:=⟨_,rfl⟩;obtain⟨pb,hpb⟩:∃z,zKs T S c=z:=⟨_,rfl⟩;obtain⟨l,hl⟩:∃z,Ud.full T c=z:=⟨_,rfl⟩;unfold Ud.RetFind at hF;rw[hz,aj,au,hpb]at hF;rw[hl]at hle ⊢;rw[hz,aj,hl]at hA;rw[hz,hl]at hB;have HF:=hy' hF;have HA:=hy' hA;have HB:=hy' hB;clear hF hz aj hl hpb h ok h3 h4 hA hB hs hk au;go_enter Tryz.func39,Tryz.ntmps39;go_wp2_with fail;refine hS.mono ?_;rintro e w0 ⟨A,cc,rfl,_,aa⟩;have aq:=HF.o w0 aa;have ai:=hy' aa;clear hS aa HF;go_wp2_with fail;refine aq.mono ?_;rintro e w1 ⟨m,mc,f,fc,rfl,_,af,av⟩;have ag:Below w1.heap.size w1 (w1.alloc (.cells #[.slice m rn mc,.slice f fl.length fc,.bool pb] 133)):=(Below.refl _ _).alloc (Nat.le_refl _) _;have hn:=Rw.At.new w1 133 [.slice m rn mc,.slice f fl.length fc,.bool pb];have y1:=hn.cell 1 rfl;have ar:=hy' (ai.o.trans (av.mono ai.o.size));have ah:=hy' (ar.o.trans (ag.mono ar.o.size));have ap:=hy' (af.below ag ag.size);clear av hn af ag aq;cases z
   · have ak:=HB.o rfl;clear HB;subst ak;clear y1 HA;go_wp2_with fail;go_ret;have hh:=heap_alloc_new (w1.alloc (.cells #[.slice m rn mc,.slice f fl.length fc,.bool pb] 133)) (.cells #[.int .i32 c] 21);rw[show (w1.alloc (.cells #[.slice m rn mc,.slice f fl.length fc,.bool pb] 133)).heap.size=w1.heap.size+1 by simp]at hh;exact⟨_,_,rfl,Sl.lit rfl _ _ hh,ah.o.alloc ah.o.size _⟩
   have ak:=HA.o rfl;subst ak;have hC:=zC0 f fl.length fc _ fl _ rfl (by omega) (Nat.le_refl _) ap.o;clear HA HB;go_wp2_with fail;refine hC.mono ?_;rintro e w2 ⟨A',c',rfl,ae,aw⟩;have HO:=hy' (Sl.of_own ae);have ax:=hy' (ah.o.trans (aw.mono ah.o.size));clear ae aw hC y1;go_wp2_with fail;go_ret;exact⟨A',c',rfl,HO.o,ax.o⟩
 have ao:=zLa ok (c:=c) (by rw[hs];exact hne);rw[hs]at ao;rw[ao]
 have hpos:(0:Int)<s.length:=by
  have:=List.length_pos_iff.2 hne;omega
 clear hs hne ao h ok h3 h4;go_enter Tryz.func39,Tryz.ntmps39;go_wp2_with fail;refine hS.mono ?_;rintro e w0 ⟨A,cc,rfl,af,aa⟩;have ap:=hy' af;have ai:=hy' aa;clear hS aa af;go_wp2_with fail;go_ret;exact⟨A,cc,rfl,ap.o,ai.o⟩
def Ud.joinK (T:List Rw.Row) (S:List Int) (a b:Int):Int × Bool :=
 if (Hg.joinK a b).2=true then ((Hg.joinK a b).1,true) else ((zCj T (C.mem S) T a b).getD 0,(zCj T (C.mem S) T a b).isSome)
theorem Ud.join_any (v:Value) (T:List Rw.Row) (S:List Int) (a c:Int) (w:World) (ok:Ud.Ok T S) (h:Ud.Is w v T S) (h1 : -2147483648≤a) (h2:a≤2147483647) (h3 : -2147483648≤c) (h4:c≤2147483647) :
 Calls Tryz.prog 139 #[v,.int .i32 a,.int .i32 c] w fun e w'=>e=.returned (.tuple #[.int .i32 (Ud.joinK T S a c).1,.bool (Ud.joinK T S a c).2])∧Below w.heap.size w w':=by
 have hJ:=Hg.join_any a c w h1 h2 h3 h4;have hj:Ud.joinK T S a c=if (Hg.joinK a c).2=true then ((Hg.joinK a c).1,true) else ((zCj T (C.mem S) T a c).getD 0,(zCj T (C.mem S) T a c).isSome):=rfl
 rcases hjk:Hg.joinK a c with ⟨x,is⟩
 rw[hjk]at hj hJ;cases is
 · rw[if_neg (by simp)]at hj;rw[hj];obtain⟨b,A0,c0,XA,xc,pc,pp,A3,c3,mb,jb,A4,c4,A5,c5,A6,c6,es,rfl,af,_,_,aj,ai,aa,_,ae,_⟩:=h.is;obtain⟨F,ah,ag⟩:=ae;have hl:=zSk ah ⟨h1,h2⟩ ⟨h3,h4⟩;have e0:F (zEO a c)=(zCj T (C.mem S) T a c).map (Value.int .i32):=ag a c;rw[e0]at hl;have z6:=af.cell 6 rfl;have ak:=af.lt;obtain⟨o,ho⟩:∃o,zCj T (C.mem S) T a c=o:=⟨_,rfl⟩;rw[ho]at hl ⊢;have e1:(o.map (Value.int .i32)).getD (.int .i32 0)=.int .i32 (o.getD 0):=by cases o <;> rfl
   have e2:(o.map (Value.int .i32)).isSome=o.isSome:=by cases o <;> rfl
   rw[e1,e2]at hl;obtain⟨u,hu⟩:∃u,o.getD 0=u:=⟨_,rfl⟩;obtain⟨t,ht⟩:∃t,o.isSome=t:=⟨_,rfl⟩;rw[hu,ht]at hl ⊢;clear ah ag e0 e1 e2 ho hu ht aa aj ai af h ok hj hjk h1 h2 h3 h4;go_enter Tryz.func139,Tryz.ntmps139;go_wp2_with fail;refine hJ.mono ?_;rintro e w0 ⟨rfl,rfl⟩;clear hJ;go_wp2_with fail;go_ret2;exact⟨rfl,Below.refl _ _⟩
 rw[if_pos rfl]at hj;rw[hj];clear h ok hj hjk h1 h2 h3 h4;go_enter Tryz.func139,Tryz.ntmps139;go_wp2_with fail;refine hJ.mono ?_;rintro e w0 ⟨rfl,rfl⟩;clear hJ;go_wp2_with fail;go_ret2;exact⟨rfl,Below.refl _ _⟩
end Go.Proofs.YtdbpjmfflofadaaGreatDoor
namespace Go.Proofs.YtdbpjmfflofadaaGreatDoor
def Ss.so (f:Int→Int) (l:List Int):Prop:=l.Pairwise fun x y=>f x≤f y
def Ss.eqv (f:Int→Int) (l l':List Int):Prop:=∀k,l'.filter (fun x=>decide (f x=k))=l.filter (fun x=>decide (f x=k))
theorem Ss.eqv.refl (f:Int→Int) (l:List Int):Ss.eqv f l l:=fun _=>rfl
theorem Ss.eqv.trans {f:Int→Int} {a b c:List Int} (h1:Ss.eqv f a b) (h2:Ss.eqv f b c):Ss.eqv f a c:=fun k=>(h2 k).trans (h1 k)
theorem Ss.eqv.symm {f:Int→Int} {a b:List Int} (h1:Ss.eqv f a b):Ss.eqv f b a:=fun k=>(h1 k).symm
theorem Ss.eqv.app {f:Int→Int} {a b a' b':List Int} (h1:Ss.eqv f a a') (h2:Ss.eqv f b b'):Ss.eqv f (a++b) (a'++b'):=fun k=>by
 rw[List.filter_append,List.filter_append,h1 k,h2 k]
theorem zEl {f:Int→Int} {a b:List Int} (h:∀x∈a,∀y∈b,f x≠f y):Ss.eqv f (a++b) (b++a):=fun k=>by
 rw[List.filter_append,List.filter_append]
 by_cases ha:a.filter (fun x=>decide (f x=k))=[]
 · rw[ha,List.append_nil,List.nil_append]
 have hb:b.filter (fun x=>decide (f x=k))=[]:=by
  rw[List.filter_eq_nil_iff];intro y hy hk;obtain⟨x,hx⟩:=List.exists_mem_of_ne_nil _ ha;rw[List.mem_filter]at hx;simp only[decide_eq_true_eq]at hk hx;exact h x hx.1 y hy (hx.2.trans hk.symm)
 rw[hb,List.append_nil,List.nil_append]
theorem Ss.eqv.mem {f:Int→Int} {a b:List Int} (h:Ss.eqv f a b) (x:Int):x∈b↔x∈a:=by
 have:∀l:List Int,x∈l↔x∈l.filter (fun y=>decide (f y=f x)):=fun l=>by rw[List.mem_filter];simp
 rw[this a,this b,h (f x)]
theorem Ss.eqv.perm {f:Int→Int} {a b:List Int} (h:Ss.eqv f a b):b.Perm a:=by
 rw[List.perm_iff_count];intro x;have hc:∀l:List Int,List.count x l=List.count x (l.filter (fun y=>decide (f y=f x))):=fun l=>(List.count_filter (by simp)).symm
 rw[hc a,hc b,h (f x)]
theorem Ss.eqv.length {f:Int→Int} {a b:List Int} (h:Ss.eqv f a b):b.length=a.length:=h.perm.length_eq
theorem Ss.so.app {f:Int→Int} {a b:List Int} (h1:Ss.so f a) (h2:Ss.so f b) (h:∀x∈a,∀y∈b,f x≤f y):Ss.so f (a++b):=List.pairwise_append.2 ⟨h1,h2,h⟩
theorem Ss.so.left {f:Int→Int} {a b:List Int} (h:Ss.so f (a++b)):Ss.so f a:=(List.pairwise_append.1 h).1
theorem Ss.so.right {f:Int→Int} {a b:List Int} (h:Ss.so f (a++b)):Ss.so f b:=(List.pairwise_append.1 h).2.1
theorem Ss.so.cross {f:Int→Int} {a b:List Int} (h:Ss.so f (a++b)):∀x∈a,∀y∈b,f x≤f y:=(List.pairwise_append.1 h).2.2
theorem Ss.unique {f:Int→Int}:∀{a b:List Int},Ss.so f a→Ss.so f b→Ss.eqv f a b→b=a
 | [],b,_,_,h=>List.eq_nil_of_length_eq_zero (by rw[h.length];rfl)
 | x::a,[],_,_,h=>by
   have:=h.length;simp at this
 | x::a,y::b,ha,hb,h=>by
   unfold Ss.so at ha hb;rw[List.pairwise_cons]at ha hb;have hx:x∈y::b:=(h.mem x).2 List.mem_cons_self;have hy:y∈x::a:=(h.mem y).1 List.mem_cons_self
   have h1:f y≤f x:=by
    rcases List.mem_cons.1 hx with e|e
    · rw[e];exact Int.le_refl _
    exact hb.1 x e
   have h2:f x≤f y:=by
    rcases List.mem_cons.1 hy with e|e
    · rw[e];exact Int.le_refl _
    exact ha.1 y e
   have hk:f x=f y:=by omega
   have h3:=h (f x);rw[List.filter_cons,List.filter_cons,if_pos (by simp[hk]),if_pos (by simp)]at h3;have aa:y=x:=(List.cons.inj h3).1;subst aa;rw[Ss.unique ha.2 hb.2 fun k=>?_];have h4:=h k;rw[List.filter_cons,List.filter_cons]at h4;split at h4
   · exact (List.cons.inj h4).2
   exact h4
theorem Ss.insert {f:Int→Int} {s g:List Int} {x:Int} (hs:Ss.so f (s++g)) (h1:∀y∈s,f y≤f x) (h2:∀y∈g,f x<f y):Ss.so f (s++x::g)∧Ss.eqv f (s++g++[x]) (s++x::g):=by
 refine⟨?_,?_⟩
 · refine hs.left.app ?_ ?_
   · exact List.pairwise_cons.2 ⟨fun y hy=>Int.le_of_lt (h2 y hy),hs.right⟩
   intro y hy z hz;rcases List.mem_cons.1 hz with rfl|hz
   · exact h1 y hy
   exact hs.cross y hy z hz
 rw[List.append_assoc];refine (Ss.eqv.refl f s).app ?_
 exact zEl (a:=g) (b:=[x]) fun y hy z hz=>by
  rw[List.mem_singleton]at hz;have:=h2 y hy;rw[hz];omega
theorem zRh {f:Int→Int} {a1 a2 b1 b2 c1 c2:List Int} (ha:Ss.so f (a1++a2)) (hb:Ss.so f (b1++b2)) (h1:∀x∈b1,∀y∈a2,f x<f y) (h2:∀x∈a1,∀y∈b2,f x≤f y)
 (s1:Ss.so f c1) (e1:Ss.eqv f (a1++b1) c1) (s2:Ss.so f c2) (e2:Ss.eqv f (a2++b2) c2):Ss.so f (c1++c2)∧Ss.eqv f ((a1++a2)++(b1++b2)) (c1++c2):=by
 refine⟨s1.app s2 fun x hx y hy=>?_,?_⟩
 · rcases List.mem_append.1 ((e1.mem x).1 hx) with hx|hx <;> rcases List.mem_append.1 ((e2.mem y).1 hy) with hy|hy
   · exact ha.cross x hx y hy
   · exact h2 x hx y hy
   · exact Int.le_of_lt (h1 x hx y hy)
   exact hb.cross x hx y hy
 have g1:Ss.eqv f ((a1++a2)++(b1++b2)) ((a1++b1)++(a2++b2)):=by
  rw[List.append_assoc,List.append_assoc];refine (Ss.eqv.refl f a1).app ?_;rw[←List.append_assoc,←List.append_assoc];refine Ss.eqv.app ?_ (Ss.eqv.refl f b2);exact zEl fun x hx y hy=>by have:=h1 y hy x hx;omega
 exact g1.trans (e1.app e2)
theorem zLh {f:Int→Int} {x:Int} {b1 b2:List Int} (hb:Ss.so f (b1++b2)) (h1:∀y∈b1,f y<f x) (h2:∀y∈b2,f x≤f y):Ss.so f (b1++x::b2)∧Ss.eqv f (x::(b1++b2)) (b1++x::b2):=by
 refine⟨?_,?_⟩
 · refine hb.left.app (List.pairwise_cons.2 ⟨h2,hb.right⟩) ?_;intro y hy z hz;rcases List.mem_cons.1 hz with rfl|hz
   · exact Int.le_of_lt (h1 y hy)
   exact hb.cross y hy z hz
 have:Ss.eqv f ([x]++b1) (b1++[x]):=zEl fun y hy z hz=>by
  rw[List.mem_singleton]at hy;have:=h1 z hz;rw[hy];omega
 have h:=this.app (Ss.eqv.refl f b2);simpa using h
theorem Ss.so.get {f:Int→Int} {l:List Int} (h:Ss.so f l) {i j:Nat} {x y:Int} (hi:l[i]?=some x) (hj:l[j]?=some y) (hij:i≤j):f x≤f y:=by
 obtain⟨a1,b1⟩:=List.getElem?_eq_some_iff.1 hi;obtain⟨a2,b2⟩:=List.getElem?_eq_some_iff.1 hj;rcases Nat.lt_or_ge i j with hl|hl
 · have:=List.pairwise_iff_getElem.1 h i j a1 a2 hl;rw[b1,b2]at this;exact this
 have:i=j:=by omega
 subst this;rw[hi]at hj;cases hj
 exact Int.le_refl _
theorem zEm {l:List Int} {n:Nat} {x:Int} (h:x∈l.take n):∃i,i<n∧l[i]?=some x:=by
 obtain⟨i,hi⟩:=List.mem_iff_getElem?.1 h;rw[List.getElem?_take]at hi;split at hi
 · rename_i h1;exact⟨i,h1,hi⟩
 cases hi
theorem zEn {l:List Int} {n:Nat} {x:Int} (h:x∈l.drop n):∃i,n≤i∧l[i]?=some x:=by
 obtain⟨i,hi⟩:=List.mem_iff_getElem?.1 h;rw[List.getElem?_drop]at hi;exact⟨n+i,by omega,hi⟩
theorem Ss.sym {f:Int→Int} {A B:List Int} {s j:Nat} (hs:s≤A.length) (hj:j≤B.length) (hA:Ss.so f A) (hB:Ss.so f B) (P1:∀x y,A[s]?=some x→0<j→B[j-1]?=some y→f y<f x) (P2:∀x y,0<s→A[s-1]?=some x→B[j]?=some y→f x≤f y) :
 (∀x∈B.take j,∀y∈A.drop s,f x<f y)∧(∀x∈A.take s,∀y∈B.drop j,f x≤f y):=by
 refine⟨fun x hx y hy=>?_,fun x hx y hy=>?_⟩
 · obtain⟨i,hi,ae⟩:=zEm hx;obtain⟨k,hk,aa⟩:=zEn hy;have af:=(List.getElem?_eq_some_iff.1 aa).1;have ag:=(List.getElem?_eq_some_iff.1 ae).1;obtain⟨u,hu⟩:∃u,A[s]?=some u:=⟨_,List.getElem?_eq_getElem (by omega)⟩;obtain⟨v,hv⟩:∃v,B[j-1]?=some v:=⟨_,List.getElem?_eq_getElem (by omega)⟩;have h1:=P1 u v hu (by omega) hv;have h2:=hA.get hu aa hk;have h3:=hB.get ae hv (by omega);omega
 obtain⟨i,hi,ae⟩:=zEm hx;obtain⟨k,hk,aa⟩:=zEn hy;have af:=(List.getElem?_eq_some_iff.1 aa).1;have ag:=(List.getElem?_eq_some_iff.1 ae).1;obtain⟨v,hv⟩:∃v,B[j]?=some v:=⟨_,List.getElem?_eq_getElem (by omega)⟩;obtain⟨u,hu⟩:∃u,A[s-1]?=some u:=⟨_,List.getElem?_eq_getElem (by omega)⟩;have h1:=P2 u v (by omega) hu hv;have h2:=hA.get ae hu (by omega);have h3:=hB.get hv aa hk;omega
theorem zLi (P M Q:List Int) (x y:Int):((P++x::(M++y::Q)).set P.length y).set (P.length+1+M.length) x=P++y::(M++x::Q):=by
 rw[List.set_append_right _ _ (Nat.le_refl _),Nat.sub_self,List.set_cons_zero,List.set_append_right _ _ (by omega),show P.length+1+M.length-P.length=M.length+1 by omega,List.set_cons_succ,List.set_append_right _ _ (Nat.le_refl _),Nat.sub_self,List.set_cons_zero]
theorem zRi (P M Q:List Int) (x y:Int):((P++x::(M++y::Q)).set (P.length+1+M.length) x).set P.length y=P++y::(M++x::Q):=by
 rw[List.set_comm _ _ (by omega),zLi]
theorem zC7 (P R:List Int) (x:Int):(P++x::R)[P.length]?=some x:=by simp
theorem zBw (P M Q:List Int) (x y:Int):(P++x::(M++y::Q))[P.length+1+M.length]?=some y:=by
 rw[List.getElem?_append_right (by omega),show P.length+1+M.length-P.length=M.length+1 by omega,List.getElem?_cons_succ,List.getElem?_append_right (Nat.le_refl _),Nat.sub_self];rfl
def Ss.mid (P X M Y Q:List Int) (t:Nat):List Int:=P++((Y.take t++X.drop t)++(M++((X.take t++Y.drop t)++Q)))
theorem zO8 (P X M Y Q:List Int):Ss.mid P X M Y Q 0=P++(X++(M++(Y++Q))):=by unfold Ss.mid;simp
theorem Ss.mid_all {P X M Y Q:List Int} {n:Nat} (hX:X.length=n) (hY:Y.length=n):Ss.mid P X M Y Q n=P++(Y++(M++(X++Q))):=by
 unfold Ss.mid;rw[List.take_of_length_le (by omega),List.take_of_length_le (by omega),List.drop_of_length_le (by omega),List.drop_of_length_le (by omega)];simp
theorem zO9 {P X M Y Q:List Int} {t:Nat} {x y:Int} (hx:X[t]?=some x) (hy:Y[t]?=some y) :
 Ss.mid P X M Y Q t=(P++Y.take t)++x::((X.drop (t+1)++(M++X.take t))++y::(Y.drop (t+1)++Q))∧Ss.mid P X M Y Q (t+1)=(P++Y.take t)++y::((X.drop (t+1)++(M++X.take t))++x::(Y.drop (t+1)++Q)):=by
 obtain⟨a1,b1⟩:=List.getElem?_eq_some_iff.1 hx;obtain⟨a2,b2⟩:=List.getElem?_eq_some_iff.1 hy;have e1:X.drop t=x::X.drop (t+1):=by rw[List.drop_eq_getElem_cons a1,b1]
 have e2:Y.drop t=y::Y.drop (t+1):=by rw[List.drop_eq_getElem_cons a2,b2]
 have e3:X.take (t+1)=X.take t++[x]:=by rw[List.take_add_one,hx];rfl
 have e4:Y.take (t+1)=Y.take t++[y]:=by rw[List.take_add_one,hy];rfl
 unfold Ss.mid;rw[e1,e2,e3,e4];simp
theorem Ss.mid_len {X M Y:List Int} {P:List Int} {t n:Nat} (hX:X.length=n) (hY:Y.length=n) (ht:t<n):(P++Y.take t).length=P.length+t∧(P++Y.take t).length+1+(X.drop (t+1)++(M++X.take t)).length=P.length+n+M.length+t:=by
 simp;omega
def Ss.chk (f:Int→Int) (bs:Nat) (l:List Int):Prop:=∀i,Ss.so f ((l.drop (i*bs)).take bs)
theorem zKt (f:Int→Int) (bs:Nat):Ss.chk f bs []:=fun i=>by simp[Ss.so]
theorem zD5 {f:Int→Int} {bs k:Nat} {l c:List Int} (hl:l.length=k*bs) (h:Ss.chk f bs l) (hc:Ss.so f c) (aa:c.length≤bs):Ss.chk f bs (l++c):=by
 intro i;rcases Nat.lt_trichotomy i k with hi|hi|hi
 · have h1:(i+1)*bs≤k*bs:=Nat.mul_le_mul_right _ hi;rw[Nat.add_mul,Nat.one_mul]at h1;rw[List.drop_append_of_le_length (by omega),List.take_append_of_le_length (by rw[List.length_drop];omega)];exact h i
 · subst hi;rw[←hl,List.drop_left,List.take_of_length_le aa];exact hc
 have h1:(k+1)*bs≤i*bs:=Nat.mul_le_mul_right _ hi;rw[Nat.add_mul,Nat.one_mul]at h1;rw[List.drop_of_length_le (by rw[List.length_append];omega)];simp[Ss.so]
theorem zPZ {f:Int→Int} {bs:Nat} {l:List Int} (h:Ss.chk f bs l) (hl:l.length≤bs):Ss.so f l:=by
 have:=h 0;rw[Nat.zero_mul,List.drop_zero,List.take_of_length_le hl]at this;exact this
theorem zGB (f:Int→Int):Ss.so f []:=List.Pairwise.nil
theorem zMy (f:Int→Int) (x:Int):Ss.so f [x]:=by simp[Ss.so]
theorem Ss.eqv.nil {f:Int→Int} {l:List Int} (h:Ss.eqv f [] l):l=[]:=List.eq_nil_of_length_eq_zero (by rw[h.length];rfl)
inductive Or.R (f:Int→Int):List Int→List Int→Prop
 | run {a b:List Int}:(∀x∈a,0<f x)→Ss.so f b→Ss.eqv f a b→Or.R f a b
 | cons {a b l m:List Int} {c:Int}:(∀x∈a,0<f x)→Ss.so f b→Ss.eqv f a b→¬0<f c→Or.R f l m→Or.R f (a++c::l) (b++c::m)
theorem Or.split {f:Int→Int}:∀{a a':List Int} {l l':List Int} {c c':Int},(∀x∈a,0<f x)→(∀x∈a',0<f x)→¬0<f c→¬0<f c'→a++c::l=a'++c'::l'→a=a'∧c=c'∧l=l'
 | [],[],l,l',c,c',_,_,_,_,h=>by
   simp at h;exact⟨rfl,h.1,h.2⟩
 | [],y::a',l,l',c,c',_,h2,h3,_,h=>by
   simp at h;exact absurd (h.1▸h2 y List.mem_cons_self) h3
 | x::a,[],l,l',c,c',h1,_,_,h4,h=>by
   simp at h;exact absurd (h.1▸h1 x List.mem_cons_self) h4
 | x::a,y::a',l,l',c,c',h1,h2,h3,h4,h=>by
   simp only[List.cons_append,List.cons.injEq]at h;obtain⟨rfl,h5⟩:=h;obtain⟨g1,g2,g3⟩:=Or.split (fun z hz=>h1 z (List.mem_cons_of_mem _ hz)) (fun z hz=>h2 z (List.mem_cons_of_mem _ hz)) h3 h4 h5;exact⟨by rw[g1],g2,g3⟩
theorem Or.R.unique {f:Int→Int} {l m:List Int} (h:Or.R f l m):∀{m':List Int},Or.R f l m'→m'=m:=by
 induction h with
 | @run a b h1 h2 h3 =>
   intro m' h';generalize he:a=a0 at h';cases h' with
   | run g1 g2 g3=>subst he;exact Ss.unique h2 g2 (h3.symm.trans g3)
   | @cons a' b' l' m'' c' g1 g2 g3 g4 g5 =>
     exact absurd (h1 c' (by rw[he];simp)) g4
 | @cons a b l m c h1 h2 h3 h4 h5 ih =>
   intro m' h';generalize he:a++c::l=a0 at h';cases h' with
   | run g1 g2 g3=>exact absurd (g1 c (by rw[←he];simp)) h4
   | @cons a' b' l' m'' c' g1 g2 g3 g4 g5 =>
     obtain⟨rfl,rfl,rfl⟩:=Or.split h1 g1 h4 g4 he;rw[ih g5,Ss.unique h2 g2 (h3.symm.trans g3)]
inductive Or.Pre (f:Int→Int):List Int→List Int→Prop
 | nil:Or.Pre f [] []
 | snoc {p q a b:List Int} {c:Int}:Or.Pre f p q→(∀x∈a,0<f x)→Ss.so f b→Ss.eqv f a b→¬0<f c→Or.Pre f (p++(a++[c])) (q++(b++[c]))
theorem Or.Pre.app {f:Int→Int} {p q:List Int} (h:Or.Pre f p q):∀{l m:List Int},Or.R f l m→Or.R f (p++l) (q++m):=by
 induction h with
 | nil=>intro l m hr;exact hr
 | @snoc p q a b c h1 h2 h3 h4 h5 ih =>
   intro l m hr;have:=ih (Or.R.cons h2 h3 h4 h5 hr);simpa using this
theorem Or.Pre.length {f:Int→Int} {p q:List Int} (h:Or.Pre f p q):q.length=p.length:=by
 induction h with
 | nil=>rfl
 | snoc h1 h2 h3 h4 h5 ih=>simp[ih,h4.length]
theorem Or.R.length {f:Int→Int} {l m:List Int} (h:Or.R f l m):m.length=l.length:=by
 induction h with
 | run h1 h2 h3=>exact h3.length
 | cons h1 h2 h3 h4 h5 ih=>simp[ih,h3.length]
theorem Or.R.mem {f:Int→Int} {l m:List Int} (h:Or.R f l m) (x:Int):x∈m↔x∈l:=by
 induction h with
 | run h1 h2 h3=>exact h3.mem x
 | cons h1 h2 h3 h4 h5 ih=>simp[ih,h3.mem x]
def zBU (f:Int→Int):Int→List Int→List Int
 | x,[]=>[x]
 | x,y::l=>if 0<f y∧f y<f x then y::zBU f x l else x::zBU f y l
def zC1 (f:Int→Int):List Int→List Int
 | []=>[]
 | x::l=>zBU f x l
def zBx (f:Int→Int):Nat→List Int→List Int
 | 0,l=>l
 | n+1,l=>zBx f n (zC1 f l)
theorem zKu {f:Int→Int} {c:Int} (hc:¬0<f c):∀(l:List Int),zBU f c l=c::zC1 f l
 | []=>rfl
 | y::l=>by
   unfold zBU zC1;rw[if_neg (by omega)]
theorem zHh {f:Int→Int} {c:Int} (hc:¬0<f c):∀(a:List Int) (x:Int) (l:List Int),zBU f x (a++c::l)=zBU f x a++c::zC1 f l
 | [],x,l=>by
   rw[List.nil_append];show (if 0<f c∧f c<f x then _ else x::zBU f c l)=_;rw[if_neg (fun h=>hc h.1),zKu hc];rfl
 | y::a,x,l=>by
   rw[List.cons_append];show (if 0<f y∧f y<f x then y::zBU f x (a++c::l) else x::zBU f y (a++c::l))=(if 0<f y∧f y<f x then y::zBU f x a else x::zBU f y a)++c::zC1 f l;rw[zHh hc a x l,zHh hc a y l];split <;> rfl
theorem zMz {f:Int→Int} {c:Int} (hc:¬0<f c) (a l:List Int):zC1 f (a++c::l)=zC1 f a++c::zC1 f l:=by
 cases a with
 | nil=>exact zKu hc l
 | cons x a=>exact zHh hc a x l
theorem zHM {f:Int→Int} {c:Int} (hc:¬0<f c):∀(n:Nat) (a l:List Int),zBx f n (a++c::l)=zBx f n a++c::zBx f n l
 | 0,a,l=>rfl
 | n+1,a,l=>by
   unfold zBx;rw[zMz hc,zHM hc n]
theorem Or.go_len (f:Int→Int):∀(l:List Int) (x:Int),(zBU f x l).length=l.length+1
 | [],x=>rfl
 | y::l,x=>by
   unfold zBU;split
   · simp[Or.go_len f l x]
   simp[Or.go_len f l y]
theorem zGC (f:Int→Int):∀(l:List Int) (x:Int),Ss.eqv f (x::l) (zBU f x l)
 | [],x=>Ss.eqv.refl _ _
 | y::l,x=>by
   unfold zBU;split
   · rename_i h
     have h1:Ss.eqv f ([x]++[y]) ([y]++[x]):=zEl fun a ha b hb=>by
      rw[List.mem_singleton]at ha hb;rw[ha,hb];omega
     have h2:=h1.app (Ss.eqv.refl f l);have h3:=(Ss.eqv.refl f [y]).app (zGC f l x);exact Ss.eqv.trans (by simpa using h2) (by simpa using h3)
   have h3:=(Ss.eqv.refl f [x]).app (zGC f l y);simpa using h3
theorem zJ4 (f:Int→Int) (l:List Int):Ss.eqv f l (zC1 f l):=by
 cases l with
 | nil=>exact Ss.eqv.refl _ _
 | cons x l=>exact zGC f l x
theorem zC2 (f:Int→Int):∀(n:Nat) (l:List Int),Ss.eqv f l (zBx f n l)
 | 0,l=>Ss.eqv.refl _ _
 | n+1,l=>(zJ4 f l).trans (zC2 f n _)
theorem zHi {f:Int→Int}:∀(l:List Int) (x:Int),(∀y∈x::l,0<f y)→∃k m,zBU f x l=k++[m]∧∀y∈x::l,f y≤f m
 | [],x,h=>⟨[],x,rfl,fun y hy=>by rw[List.mem_singleton]at hy;rw[hy];exact Int.le_refl _⟩
 | y::l,x,h=>by
   unfold zBU;split
   · rename_i hc;obtain⟨k,m,h1,h2⟩:=zHi l x (fun z hz=>h z (by rcases List.mem_cons.1 hz with rfl|hz;exact List.mem_cons_self;exact List.mem_cons_of_mem _ (List.mem_cons_of_mem _ hz)));refine⟨y::k,m,by rw[h1];rfl,fun z hz=>?_⟩;rcases List.mem_cons.1 hz with rfl|hz
     · exact h2 z List.mem_cons_self
     rcases List.mem_cons.1 hz with rfl|hz
     · have:=h2 x List.mem_cons_self;omega
     exact h2 z (List.mem_cons_of_mem _ hz)
   rename_i hc;obtain⟨k,m,h1,h2⟩:=zHi l y (fun z hz=>h z (List.mem_cons_of_mem _ hz));refine⟨x::k,m,by rw[h1];rfl,fun z hz=>?_⟩;rcases List.mem_cons.1 hz with rfl|hz
   · have h3:=h2 y List.mem_cons_self;have h4:=h y (List.mem_cons_of_mem _ List.mem_cons_self);omega
   exact h2 z hz
theorem zHj {f:Int→Int} {m:Int}:∀(k:List Int) (x:Int),(∀y∈x::k,f y≤f m)→zBU f x (k++[m])=zBU f x k++[m]
 | [],x,h=>by
   show (if 0<f m∧f m<f x then _ else _)=_;rw[if_neg (by have:=h x List.mem_cons_self;omega)];rfl
 | y::k,x,h=>by
   rw[List.cons_append];unfold zBU;rw[zHj k x (fun z hz=>h z (by rcases List.mem_cons.1 hz with rfl|hz;exact List.mem_cons_self;exact List.mem_cons_of_mem _ (List.mem_cons_of_mem _ hz))),zHj k y (fun z hz=>h z (List.mem_cons_of_mem _ hz))];split <;> rfl
theorem zMA {f:Int→Int} {m:Int} (k:List Int) (h:∀y∈k,f y≤f m):zC1 f (k++[m])=zC1 f k++[m]:=by
 cases k with
 | nil=>rfl
 | cons x k=>exact zHj k x h
theorem zHN {f:Int→Int} {m:Int}:∀(n:Nat) (k:List Int),(∀y∈k,f y≤f m)→zBx f n (k++[m])=zBx f n k++[m]
 | 0,k,h=>rfl
 | n+1,k,h=>by
   unfold zBx;rw[zMA k h,zHN n _ fun y hy=>h y (((zJ4 f k).mem y).1 hy)]
theorem zFx {f:Int→Int}:∀(n:Nat) (l:List Int),l.length≤n→(∀x∈l,0<f x)→Ss.so f (zBx f n l)
 | 0,l,hl,_=>by
   obtain rfl:l=[]:=List.eq_nil_of_length_eq_zero (by omega);exact zGB f
 | n+1,[],_,_=>by
   have:∀n,zBx f n []=[]:=by
    intro n
    induction n with
    | zero=>rfl
    | succ n ih=>exact ih
   rw[this];exact zGB f
 | n+1,x::l,hl,h=>by
   show Ss.so f (zBx f n (zBU f x l));obtain⟨k,m,h1,h2⟩:=zHi l x h;have hq:=zGC f l x;rw[h1]at hq ⊢;have hk:∀y∈k,y∈x::l:=fun y hy=>(hq.mem y).1 (by simp[hy])
   have hlen:=hq.length;rw[zHN n k fun y hy=>h2 y (hk y hy)];refine (zFx n k (by simp at hlen hl;omega) fun y hy=>h y (hk y hy)).app (zMy f m) fun a ha b hb=>?_
   rw[List.mem_singleton]at hb;rw[hb];exact h2 a (hk a (((zC2 f n k).mem a).1 ha))
theorem zMB {f:Int→Int} (n:Nat):∀(j:Nat) (l:List Int),l.length≤j→j≤n→Or.R f l (zBx f n l)
 | 0,l,hl,hn=>by
   obtain rfl:l=[]:=List.eq_nil_of_length_eq_zero (by omega);refine .run (fun x hx=>by simp at hx) (zFx n [] (by simp) (fun x hx=>by simp at hx)) (zC2 f n [])
 | j+1,l,hl,hn=>by
   by_cases h:∀x∈l,0<f x
   · exact .run h (zFx n l (by omega) h) (zC2 f n l)
   have he:=List.takeWhile_append_dropWhile (p:=fun x=>decide (0<f x)) (l:=l);have ht:∀x∈l.takeWhile (fun x=>decide (0<f x)),0<f x:=fun x hx=>by simpa using List.all_eq_true.1 (List.all_takeWhile (l:=l) (p:=fun x=>decide (0<f x))) x hx
   cases hd:l.dropWhile (fun x=>decide (0<f x)) with
   | nil =>
     rw[hd,List.append_nil]at he;exact absurd (fun x hx=>ht x (by rw[he];exact hx)) h
   | cons c r =>
     have hc:¬0<f c:=by
      have:=List.head?_dropWhile_not (fun x=>decide (0<f x)) l;rw[hd]at this;simpa using this
     rw[hd]at he;have hlen:=congrArg List.length he;simp at hlen;rw[←he,zHM hc];exact .cons ht (zFx n _ (by omega) ht) (zC2 f n _) hc (zMB n j r (by omega) (by omega))
theorem zSl (f:Int→Int) (l:List Int):Or.R f l (zBx f l.length l):=zMB l.length l.length l (Nat.le_refl _) (Nat.le_refl _)
def Or.of (f:Int→Int) (l:List Int):List Int:=zBx f l.length l
theorem zCo (f:Int→Int) (l:List Int):Or.R f l (Or.of f l):=zSl f l
theorem zRj (f:Int→Int) (l:List Int):(Or.of f l).length=l.length:=(zCo f l).length
theorem Or.cut (f:Int→Int):∀l:List Int,(∀x∈l,0<f x)∨∃a c m,l=a++c::m∧(∀x∈a,0<f x)∧¬0<f c
 | []=>.inl fun x h=>absurd h List.not_mem_nil
 | y::l=>by
   by_cases h:0<f y
   · rcases Or.cut f l with h1|⟨a,c,m,rfl,h1,h2⟩
     · exact .inl fun x hx=>by rcases List.mem_cons.1 hx with rfl|hx;exact h;exact h1 x hx
     exact .inr ⟨y::a,c,m,rfl,fun x hx=>by rcases List.mem_cons.1 hx with rfl|hx;exact h;exact h1 x hx,h2⟩
   exact .inr ⟨[],y,l,rfl,fun x hx=>absurd hx List.not_mem_nil,h⟩
inductive Or.Q (f:Int→Int):List Int→List Int→Prop
 | run {a b:List Int}:(∀x∈a,0<f x)→Ss.eqv f a b→Or.Q f a b
 | cons {a b l m:List Int} {c:Int}:(∀x∈a,0<f x)→Ss.eqv f a b→¬0<f c→Or.Q f l m→Or.Q f (a++c::l) (b++c::m)
theorem Ss.eqv.pos {f:Int→Int} {a b:List Int} (h:Ss.eqv f a b) (ha:∀x∈a,0<f x):∀x∈b,0<f x:=fun x hx=>ha x ((h.mem x).1 hx)
theorem Or.R.toQ {f:Int→Int} {l m:List Int} (h:Or.R f l m):Or.Q f l m:=by
 induction h with
 | run h1 h2 h3=>exact .run h1 h3
 | cons h1 h2 h3 h4 h5 ih=>exact .cons h1 h3 h4 ih
theorem Or.Q.symm {f:Int→Int} {l m:List Int} (h:Or.Q f l m):Or.Q f m l:=by
 induction h with
 | run h1 h2=>exact .run (h2.pos h1) h2.symm
 | cons h1 h2 h3 h4 ih=>exact .cons (h2.pos h1) h2.symm h3 ih
theorem Or.Q.R {f:Int→Int} {l m:List Int} (h:Or.Q f l m):∀{r:List Int},Or.R f l r→Or.R f m r:=by
 induction h with
 | @run a b h1 h2 =>
   intro r h';generalize he:a=a0 at h';cases h' with
   | run g1 g2 g3=>subst he;exact .run (h2.pos h1) g2 (h2.symm.trans g3)
   | @cons a' b' l' m'' c' g1 g2 g3 g4 g5=>exact absurd (h1 c' (by rw[he];simp)) g4
 | @cons a b l m c h1 h2 h3 h4 ih =>
   intro r h';generalize he:a++c::l=a0 at h';cases h' with
   | run g1 g2 g3=>exact absurd (g1 c (by rw[←he];simp)) h3
   | @cons a' b' l' m'' c' g1 g2 g3 g4 g5 =>
     obtain⟨rfl,rfl,rfl⟩:=Or.split h1 g1 h3 g4 he;exact .cons (h2.pos h1) g2 (h2.symm.trans g3) h3 (ih g5)
theorem Or.Q.of {f:Int→Int} {l m:List Int} (h:Or.Q f l m):Or.of f l=Or.of f m:=(h.R (zCo f l)).unique (zCo f m) |>.symm
theorem zRk (f:Int→Int) (l:List Int):Or.Q f l (Or.of f l):=(zCo f l).toQ
theorem Or.Q.trans {f:Int→Int} {l m r:List Int} (h:Or.Q f l m) (h':Or.Q f m r):Or.Q f l r:=by
 have h1:=h'.R (h.R (zCo f l))
 have:∀{x y},Or.R f x y→∀{z},Or.R f z y→Or.Q f x z:=by
  intro x y aa
  induction aa with
  | @run a b g1 g2 g3 =>
    intro z hz;generalize he:b=b0 at hz;cases hz with
    | run k1 k2 k3=>subst he;exact .run g1 (g3.trans k3.symm)
    | @cons a' b' l' m'' c' k1 k2 k3 k4 k5=>exact absurd (g3.pos g1 c' (by rw[he];simp)) k4
  | @cons a b l m c g1 g2 g3 g4 g5 ih =>
    intro z hz;generalize he:b++c::m=b0 at hz;cases hz with
    | run k1 k2 k3=>exact absurd (k3.pos k1 c (by rw[←he];simp)) g4
    | @cons a' b' l' m'' c' k1 k2 k3 k4 k5 =>
      obtain⟨rfl,rfl,rfl⟩:=Or.split (g3.pos g1) (k3.pos k1) g4 k4 he;exact .cons g1 (g3.trans k3.symm) g4 (ih k5)
 exact this (zCo f l) h1
theorem Or.Q.refl (f:Int→Int) (l:List Int):Or.Q f l l:=(zRk f l).trans (zRk f l).symm
theorem Or.Q.app {f:Int→Int} {l m p q:List Int} (h:Or.Q f l m) (h':Or.Q f p q):Or.Q f (l++p) (m++q):=by
 induction h with
 | @run a b h1 h2 =>
   cases h' with
   | run g1 g2=>exact .run (fun x hx=>by rcases List.mem_append.1 hx with h|h;exact h1 x h;exact g1 x h) (h2.app g2)
   | @cons a' b' l' m' c g1 g2 g3 g4 =>
     rw[←List.append_assoc,←List.append_assoc];exact .cons (fun x hx=>by rcases List.mem_append.1 hx with h|h;exact h1 x h;exact g1 x h) (h2.app g2) g3 g4
 | @cons a b l m c h1 h2 h3 h4 ih =>
   rw[List.append_assoc,List.append_assoc,List.cons_append,List.cons_append];exact .cons h1 h2 h3 ih
def Or.inB (f:Int→Int):Int→List Int→Bool
 | _,[]=>true
 | last,c::l=>if 0<f c∧f c<last then false else Or.inB f (f c) l
theorem zHk {f:Int→Int}:∀(a:List Int) (last:Int),(∀x∈a,0<f x)→(Or.inB f last a=true↔(∀x∈a,last≤f x)∧Ss.so f a)
 | [],last,_=>by simp[Or.inB,Ss.so]
 | c::a,last,h=>by
   have hc:=h c List.mem_cons_self;have ih:=zHk a (f c) fun x hx=>h x (List.mem_cons_of_mem _ hx)
   unfold Or.inB Ss.so;rw[List.pairwise_cons]
   by_cases h1:f c<last
   · rw[if_pos ⟨hc,h1⟩];simp only[Bool.false_eq_true,false_iff,not_and];intro h2;have:=h2 c List.mem_cons_self;omega
   rw[if_neg (fun h=>h1 h.2),ih];constructor
   · rintro⟨h2,h3⟩;exact⟨fun x hx=>by rcases List.mem_cons.1 hx with rfl|hx;omega;have:=h2 x hx;omega,h2,h3⟩
   rintro⟨h2,h3,h4⟩;exact⟨h3,h4⟩
theorem zHl {f:Int→Int} {c:Int} (hc:¬0<f c) (m:List Int):∀(a:List Int) (last:Int),Or.inB f last (a++c::m)=(Or.inB f last a&&Or.inB f (f c) m)
 | [],last=>by
   rw[List.nil_append]
   conv=>lhs;unfold Or.inB
   rw[if_neg (fun h=>hc h.1)];rfl
 | y::a,last=>by
   have ih:=zHl hc m a (f y);rw[List.cons_append];show (if 0<f y∧f y<last then false else Or.inB f (f y) (a++c::m))=((if 0<f y∧f y<last then false else Or.inB f (f y) a)&&Or.inB f (f c) m);split
   · rfl
   exact ih
theorem Or.R.inB {f:Int→Int} (h0:∀x,0≤f x) {l m:List Int} (h:Or.R f l m):Or.inB f 0 m=true:=by
 induction h with
 | @run a b h1 h2 h3=>exact (zHk b 0 (h3.pos h1)).2 ⟨fun x _=>h0 x,h2⟩
 | @cons a b l m c h1 h2 h3 h4 h5 ih =>
   have aa:f c=0:=by have:=h0 c;omega
   rw[zHl h4,aa,ih,(zHk b 0 (h3.pos h1)).2 ⟨fun x _=>h0 x,h2⟩];rfl
theorem zMC {f:Int→Int} {c:Int} (hc:¬0<f c) (l m:List Int):Or.of f (l++c::m)=Or.of f l++Or.of f (c::m):=by
 have h1:∀{l r:List Int},Or.R f l r→∀{m s:List Int},Or.R f (c::m) (c::s)→Or.R f (l++c::m) (r++c::s):=by
  intro l r h
  induction h with
  | run h1 h2 h3 =>
    intro m s hs;generalize he:c::m=x at hs;generalize he2:c::s=y at hs;cases hs with
    | run g1 g2 g3=>exact absurd (g1 c (by rw[←he];simp)) hc
    | @cons a' b' l' m'' c' g1 g2 g3 g4 g5 =>
      obtain⟨rfl,rfl,rfl⟩:=Or.split (a:=[]) (fun x hx=>absurd hx List.not_mem_nil) g1 hc g4 (by simpa using he);obtain rfl:=g3.nil;simp at he2;obtain rfl:=he2;exact .cons h1 h2 h3 hc g5
  | cons h1 h2 h3 h4 h5 ih =>
    intro m s hs;rw[List.append_assoc,List.append_assoc,List.cons_append,List.cons_append];exact .cons h1 h2 h3 h4 (ih hs)
 have h2:Or.R f (c::m) (c::Or.of f m):=.cons (a:=[]) (b:=[]) (fun x hx=>absurd hx List.not_mem_nil) List.Pairwise.nil (Ss.eqv.refl _ _) hc (zCo f m);have e:Or.of f (c::m)=c::Or.of f m:=h2.unique (zCo f _);rw[e];exact (h1 (zCo f l) h2).unique (zCo f _)
theorem zKv {f:Int→Int} {c:Int} (hc:¬0<f c) (m:List Int):Or.of f (c::m)=c::Or.of f m :=
 (Or.R.cons (a:=[]) (b:=[]) (fun x hx=>absurd hx List.not_mem_nil) List.Pairwise.nil (Ss.eqv.refl _ _) hc (zCo f m)).unique (zCo f _)
def zC8 (f:Int→Int) (B:List Int):Int:=B.foldl (fun m x=>max m (f x)) (-1)
theorem zGa (f:Int→Int) (B:List Int) (c:Int):zC8 f (B++[c])=max (zC8 f B) (f c):=by unfold zC8;rw[List.foldl_append];rfl
theorem zMD (f:Int→Int):∀(B:List Int) (m n:Int),B.foldl (fun m x=>max m (f x)) m<n↔m<n∧∀x∈B,f x<n
 | [],m,n=>by simp
 | y::B,m,n=>by
   rw[List.foldl_cons,zMD f B];simp only[List.mem_cons,forall_eq_or_imp,Int.max_lt,and_assoc]
theorem zME (f:Int→Int) (B:List Int) (n:Int):zC8 f B<n ↔ -1<n∧∀x∈B,f x<n:=zMD f B (-1) n
structure Nc.St where
 pre:List Int
 b:Option Int
 B:List Int
def Nc.St.out (s:Nc.St):List Int:=s.pre++(s.b.toList++s.B)
def Nc.app (f:Int→Int) (s:Nc.St) (c:Int):Nc.St:=if f c=0 then ⟨s.out,some c,[]⟩ else ⟨s.pre,s.b,s.B++[c]⟩
def Nc.hit (f:Int→Int) (j:Int→Int→Option Int) (s:Nc.St) (c:Int):Option Int:=if zC8 f s.B<f c then s.b.bind fun x=>j x c else none
def Nc.put (f:Int→Int) (j:Int→Int→Option Int) (s:Nc.St) (c:Int):Nc.St:=match Nc.hit f j s c with
 | some p=>⟨s.pre,some p,s.B⟩
 | none=>Nc.app f s c
def Nc.s0:Nc.St:=⟨[],none,[]⟩
def Nc.run (f:Int→Int) (j:Int→Int→Option Int) (s:Nc.St) (l:List Int):Nc.St:=l.foldl (Nc.put f j) s
def Nc.join (f:Int→Int) (j:Int→Int→Option Int) (l:List Int):List Int:=(Nc.run f j Nc.s0 l).out
section
variable {f:Int→Int} {j:Int→Int→Option Int}
theorem zAs (s:Nc.St) (c:Int):(Nc.app f s c).out=s.out++[c]:=by
 unfold Nc.app;split
 · simp[Nc.St.out]
 simp[Nc.St.out]
theorem zC3 {s:Nc.St} {c p:Int} (h:Nc.hit f j s c=some p):∃x,s.b=some x∧j x c=some p∧zC8 f s.B<f c:=by
 unfold Nc.hit at h;split at h
 · rename_i hl;obtain⟨x,h1,h2⟩:=Option.bind_eq_some_iff.1 h;exact⟨x,h1,h2,hl⟩
 cases h
theorem zHm (s:Nc.St) (l m:List Int):Nc.run f j s (l++m)=Nc.run f j (Nc.run f j s l) m:=List.foldl_append ..
theorem zQ0 (s:Nc.St) (c:Int):(Nc.put f j s c).out.length=s.out.length∧0<s.out.length∨(Nc.put f j s c).out.length=s.out.length+1:=by
 unfold Nc.put;cases h:Nc.hit f j s c with
 | some p =>
   obtain⟨x,hb,_,_⟩:=zC3 h;left
   simp[Nc.St.out,hb];omega
 | none=>right;simp[zAs]
theorem Nc.run_len:∀(l:List Int) (s:Nc.St),s.out.length≤(Nc.run f j s l).out.length∧(Nc.run f j s l).out.length≤s.out.length+l.length∧(l≠[]→0<(Nc.run f j s l).out.length)
 | [],s=>by simp[Nc.run]
 | c::l,s=>by
   have h1:=Nc.run_len l (Nc.put f j s c);have h2:=zQ0 (f:=f) (j:=j) s c;have e:Nc.run f j s (c::l)=Nc.run f j (Nc.put f j s c) l:=rfl;rw[e];simp only[List.length_cons];refine⟨by omega,by omega,fun _=>by omega⟩
theorem zJ5 (l:List Int):(Nc.join f j l).length≤l.length∧(l≠[]→0<(Nc.join f j l).length):=by
 have:=Nc.run_len (f:=f) (j:=j) l Nc.s0;unfold Nc.join;exact⟨by have h:=this.2.1;simpa [Nc.s0,Nc.St.out] using h,this.2.2⟩
def Nc.ahead (P:List Int) (s:Nc.St):Nc.St:=⟨P++s.pre,s.b,s.B⟩
theorem zHO (P:List Int) (s:Nc.St):(Nc.ahead P s).out=P++s.out:=by simp[Nc.ahead,Nc.St.out]
theorem zMF (P:List Int) (s:Nc.St) (c:Int):Nc.put f j (Nc.ahead P s) c=Nc.ahead P (Nc.put f j s c):=by
 have e:Nc.hit f j (Nc.ahead P s) c=Nc.hit f j s c:=rfl;unfold Nc.put;rw[e];cases Nc.hit f j s c with
 | some p=>rfl
 | none =>
   show Nc.app f (Nc.ahead P s) c=Nc.ahead P (Nc.app f s c);unfold Nc.app
   by_cases h:f c=0
   · rw[if_pos h,if_pos h,zHO];rfl
   rw[if_neg h,if_neg h];simp[Nc.ahead]
theorem zHP (P:List Int):∀(l:List Int) (s:Nc.St),Nc.run f j (Nc.ahead P s) l=Nc.ahead P (Nc.run f j s l)
 | [],s=>rfl
 | c::l,s=>by
   show Nc.run f j (Nc.put f j (Nc.ahead P s) c) l=_;rw[zMF,zHP P l];rfl
theorem zJ6 {s:Nc.St} {c:Int} (h:∀x,j x c=none):Nc.put f j s c=Nc.app f s c:=by
 unfold Nc.put;cases hh:Nc.hit f j s c with
 | none=>rfl
 | some p =>
   obtain⟨x,_,h2,_⟩:=zC3 hh;rw[h x]at h2;cases h2
theorem zOa {c:Int} (hc:f c=0) (h:∀x,j x c=none) (l m:List Int):Nc.join f j (l++c::m)=Nc.join f j l++Nc.join f j (c::m):=by
 have e0:Nc.run f j Nc.s0 (c::m)=Nc.run f j ⟨[],some c,[]⟩ m:=by
  show Nc.run f j (Nc.put f j Nc.s0 c) m=_;rw[zJ6 h];unfold Nc.app;rw[if_pos hc];rfl
 unfold Nc.join;rw[zHm,e0];show (Nc.run f j (Nc.put f j (Nc.run f j Nc.s0 l) c) m).out=_;rw[zJ6 h];unfold Nc.app;rw[if_pos hc,←zHO,←zHP];simp[Nc.ahead]
theorem zOb (c:Int):Nc.join f j [c]=[c]:=by
 unfold Nc.join;show (Nc.put f j Nc.s0 c).out=_;have:Nc.hit f j Nc.s0 c=none:=by unfold Nc.hit;split <;> rfl
 unfold Nc.put;rw[this];show (Nc.app f Nc.s0 c).out=_;rw[zAs];rfl
structure Nc.Fit (f:Int→Int) (j:Int→Int→Option Int) (full:Int→List Int):Prop where
 nn:∀x,0≤f x
 cls:∀x c p,j x c=some p→f p=0
 full:∀x c p,full c=[c]→j x c=some p→full p=full x++[c]
variable {full:Int→List Int}
def Nc.fl (full:Int→List Int) (l:List Int):List Int:=l.flatMap full
structure Nc.Ok (f:Int→Int) (full:Int→List Int) (s:Nc.St):Prop where
 bz:∀x,s.b=some x→f x=0
 pos:∀x∈s.B,0<f x
 plain:∀x∈s.B,full x=[x]
theorem zRl (H:Nc.Fit f j full) {s:Nc.St} (h:Nc.Ok f full s) {c:Int} (hc:full c=[c]):Nc.Ok f full (Nc.put f j s c):=by
 unfold Nc.put;cases hh:Nc.hit f j s c with
 | some p =>
   obtain⟨x,h1,h2,h3⟩:=zC3 hh;exact⟨fun y hy=>(by cases hy;exact H.cls _ _ _ h2),h.pos,h.plain⟩
 | none =>
   unfold Nc.app;dsimp only;split
   · rename_i h0;exact⟨fun y hy=>(by cases hy;exact h0),fun x hx=>absurd hx List.not_mem_nil,fun x hx=>absurd hx List.not_mem_nil⟩
   rename_i h0;have:=H.nn c;refine⟨h.bz,fun x hx=>?_,fun x hx=>?_⟩
   · rcases List.mem_append.1 hx with h1|h1
     · exact h.pos x h1
     rw[List.mem_singleton]at h1;subst h1;omega
   rcases List.mem_append.1 hx with h1|h1
   · exact h.plain x h1
   rw[List.mem_singleton]at h1;subst h1;exact hc
end
section
variable {f:Int→Int} {j:Int→Int→Option Int} {full:Int→List Int}
def Nc.g (f:Int→Int) (l:List Int):Int:=(l.getLast?.map f).getD 0
theorem zCe (l:List Int) (c:Int):Nc.g f (l++[c])=f c:=by simp[Nc.g]
theorem zLj (l m:List Int) (h:m≠[]):Nc.g f (l++m)=Nc.g f m:=by
 unfold Nc.g;rw[List.getLast?_append];cases hm:m.getLast? with
 | none=>exact absurd (List.getLast?_eq_none_iff.1 hm) h
 | some x=>rfl
theorem zJ7:∀(l:List Int) (last c:Int),Or.inB f last (l++[c])=(Or.inB f last l&&!(decide (0<f c)&&decide (f c<if l=[] then last else Nc.g f l)))
 | [],last,c=>by
   show (if 0<f c∧f c<last then false else true)=(true&&_)
   by_cases h:0<f c∧f c<last
   · simp[h.1,h.2]
   rw[if_neg h];simp;omega
 | y::l,last,c=>by
   have ih:=zJ7 l (f y) c;rw[List.cons_append];show (if 0<f y∧f y<last then false else Or.inB f (f y) (l++[c]))=((if 0<f y∧f y<last then false else Or.inB f (f y) l)&&_);split
   · rfl
   rw[ih];congr 4;rw[if_neg (List.cons_ne_nil y l)]
   by_cases hl:l=[]
   · subst hl;rfl
   rw[if_neg hl];rw[show Nc.g f (y::l)=Nc.g f l from zLj [y] l hl]
theorem zHn (l:List Int) (c:Int):Or.inB f 0 (l++[c])=true↔Or.inB f 0 l=true∧(0<f c→Nc.g f l≤f c):=by
 rw[zJ7]
 have:(if l=[] then (0:Int) else Nc.g f l)=Nc.g f l:=by
  split
  · rename_i h;subst h;rfl
  rfl
 rw[this,Bool.and_eq_true];simp;omega
structure Nc.Inv (f:Int→Int) (j:Int→Int→Option Int) (full:Int→List Int) (d:List Int) (s:Nc.St):Prop where
 ok:Nc.Ok f full s
 sorted:Or.inB f 0 s.out=true
 le:Nc.g f s.out≤Nc.g f d
 base:∀x,s.b=some x→Or.inB f 0 (full x)=true∧Nc.g f (full x)≤Nc.g f d∧Nc.run f j Nc.s0 (full x)=⟨[],some x,[]⟩
 done:∀x∈s.out,Or.inB f 0 (full x)=true∧Nc.join f j (full x)=[x]∧(x∈d∨(f x=0∧∃a M,full x=a::M∧f a=0))
 head:∀x,s.b=some x→∃a M,full x=a::M∧f a=0
theorem zQ1:zC8 f [] = -1:=rfl
theorem zKw (c:Int) (h:0≤f c):Or.inB f 0 [c]=true:=by
 unfold Or.inB;rw[if_neg (by omega)];rfl
theorem zKx (s:Nc.St) (x:Int) (hx:f x=0):Or.inB f 0 (s.pre++([x]++s.B))=(Or.inB f 0 s.pre&&Or.inB f 0 s.B):=by
 have:=zHl (f:=f) (c:=x) (by omega) s.B s.pre 0;rw[hx]at this;exact this
theorem Nc.Inv.step (H:Nc.Fit f j full) {d:List Int} {s:Nc.St} (h:Nc.Inv f j full d s) {c:Int} (hc:full c=[c]) (hd:0<f c→Nc.g f d≤f c):Nc.Inv f j full (d++[c]) (Nc.put f j s c):=by
 have aa:=zRl H h.ok hc;have af:=H.nn c;have ak:0<f c→Nc.g f s.out≤f c:=fun h0=>by have:=hd h0;have:=h.le;omega
 cases hh:Nc.hit f j s c with
 | some p =>
   have e:Nc.put f j s c=⟨s.pre,some p,s.B⟩:=by unfold Nc.put;rw[hh]
   rw[e]at aa ⊢;obtain⟨x,h1,h2,h3⟩:=zC3 hh;have hx:=h.ok.bz x h1;have hp:=H.cls _ _ _ h2;have hf:=H.full x c p hc h2;obtain⟨b1,b2,b3⟩:=h.base x h1;obtain⟨a,M,aj,ae⟩:=h.head x h1;have eo:s.out=s.pre++([x]++s.B):=by unfold Nc.St.out;rw[h1];rfl
   have ah:=h.sorted;rw[eo,zKx s x hx]at ah
   have ai:Or.inB f 0 (full p)=true:=by
    rw[hf,zHn];exact⟨b1,fun h0=>by have:=hd h0;omega⟩
   have ag:Nc.run f j Nc.s0 (full p)=⟨[],some p,[]⟩:=by
    rw[hf,zHm,b3];show Nc.put f j ⟨[],some x,[]⟩ c=_;unfold Nc.put Nc.hit;rw[if_pos (by rw[zQ1];omega)];simp[h2]
   refine⟨aa,?_,?_,?_,?_,?_⟩
   · show Or.inB f 0 (s.pre++([p]++s.B))=true;rw[zKx s p hp];exact ah
   · show Nc.g f (s.pre++([p]++s.B))≤_;rw[zCe]
     by_cases hB:s.B=[]
     · rw[hB,List.append_nil,zCe];omega
     rw[zLj _ _ (by simp),zLj _ _ hB];rw[zME]at h3;unfold Nc.g;cases hl:s.B.getLast? with
     | none=>simp;omega
     | some y =>
       have:=h3.2 y (List.mem_of_getLast? hl);simp;omega
   · intro y hy;cases hy
     exact⟨ai,by rw[hf,zCe,zCe];exact Int.le_refl _,ag⟩
   · intro y hy;have hy':y∈s.pre++([p]++s.B):=hy;simp only[List.mem_append,List.mem_singleton]at hy';rcases hy' with h4|rfl|h4
     · obtain⟨k1,k2,k3⟩:=h.done y (by rw[eo];simp[h4]);exact⟨k1,k2,k3.imp (fun h=>List.mem_append_left _ h) id⟩
     · exact⟨ai,by unfold Nc.join;rw[ag];rfl,.inr ⟨hp,a,M++[c],by rw[hf,aj];rfl,ae⟩⟩
     obtain⟨k1,k2,k3⟩:=h.done y (by rw[eo];simp[h4]);exact⟨k1,k2,k3.imp (fun h=>List.mem_append_left _ h) id⟩
   intro y hy;cases hy
   exact⟨a,M++[c],by rw[hf,aj];rfl,ae⟩
 | none =>
   have e:Nc.put f j s c=Nc.app f s c:=by unfold Nc.put;rw[hh]
   rw[e]at aa ⊢;refine⟨aa,?_,?_,?_,?_,?_⟩
   · rw[zAs,zHn];exact⟨h.sorted,ak⟩
   · rw[zAs,zCe,zCe];exact Int.le_refl _
   · intro y hy;unfold Nc.app at hy
     by_cases h0:f c=0
     · rw[if_pos h0]at hy;obtain rfl:c=y:=by simpa using hy
       refine⟨by rw[hc];exact zKw _ af,by rw[hc,zCe,show Nc.g f [c]=f c from zCe [] c];exact Int.le_refl _,?_⟩;rw[hc];show Nc.put f j Nc.s0 c=_;unfold Nc.put;rw[show Nc.hit f j Nc.s0 c=none by unfold Nc.hit;split <;> rfl];unfold Nc.app;dsimp only;rw[if_pos h0];rfl
     rw[if_neg h0]at hy;obtain⟨k1,k2,k3⟩:=h.base y hy;refine⟨k1,?_,k3⟩;rw[zCe];have:=hd (by omega);omega
   · intro y hy;rw[zAs]at hy;rcases List.mem_append.1 hy with h4|h4
     · obtain⟨k1,k2,k3⟩:=h.done y h4;exact⟨k1,k2,k3.imp (fun h=>List.mem_append_left _ h) id⟩
     rw[List.mem_singleton]at h4;subst h4;exact⟨by rw[hc];exact zKw _ af,by rw[hc];exact zOb _,.inl (by simp)⟩
   intro y hy;unfold Nc.app at hy
   by_cases h0:f c=0
   · rw[if_pos h0]at hy;obtain rfl:c=y:=by simpa using hy
     exact⟨c,[],hc,h0⟩
   rw[if_neg h0]at hy;exact h.head y hy
theorem Nc.Inv.run (H:Nc.Fit f j full):∀(l d:List Int) (s:Nc.St),Nc.Inv f j full d s→(∀c∈l,full c=[c])→Or.inB f 0 (d++l)=true→Nc.Inv f j full (d++l) (Nc.run f j s l)
 | [],d,s,h,_,_=>by rw[List.append_nil];exact h
 | c::l,d,s,h,hl,hi=>by
   have e:d++c::l=(d++[c])++l:=by simp
   rw[e]at hi ⊢;refine Nc.Inv.run H l (d++[c]) (Nc.put f j s c) (h.step H (hl c List.mem_cons_self) fun h0=>?_) (fun x hx=>hl x (List.mem_cons_of_mem _ hx)) hi
   have:Or.inB f 0 (d++[c])=true:=by
    have:∀(m l:List Int) (t:Int),Or.inB f t (l++m)=true→Or.inB f t l=true:=by
     intro m l
     induction l with
     | nil=>intro t _;rfl
     | cons y l ih =>
       intro t ht;rw[List.cons_append]at ht;unfold Or.inB at ht ⊢;split
       · rename_i hh;rw[if_pos hh]at ht;exact ht
       rename_i hh;rw[if_neg hh]at ht;exact ih _ ht
    exact this l _ 0 hi
   exact ((zHn d c).1 this).2 h0
end
end Go.Proofs.YtdbpjmfflofadaaGreatDoor
namespace Go.Proofs.YtdbpjmfflofadaaGreatDoor
open Go.RowKit
end Go.Proofs.YtdbpjmfflofadaaGreatDoor
namespace Go.Proofs.YtdbpjmfflofadaaGreatDoor
theorem So.cmp_isNaN_int (x:Int) (w:World):Calls Tryz.prog 217 #[.int .i32 x] w fun e w'=>e=.returned (.bool false)∧w'=w:=by
 go_enter Tryz.func217,Tryz.ntmps217;go_wp2;go_ret;exact⟨by simp,rfl⟩
theorem So.cmp_Less_int (x y:Int) (w:World):Calls Tryz.prog 178 #[.int .i32 x,.int .i32 y] w fun e w'=>e=.returned (.bool (Sort.ltInt x y))∧w'=w:=by
 go_enter Tryz.func178,Tryz.ntmps178;go_wp2_with (go_at_call 217;refine (So.cmp_isNaN_int _ _).mono ?_;rintro e w' ⟨rfl,rfl⟩);go_ret;exact⟨rfl,rfl⟩
end Go.Proofs.YtdbpjmfflofadaaGreatDoor
namespace Go.Proofs.YtdbpjmfflofadaaGreatDoor
open Go.Sort Go.RowKit
abbrev zAX:Int→Value:=fun x=>Value.int .i32 x
theorem zCS {α:Type} [Inhabited α] (enc:α→Value) {w wr:World} {n blk off:Nat} {dk:Array α} {i j:Nat} (hi:i<dk.size) (hj:j<dk.size) (aa:wr=putRow enc (Sort.ahead w n) blk off dk)
 {x y:Value} (hx:x=enc dk[j]!) (hy:y=enc dk[i]!):((wr.setCell ⟨blk,off+i,none⟩ x).setCell ⟨blk,off+j,none⟩ y).drew=putRow enc (Sort.ahead w (n+1)) blk off (swp dk i j):=by
 subst aa;subst hx;subst hy;rw[putRow_swp enc _ blk off dk i j hi hj,←ahead_drew];rfl
theorem zGb (blk off cap:Nat) (d:Array Int) (a b:Nat) (w:World) (hH:Holds zAX w blk off d) (ak:a≤b) (hb:b≤d.size) (aj:d.size<4611686018427387904) :
 Calls Tryz.prog 176 #[.slice (some ⟨blk,off,none⟩) d.size cap,.int .i64 a,.int .i64 b] w fun e w'=>e=.returned (.tuple #[])∧∃n,w'=putRow zAX (Sort.ahead w n) blk off (reverseRange d a b):=by
 go_enter Tryz.func176,Tryz.ntmps176;go_wp2
 go_loopg [6,7] (b-a) (fun k s6 s7 wr=>∃(i jn:Nat) (jz:Int) (dk:Array Int) (n:Nat),s6=.int .i64 i∧s7=.int .i64 jz∧((i:Int)<jz→jz=jn∧jn<d.size)∧(¬(i:Int)<jz→¬i<jn)∧jn-i≤k ∧
  dk.size=d.size∧wr=putRow zAX (Sort.ahead w n) blk off dk∧reverseLoop i jn dk=reverseLoop a (b-1) d)
 case atStart=>exact⟨a,b-1,(b:Int)-1,d,0,rfl,rfl,fun h=>⟨by omega,by omega⟩,fun h=>by omega,by omega,rfl,(putRow_self zAX w blk off d hH).symm,rfl⟩
 obtain⟨i,jn,jz,dk,n,rfl,rfl,h1,h2,hk,ah,ae,aa⟩:=hrel
 by_cases hlt:(i:Int)<jz
 · obtain⟨rfl,ai⟩:=h1 hlt;have hij:i<jn:=by omega
   have af:Holds zAX wr blk off dk:=by rw[ae];exact holds_putRow zAX _ blk off d dk (holds_ahead zAX w n blk off d hH) ah
   obtain⟨ci,fi⟩:=af i (by omega);obtain⟨cj,fj⟩:=af jn (by omega);have A:Aside (wr=putRow zAX (Sort.ahead w n) blk off dk):=ae;clear ae af hH h1 h2;go_wp2_with fail;go_region;go_wp2;go_roundg (jn-1-(i+1))
   case rel =>
    rw[reverseLoop,if_pos hij]at aa
    exact⟨i+1,jn-1,(jn:Int)-1,swp dk i jn,n+1,by simp,rfl,fun h=>⟨by omega,by omega⟩,fun h=>by omega,Nat.le_refl _,by rw[size_swp];exact ah,
     zCS zAX (by omega) (by omega) A.out (by simp[zAX,getElem!_pos,show jn<dk.size by omega]) rfl,aa⟩
   omega
 have ag:=h2 hlt;go_wp2;go_end0;refine⟨rfl,n,?_⟩;rw[reverseLoop,if_neg ag]at aa;rw[reverseRange,←aa]
end Go.Proofs.YtdbpjmfflofadaaGreatDoor
namespace Go.Sort
variable {α:Type} [Inhabited α] (lt:α→α→Bool)
theorem sd_end {hi F root:Nat} (d:Array α) (h:hi≤2*root+1):siftDown lt hi F root d=d:=by rw[siftDown,dif_pos h]
theorem sd_right_stop {hi F root:Nat} (d:Array α) (h1:2*root+2<hi) (h2:lt d[F+(2*root+1)]! d[F+(2*root+2)]! = true) (h3:lt d[F+root]! d[F+(2*root+2)]! = false):siftDown lt hi F root d=d:=by
 rw[siftDown,dif_neg (by omega),show F+(2*root+1)+1=F+(2*root+2) by omega,h2,h3];simp[show 2*root+1+1<hi by omega]
theorem sd_right_go {hi F root:Nat} (d:Array α) (h1:2*root+2<hi) (h2:lt d[F+(2*root+1)]! d[F+(2*root+2)]! = true) (h3:lt d[F+root]! d[F+(2*root+2)]! = true) :
 siftDown lt hi F root d=siftDown lt hi F (2*root+2) (swp d (F+root) (F+(2*root+2))):=by
 rw[siftDown,dif_neg (by omega),show F+(2*root+1)+1=F+(2*root+2) by omega,h2,h3];simp[show 2*root+1+1<hi by omega]
theorem sd_left_stop {hi F root:Nat} (d:Array α) (h0:2*root+1<hi) (h1:2*root+2<hi→lt d[F+(2*root+1)]! d[F+(2*root+2)]! = false) (h3:lt d[F+root]! d[F+(2*root+1)]! = false):siftDown lt hi F root d=d:=by
 rw[siftDown,dif_neg (by omega),show F+(2*root+1)+1=F+(2*root+2) by omega,h3]
 by_cases h:2*root+2<hi
 · simp[h1 h]
 simp[show ¬2*root+1+1<hi by omega]
theorem sd_left_go {hi F root:Nat} (d:Array α) (h0:2*root+1<hi) (h1:2*root+2<hi→lt d[F+(2*root+1)]! d[F+(2*root+2)]! = false) (h3:lt d[F+root]! d[F+(2*root+1)]! = true) :
 siftDown lt hi F root d=siftDown lt hi F (2*root+1) (swp d (F+root) (F+(2*root+1))):=by
 rw[siftDown,dif_neg (by omega),show F+(2*root+1)+1=F+(2*root+2) by omega,h3]
 by_cases h:2*root+2<hi
 · simp[h1 h]
 simp[show ¬2*root+1+1<hi by omega]
end Go.Sort
namespace Go.Proofs.YtdbpjmfflofadaaGreatDoor
open Go.Sort Go.RowKit
theorem zBy {α:Type} [Inhabited α] (enc:α→Value) {w wr:World} {n blk off:Nat} {dk:Array α} (aa:wr=putRow enc (Sort.ahead w n) blk off dk) (m:Nat):wr.drewN m=putRow enc (Sort.ahead w (n+m)) blk off dk:=by
 subst aa;rw[←ahead_ahead];rfl
theorem zD6 (blk off len cap:Nat) (d:Array Int) (hlen:d.size=len) (lo hi first:Nat) (w:World) (hH:Holds zAX w blk off d) (au:lo≤hi) (hb:first+hi≤d.size) (aw:d.size<4611686018427387904) :
 Calls Tryz.prog 212 #[.slice (some ⟨blk,off,none⟩) len cap,.int .i64 lo,.int .i64 hi,.int .i64 first] w fun e w'=>e=.returned (.tuple #[])∧∃n,w'=putRow zAX (Sort.ahead w n) blk off (siftDown ltInt hi first lo d):=by
 subst hlen;go_enter Tryz.func212,Tryz.ntmps212;go_wp2;go_loopg [8] (hi-lo) (fun k s8 wr=>∃(root:Nat) (dk:Array Int) (n:Nat),s8=.int .i64 root∧root≤hi∧hi-root≤k∧dk.size=d.size∧wr=putRow zAX (Sort.ahead w n) blk off dk∧siftDown ltInt hi first root dk=siftDown ltInt hi first lo d)
 case atStart=>exact⟨lo,d,0,rfl,au,Nat.le_refl _,rfl,(putRow_self zAX w blk off d hH).symm,rfl⟩
 obtain⟨root,dk,n,rfl,hr,hk,ao,ap,ai⟩:=hrel;have aq:Holds zAX wr blk off dk:=by rw[ap];exact holds_putRow zAX _ blk off d dk (holds_ahead zAX w n blk off d hH) ao
 have aj:∀t,t<d.size→wr.cell? ⟨blk,off+t,none⟩=some (.int .i32 dk[t]!):=fun t ht=>(aq t (by omega)).1
 have ak:∀t,t<d.size→wr.frozen? ⟨blk,off+t,none⟩=false:=fun t ht=>(aq t (by omega)).2
 have A:Aside (wr=putRow zAX (Sort.ahead w n) blk off dk):=ap;clear ap hH aq
 by_cases h0:hi≤2*root+1
 ·
  have ar:(hi:Int)≤2*(root:Int)+1:=by omega
  go_wp2;go_end0;refine⟨rfl,n,?_⟩;rw[A.out,←ai,sd_end ltInt dk h0]
 ·
  have ar:¬((hi:Int)≤2*(root:Int)+1):=by omega
  by_cases h1:2*root+2<hi
  · have av:2*(root:Int)+1+1<(hi:Int):=by omega
    go_wp2_with fail;go_big_quiet (first|(go_at_call 178;refine Calls.quiet_of_same (So.cmp_Less_int _ _ _)));go_wp2_with fail
    ·
     have hL:ltInt dk[first+2*root+1]! dk[first+2*root+2]! = true:=by assumption
     revert nq;intro aa;have af:∀t,t<d.size→(wr.drewN aa).cell? ⟨blk,off+t,none⟩=some (.int .i32 dk[t]!):=aj;have ae:∀t,t<d.size→(wr.drewN aa).frozen? ⟨blk,off+t,none⟩=false:=ak;have A2:Aside (wr.drewN aa=putRow zAX (Sort.ahead w (n+aa)) blk off dk):=zBy zAX A.out aa;clear aj ak A;generalize wr.drewN aa=wr2 at af ae A2 ⊢;go_big_quiet (first|(go_at_call 178;refine Calls.quiet_of_same (So.cmp_Less_int _ _ _)));go_wp2_with fail
     ·
      have hS:ltInt dk[first+root]! dk[first+2*root+2]! = false:=by
       have:(!ltInt dk[first+root]! dk[first+2*root+2]!)=true:=by assumption
       simpa using this
      (try simp only[Exit.inBlock,Exit.then]);refine bodyPost_ret (results_none rfl _ _ _) rfl ?_
      refine⟨rfl,n+aa+nq,?_⟩;rw[zBy zAX A2.out nq,←ai,sd_right_stop ltInt dk h1 hL hS]
     ·
      have hG:ltInt dk[first+root]! dk[first+2*root+2]! = true:=by
       have:(!ltInt dk[first+root]! dk[first+2*root+2]!)=false:=by assumption
       simpa using this
      have ah:∀t,t<d.size→(wr2.drewN nq).cell? ⟨blk,off+t,none⟩=some (.int .i32 dk[t]!):=af;have ag:∀t,t<d.size→(wr2.drewN nq).frozen? ⟨blk,off+t,none⟩=false:=ae;have A3:Aside (wr2.drewN nq=putRow zAX (Sort.ahead w (n+aa+nq)) blk off dk):=zBy zAX A2.out nq;clear af ae A2;generalize wr2.drewN nq=wr3 at ah ag A3 ⊢;go_region;go_wp2;go_roundg (hi-(2*root+2))
      case rel =>
       refine⟨2*root+2,swp dk (first+root) (first+(2*root+1+1)),n+aa+nq+1,by simp <;> omega,by omega,Nat.le_refl _,by rw[size_swp];exact ao,zCS zAX (by omega) (by omega) A3.out rfl rfl,?_⟩;rw[←ai,sd_right_go ltInt dk h1 hL hG]
      omega
    ·
     have hL:ltInt dk[first+2*root+1]! dk[first+2*root+2]! = false:=by assumption
     revert nq;intro aa;have af:∀t,t<d.size→(wr.drewN aa).cell? ⟨blk,off+t,none⟩=some (.int .i32 dk[t]!):=aj;have ae:∀t,t<d.size→(wr.drewN aa).frozen? ⟨blk,off+t,none⟩=false:=ak;have A2:Aside (wr.drewN aa=putRow zAX (Sort.ahead w (n+aa)) blk off dk):=zBy zAX A.out aa;clear aj ak A;generalize wr.drewN aa=wr2 at af ae A2 ⊢;go_big_quiet (first|(go_at_call 178;refine Calls.quiet_of_same (So.cmp_Less_int _ _ _)));go_wp2_with fail
     ·
      have hS:ltInt dk[first+root]! dk[first+2*root+1]! = false:=by
       have:(!ltInt dk[first+root]! dk[first+2*root+1]!)=true:=by assumption
       simpa using this
      (try simp only[Exit.inBlock,Exit.then]);refine bodyPost_ret (results_none rfl _ _ _) rfl ?_
      refine⟨rfl,n+aa+nq,?_⟩;rw[zBy zAX A2.out nq,←ai,sd_left_stop ltInt dk (by omega) (fun _=>hL) hS]
     ·
      have hG:ltInt dk[first+root]! dk[first+2*root+1]! = true:=by
       have:(!ltInt dk[first+root]! dk[first+2*root+1]!)=false:=by assumption
       simpa using this
      have ah:∀t,t<d.size→(wr2.drewN nq).cell? ⟨blk,off+t,none⟩=some (.int .i32 dk[t]!):=af;have ag:∀t,t<d.size→(wr2.drewN nq).frozen? ⟨blk,off+t,none⟩=false:=ae;have A3:Aside (wr2.drewN nq=putRow zAX (Sort.ahead w (n+aa+nq)) blk off dk):=zBy zAX A2.out nq;clear af ae A2;generalize wr2.drewN nq=wr3 at ah ag A3 ⊢;go_region;go_wp2;go_roundg (hi-(2*root+1))
      case rel =>
       refine⟨2*root+1,swp dk (first+root) (first+(2*root+1)),n+aa+nq+1,by simp <;> omega,by omega,Nat.le_refl _,by rw[size_swp];exact ao,zCS zAX (by omega) (by omega) A3.out rfl rfl,?_⟩;rw[←ai,sd_left_go ltInt dk (by omega) (fun _=>hL) hG]
      omega
  ·
   have av:decide (2*(root:Int)+1+1<(hi:Int))=false:=decide_eq_false (by omega);go_wp2_with fail;go_big_quiet (first|(go_at_call 178;refine Calls.quiet_of_same (So.cmp_Less_int _ _ _)));go_wp2_with fail;revert nq;intro aa;have af:∀t,t<d.size→(wr.drewN aa).cell? ⟨blk,off+t,none⟩=some (.int .i32 dk[t]!):=aj;have ae:∀t,t<d.size→(wr.drewN aa).frozen? ⟨blk,off+t,none⟩=false:=ak;have A2:Aside (wr.drewN aa=putRow zAX (Sort.ahead w (n+aa)) blk off dk):=zBy zAX A.out aa;clear aj ak A;generalize wr.drewN aa=wr2 at af ae A2 ⊢;go_big_quiet (first|(go_at_call 178;refine Calls.quiet_of_same (So.cmp_Less_int _ _ _)));go_wp2_with fail
   ·
    have hS:ltInt dk[first+root]! dk[first+2*root+1]! = false:=by
     have:(!ltInt dk[first+root]! dk[first+2*root+1]!)=true:=by assumption
     simpa using this
    (try simp only[Exit.inBlock,Exit.then]);refine bodyPost_ret (results_none rfl _ _ _) rfl ?_
    refine⟨rfl,n+aa+nq,?_⟩;rw[zBy zAX A2.out nq,←ai,sd_left_stop ltInt dk (by omega) (fun h=>absurd h h1) hS]
   ·
    have hG:ltInt dk[first+root]! dk[first+2*root+1]! = true:=by
     have:(!ltInt dk[first+root]! dk[first+2*root+1]!)=false:=by assumption
     simpa using this
    have ah:∀t,t<d.size→(wr2.drewN nq).cell? ⟨blk,off+t,none⟩=some (.int .i32 dk[t]!):=af;have ag:∀t,t<d.size→(wr2.drewN nq).frozen? ⟨blk,off+t,none⟩=false:=ae;have A3:Aside (wr2.drewN nq=putRow zAX (Sort.ahead w (n+aa+nq)) blk off dk):=zBy zAX A2.out nq;clear af ae A2;generalize wr2.drewN nq=wr3 at ah ag A3 ⊢;go_region;go_wp2;go_roundg (hi-(2*root+1))
    case rel =>
     refine⟨2*root+1,swp dk (first+root) (first+(2*root+1)),n+aa+nq+1,by simp <;> omega,by omega,Nat.le_refl _,by rw[size_swp];exact ao,zCS zAX (by omega) (by omega) A3.out rfl rfl,?_⟩;rw[←ai,sd_left_go ltInt dk (by omega) (fun h=>absurd h h1) hG]
    omega
end Go.Proofs.YtdbpjmfflofadaaGreatDoor
namespace Go.Sort
variable {α:Type} [Inhabited α] (lt:α→α→Bool)
theorem size_siftDown (hi F:Nat):∀(n root:Nat) (d:Array α),hi-root≤n→(siftDown lt hi F root d).size=d.size:=by
 intro n
 induction n with
 | zero=>intro root d h;rw[siftDown,dif_pos (by omega)]
 | succ n ih =>
   intro root d h;rw[siftDown];split
   · rfl
   split
   · split
     · rfl
     split
     · rw[ih _ _ (by omega),size_swp]
     rfl
   split
   · rfl
   rw[ih _ _ (by omega),size_swp]
end Go.Sort
namespace Go.Proofs.YtdbpjmfflofadaaGreatDoor
open Go.Sort Go.RowKit
theorem zQ2 {a b:Nat} (aa:a≤b):((b:Int)-(a:Int)-1).tdiv 2=(((b-a-1)/2+1:Nat):Int)-1:=by
 by_cases h:a=b
 · subst h;have:((a:Int)-(a:Int)-1) = -1:=by omega
   rw[this];simp
 rw[Int.tdiv_eq_ediv_of_nonneg (by omega)];omega
theorem zJ8 (blk off len cap:Nat) (d:Array Int) (hlen:d.size=len) (a b:Nat) (w:World) (hH:Holds zAX w blk off d) (ax:a≤b) (hb:b≤d.size) (a1:d.size<4611686018427387904) :
 Calls Tryz.prog 173 #[.slice (some ⟨blk,off,none⟩) len cap,.int .i64 a,.int .i64 b] w fun e w'=>e=.returned (.tuple #[])∧∃n,w'=putRow zAX (Sort.ahead w n) blk off (heapSort ltInt d a b):=by
 subst hlen;have aa:((b-a:Nat):Int)=(b:Int)-(a:Int):=by omega
 go_enter Tryz.func173,Tryz.ntmps173;go_wp2
 go_loopg [9] ((b-a-1)/2+1) (fun k s9 wr=>s9=.int .i64 ((k:Int)-1)∧k≤(b-a-1)/2+1∧∃(dk:Array Int) (n:Nat),dk.size=d.size∧wr=putRow zAX (Sort.ahead w n) blk off dk ∧
  heapBuild ltInt (b-a) a k dk=heapBuild ltInt (b-a) a ((b-a-1)/2+1) d)
 case atStart=>exact⟨by rw[zQ2 ax],Nat.le_refl _,d,0,rfl,(putRow_self zAX w blk off d hH).symm,rfl⟩
 obtain⟨rfl,ar,dk,n,aj,ak,ap⟩:=hrel;have aq:Holds zAX wr blk off dk:=by rw[ak];exact holds_putRow zAX _ blk off d dk (holds_ahead zAX w n blk off d hH) aj
 have A:Aside (wr=putRow zAX (Sort.ahead w n) blk off dk):=ak;clear ak;cases gk with
 | zero =>
   have hB:dk=heapBuild ltInt (b-a) a ((b-a-1)/2+1) d:=ap;clear ap aq ar;go_wp2;go_loopg [10] (b-a) (fun k aw av=>aw=.int .i64 ((k:Int)-1)∧k≤b-a∧∃(dj:Array Int) (n2:Nat),dj.size=d.size∧av=putRow zAX (Sort.ahead w n2) blk off dj∧heapPop ltInt a k dj=heapPop ltInt a (b-a) dk)
   case atStart=>exact⟨by rw[aa],Nat.le_refl _,dk,n,aj,A.out,rfl⟩
   obtain⟨rfl,ar,dj,n2,ah,ag,af⟩:=hrel;cases gk with
   | zero =>
     go_wp2;go_end0;refine⟨rfl,n2,?_⟩;have e:dj=heapSort ltInt d a b:=by rw[heapSort,←hB,←af];rfl
     rw[←e]
   | succ k =>
     have ao:Holds zAX wr blk off dj:=by rw[ag];exact holds_putRow zAX _ blk off d dj (holds_ahead zAX w n2 blk off d hH) ah
     have ay:∀t,t<d.size→wr.cell? ⟨blk,off+t,none⟩=some (.int .i32 dj[t]!):=fun t ht=>(ao t (by omega)).1
     have az:∀t,t<d.size→wr.frozen? ⟨blk,off+t,none⟩=false:=fun t ht=>(ao t (by omega)).2
     have A2:Aside (wr=putRow zAX (Sort.ahead w n2) blk off dj):=ag;clear ag ao;rcases Nat.eq_zero_or_pos k with au|hkp
     · subst au;go_wp2_with fail;go_region;go_wp2_with fail;rw[zCS zAX (i:=a) (j:=a) (by omega) (by omega) A2.out rfl rfl];refine (zD6 blk off d.size cap (swp dj a (a)) (by rw[size_swp];exact ah) 0 0 a _ (holds_putRow zAX _ blk off d _ (holds_ahead zAX w (n2+1) blk off d hH) (by rw[size_swp];exact ah)) (Nat.zero_le _) (by rw[size_swp];omega) (by rw[size_swp];omega)).mono ?_;rintro e w1 ⟨rfl,m,ai⟩;go_wp2;go_roundg 0
       case measure=>omega
       refine⟨by simp,by omega,siftDown ltInt 0 a 0 (swp dj a (a)),n2+1+m,by rw[size_siftDown ltInt _ _ _ _ _ (Nat.le_refl _),size_swp];exact ah,?_,af⟩
       first
        | rw[ai,putRow_ahead_putRow zAX w (n2+1) m blk off _ _ (size_siftDown ltInt _ _ _ _ _ (Nat.le_refl _))]
        | rw[putRow_ahead_putRow zAX w (n2+1) m blk off _ _ (size_siftDown ltInt _ _ _ _ _ (Nat.le_refl _))]
     skip
     go_wp2_with fail;go_region;go_wp2_with fail;rw[zCS zAX (i:=a) (j:=a+k) (by omega) (by omega) A2.out rfl rfl];refine (zD6 blk off d.size cap (swp dj a (a+k)) (by rw[size_swp];exact ah) 0 k a _ (holds_putRow zAX _ blk off d _ (holds_ahead zAX w (n2+1) blk off d hH) (by rw[size_swp];exact ah)) (Nat.zero_le _) (by rw[size_swp];omega) (by rw[size_swp];omega)).mono ?_;rintro e w1 ⟨rfl,m,ai⟩;go_wp2;go_roundg k
     case measure=>omega
     refine⟨by simp,by omega,siftDown ltInt k a 0 (swp dj a (a+k)),n2+1+m,by rw[size_siftDown ltInt _ _ _ _ _ (Nat.le_refl _),size_swp];exact ah,?_,af⟩
     first
      | rw[ai,putRow_ahead_putRow zAX w (n2+1) m blk off _ _ (size_siftDown ltInt _ _ _ _ _ (Nat.le_refl _))]
      | rw[putRow_ahead_putRow zAX w (n2+1) m blk off _ _ (size_siftDown ltInt _ _ _ _ _ (Nat.le_refl _))]
 | succ k =>
   have ae:=zD6 blk off d.size cap dk aj k (b-a) a wr aq (by omega) (by omega) (by omega);rw[aa]at ae;go_wp2_with (go_at_call 212;refine ae.mono ?_;rintro e w1 ⟨rfl,m,ai⟩);go_roundg k
   case rel =>
    refine⟨by simp,by omega,siftDown ltInt (b-a) a k dk,n+m,by rw[size_siftDown ltInt _ _ _ _ _ (Nat.le_refl _)];exact aj,?_,ap⟩;rw[A.out,putRow_ahead_putRow zAX w n m blk off dk _ (size_siftDown ltInt _ _ _ _ _ (Nat.le_refl _))]
   omega
structure Callees13:Prop where
 ins:∀(blk off cap a b:Nat) (d:Array Int) (w:World),Holds zAX w blk off d→a≤b→b≤d.size→d.size<4611686018427387904 →
  Calls Tryz.prog 172 #[.slice (some ⟨blk,off,none⟩) d.size cap,.int .i64 a,.int .i64 b] w fun e w'=>e=.returned (.tuple #[])∧∃n,w'=putRow zAX (Sort.ahead w n) blk off (insertionSort ltInt d a b)
 brk:∀(blk off cap a b:Nat) (d:Array Int) (w:World),Holds zAX w blk off d→blk<w.heap.size→a≤b→b≤d.size→d.size<4611686018427387904 →
  Calls Tryz.prog 174 #[.slice (some ⟨blk,off,none⟩) d.size cap,.int .i64 a,.int .i64 b] w fun e w'=>e=.returned (.tuple #[])∧∃n os,w'=grow (putRow zAX (Sort.ahead w n) blk off (breakPatterns d a b)) os
 piv:∀(blk off cap a b:Nat) (d:Array Int) (w:World),Holds zAX w blk off d→blk<w.heap.size→a<b→b≤d.size→d.size<4611686018427387904 →
  Calls Tryz.prog 175 #[.slice (some ⟨blk,off,none⟩) d.size cap,.int .i64 a,.int .i64 b] w fun e w'=>e=.returned (.tuple #[.int .i64 (choosePivot ltInt d a b).1,.int .i64 (hintCode (choosePivot ltInt d a b).2)])∧∃n os,w'=grow (Sort.ahead w n) os
 par:∀(blk off cap a b:Nat) (d:Array Int) (w:World),Holds zAX w blk off d→a<b→b≤d.size→d.size<4611686018427387904 →
  Calls Tryz.prog 177 #[.slice (some ⟨blk,off,none⟩) d.size cap,.int .i64 a,.int .i64 b] w fun e w'=>e=.returned (.bool (partialInsertionSort ltInt d a b).2)∧∃n,w'=putRow zAX (Sort.ahead w n) blk off (partialInsertionSort ltInt d a b).1
 peq:∀(blk off cap a b pivot:Nat) (d:Array Int) (w:World),Holds zAX w blk off d→a≤pivot→pivot<b→b≤d.size→d.size<4611686018427387904 →
  Calls Tryz.prog 179 #[.slice (some ⟨blk,off,none⟩) d.size cap,.int .i64 a,.int .i64 b,.int .i64 pivot] w fun e w'=>e=.returned (.int .i64 (partitionEqual ltInt d a b pivot).1)∧∃n,w'=putRow zAX (Sort.ahead w n) blk off (partitionEqual ltInt d a b pivot).2
 prt:∀(blk off cap a b pivot:Nat) (d:Array Int) (w:World),Holds zAX w blk off d→a≤pivot→pivot<b→b≤d.size→d.size<4611686018427387904 →
  Calls Tryz.prog 180 #[.slice (some ⟨blk,off,none⟩) d.size cap,.int .i64 a,.int .i64 b,.int .i64 pivot] w fun e w'=>e=.returned (.tuple #[.int .i64 (partition ltInt d a b pivot).1,.bool (partition ltInt d a b pivot).2.1])∧∃n,w'=putRow zAX (Sort.ahead w n) blk off (partition ltInt d a b pivot).2.2
structure Plain13:Prop where
 swo:SWO ltInt
 ins:insertionSort_stmt ltInt
 par:partialInsertionSort_stmt ltInt
 prt:partition_stmt ltInt
 peq:partitionEqual_stmt ltInt
 pdq:pdq_stmt ltInt
theorem zMG {h:Hint} (e:hintCode h=2):h=.decreasing:=by cases h <;> simp[hintCode]at e ⊢
theorem zSM {x y p q:Nat} (h1:q≤p) (h2:y≤x):decide (((x:Int)-(y:Int))/8≤(p:Int)-(q:Int))=decide (p-q≥(x-y)/8) :=
 decide_eq_decide.2 ⟨fun h=>by omega,fun h=>by omega⟩
theorem zJY (C:Callees13) (S:Plain13):∀(N blk off cap a b limit:Nat) (d:Array Int) (w:World),b-a<N→Holds zAX w blk off d→blk<w.heap.size→a≤b→b≤d.size→d.size<4611686018427387904→limit<4611686018427387904→Below ltInt a b d →
 Calls Tryz.prog 135 #[.slice (some ⟨blk,off,none⟩) d.size cap,.int .i64 a,.int .i64 b,.int .i64 limit] w fun e w'=>e=.returned (.tuple #[])∧At zAX w blk off (pdq ltInt d a b limit true true) w':=by
 intro N
 induction N with
 | zero=>intro _ _ _ _ _ _ _ _ h;exact absurd h (Nat.not_lt_zero _)
 | succ N ih =>
   intro blk off cap a b limit d w hN hH aa cm hb cp ag az;go_enter Tryz.func135,Tryz.ntmps135;go_wp2
   go_loopg [1,2,3,8,9] (b-a) (fun k s1 s2 s3 s8 s9 wr=>∃(a' b' lim:Nat) (wb wp:Bool) (dk:Array Int),s1=.int .i64 a'∧s2=.int .i64 b'∧s3=.int .i64 lim∧s8=.bool wb∧s9=.bool wp ∧
    a'≤b'∧b'≤d.size∧b'-a'≤k∧k≤b-a∧lim≤limit∧dk.size=d.size∧Below ltInt a' b' dk∧At zAX w blk off dk wr∧pdq ltInt dk a' b' lim wb wp=pdq ltInt d a b limit true true)
   case atStart=>exact⟨a,b,limit,true,true,d,rfl,rfl,rfl,rfl,rfl,cm,hb,Nat.le_refl _,Nat.le_refl _,Nat.le_refl _,rfl,az,At.refl hH,rfl⟩
   obtain⟨a',b',lim,wb,wp,dk,rfl,rfl,rfl,rfl,rfl,af,cc,hk,cq,ah,ae,bm,a6,b3⟩:=hrel;obtain⟨bk,a8⟩:=a6.holds hH ae aa;have A:Aside (pdq ltInt dk a' b' lim wb wp=pdq ltInt d a b limit true true):=b3;clear b3
   by_cases h12:b'-a'≤12
   ·
    have bp:(b':Int)-(a':Int)≤12:=by omega
    have hc:=C.ins blk off cap a' b' dk wr bk af (by omega) (by omega);rw[ae]at hc;go_wp2_with (go_at_call 172;refine hc.mono ?_;rintro e w1 ⟨rfl,a1⟩)
    (try simp only[Exit.inBlock,Exit.then]);refine bodyPost_ret (results_none rfl _ _ _) rfl ?_
    refine⟨rfl,?_⟩;rw[←A.out,pdq_small h12];exact a6.step aa (S.ins S.swo dk a' b' af (by omega)).1.1 a1
   have bp:¬((b':Int)-(a':Int)≤12):=by omega
   by_cases hl0:lim=0
   ·
    subst hl0;have hc:=zJ8 blk off d.size cap dk ae a' b' wr bk af (by omega) (by omega);go_wp2_with (go_at_call 173;refine hc.mono ?_;rintro e w1 ⟨rfl,a1⟩)
    (try simp only[Exit.inBlock,Exit.then]);refine bodyPost_ret (results_none rfl _ _ _) rfl ?_
    refine⟨rfl,?_⟩;rw[←A.out,pdq_heap h12 rfl];exact a6.step aa (heapSort_holds S.swo dk a' b' af (by omega)).1.1 a1
   have cd:¬((lim:Int)=0):=by omega
   obtain⟨s1,B1,cn,s2,B2,aj,s3,B3⟩:=rd_facts (limit:=lim) (wb:=wb) (wp:=wp) S.swo S.par reverseRange_holds (show a'<b' by omega) (show b'≤dk.size by omega) bm;go_upto_if 35 with fail
   go_cut [3] from 19 (fun s3 wc=>s3=.int .i64 (rd ltInt dk a' b' lim wb wp).lim∧At zAX w blk off (rd ltInt dk a' b' lim wb wp).d1 wc)
   case first =>
    cases wb
    · have hc:=C.brk blk off cap a' b' dk wr bk a8 af (by omega) (by omega);rw[ae]at hc;go_wp2_with (go_at_call 174;refine hc.mono ?_;rintro e w1 ⟨rfl,a1⟩);go_meet;refine⟨?_,a6.stepG aa s1 a1⟩;show Value.int .i64 ((lim:Int)-1)=Value.int .i64 ((lim-1:Nat):Int);congr 1;omega
    go_wp2_with fail;go_meet;exact⟨rfl,a6⟩
   obtain⟨rfl,bi⟩:=hcut;obtain⟨cb,bh⟩:=bi.holds hH (s1.trans ae) aa
   have br:Calls Tryz.prog 175 #[.slice (some ⟨blk,off,none⟩) d.size cap,.int .i64 a',.int .i64 b'] wc fun e w'=>e=.returned (.tuple #[.int .i64 (rd ltInt dk a' b' lim wb wp).c.1,.int .i64 (hintCode (rd ltInt dk a' b' lim wb wp).c.2)])∧∃n os,w'=grow (Sort.ahead wc n) os:=by
    have:=C.piv blk off cap a' b' (rd ltInt dk a' b' lim wb wp).d1 wc cb bh (by omega) (by omega) (by omega);rw[s1,ae]at this;exact this
   go_upto_if 50 with (go_at_call 175;refine br.mono ?_;rintro e w2 ⟨rfl,cg⟩)
   have ar:At zAX w blk off (rd ltInt dk a' b' lim wb wp).d1 w2:=bi.same hH (s1.trans ae) aa cg;obtain⟨cj,bw⟩:=ar.holds hH (s1.trans ae) aa;go_cut [11,12] from 19 (fun cf bo wc=>cf=.int .i64 (rd ltInt dk a' b' lim wb wp).pivot∧bo=.int .i64 (hintCode (rd ltInt dk a' b' lim wb wp).hint)∧At zAX w blk off (rd ltInt dk a' b' lim wb wp).d2 wc)
   case first =>
    by_cases hh:(rd ltInt dk a' b' lim wb wp).c.2=.decreasing
    · have ba:hintCode (rd ltInt dk a' b' lim wb wp).c.2=2:=by rw[hh];rfl
      obtain⟨e2,bj,bq⟩:=rd_dec hh;have a7:=zGb blk off cap (rd ltInt dk a' b' lim wb wp).d1 a' b' w2 cj af (by omega) (by omega);rw[s1,ae]at a7;go_wp2_with (go_at_call 176;refine a7.mono ?_;rintro e w3 ⟨rfl,b5⟩);go_meet
      refine⟨?_,by rw[bq];rfl,by rw[e2];exact ar.step aa (by rw[←e2,s2,s1]) b5⟩;rw[bj];congr 1;omega
    have ba:¬(hintCode (rd ltInt dk a' b' lim wb wp).c.2=2):=fun h=>hh (zMG h)
    obtain⟨e2,bj,bq⟩:=rd_not hh;go_wp2_with fail;go_meet;exact⟨by rw[bj],by rw[bq],by rw[e2];exact ar⟩
   obtain⟨rfl,rfl,ai⟩:=hcut;obtain⟨ck,b2⟩:=ai.holds hH (s2.trans ae) aa;go_upto_region 15 with fail
   go_cut [12,68] from 19 (fun bo b8 wx=>bo=.int .i64 (hintCode (rd ltInt dk a' b' lim wb wp).hint)∧b8=.bool (wb&&wp&&decide ((rd ltInt dk a' b' lim wb wp).hint=.increasing))∧wx=wc)
   case first =>
    cases wb <;> cases wp <;> cases hh3:(rd ltInt dk a' b' lim _ _).hint <;>
     (have ao:=congrArg hintCode hh3
      simp only[hintCode]at ao;go_wp2_with fail;go_meet;exact⟨by simp[hh3,hintCode],by simp[hh3,hintCode],rfl⟩)
   obtain⟨rfl,rfl,rfl⟩:=hcut;go_upto_if 68 with fail
   go_cut [] from 19 (fun wx=>(rd ltInt dk a' b' lim wb wp).pi.2=false∧At zAX w blk off (rd ltInt dk a' b' lim wb wp).pi.1 wx)
   case first =>
    cases h68:(wb&&wp&&decide ((rd ltInt dk a' b' lim wb wp).hint=.increasing))
    · have ay:=rd_pi_no h68;go_wp2_with fail;go_meet;exact⟨by rw[ay],by rw[ay];exact ai⟩
    have ay:=rd_pi_yes h68;have bb:=C.par blk off cap a' b' (rd ltInt dk a' b' lim wb wp).d2 wc ck (by omega) (by omega) (by omega);rw[s2,ae,←ay]at bb;go_wp2_with (go_at_call 177;refine bb.mono ?_;rintro e w4 ⟨rfl,bx⟩)
    all_goals first
     | (have aw:(rd ltInt dk a' b' lim wb wp).pi.2=false:=by rw[ay];assumption
        go_meet;exact⟨aw,ai.step aa (by rw[s3,s2]) bx⟩)
     | (have aw:(rd ltInt dk a' b' lim wb wp).pi.2=true:=by rw[ay];assumption
        (try simp only[Exit.inBlock,Exit.then]);refine bodyPost_ret (results_none rfl _ _ _) rfl ?_
        refine⟨rfl,?_⟩;rw[←A.out,pdq_done h12 hl0 aw];exact ai.step aa (by rw[s3,s2]) bx)
   obtain⟨aw,au⟩:=hcut;obtain⟨bt,b4⟩:=au.holds hH (s3.trans ae) aa;have b6:∀t,t<d.size→wc.cell? ⟨blk,off+t,none⟩=some (.int .i32 (rd ltInt dk a' b' lim wb wp).pi.1[t]!):=fun t ht=>(bt t (by omega)).1
   have b9:∀t,t<d.size→wc.frozen? ⟨blk,off+t,none⟩=false:=fun t ht=>(bt t (by omega)).2
   go_upto_region 17 with fail
   go_cut [87] from 19 (fun b7 wx=>b7=.bool (decide (a' > 0)&&!ltInt (rd ltInt dk a' b' lim wb wp).pi.1[a'-1]! (rd ltInt dk a' b' lim wb wp).pi.1[(rd ltInt dk a' b' lim wb wp).pivot]!)∧At zAX w blk off (rd ltInt dk a' b' lim wb wp).pi.1 wx)
   case first =>
    rcases Nat.eq_zero_or_pos a' with ha0|ha0
    · have bl:decide ((a':Int) > 0)=false:=decide_eq_false (by omega);go_big_quiet (first|(go_at_call 178;refine Calls.quiet_of_same (So.cmp_Less_int _ _ _)));go_wp2_with fail;go_meet;exact⟨by simp[ha0],au.ahead nq⟩
    have bl:(a':Int) > 0:=by omega
    go_big_quiet (first|(go_at_call 178;refine Calls.quiet_of_same (So.cmp_Less_int _ _ _)));go_wp2_with fail;go_meet;exact⟨by simp[ha0],au.ahead nq⟩
   obtain⟨rfl,av⟩:=hcut;obtain⟨bu,b1⟩:=av.holds hH (s3.trans ae) aa;clear b6 b9;cases h87:(decide (a' > 0)&&!ltInt (rd ltInt dk a' b' lim wb wp).pi.1[a'-1]! (rd ltInt dk a' b' lim wb wp).pi.1[(rd ltInt dk a' b' lim wb wp).pivot]!)
   ·
    obtain⟨mid,ap,d4,hx⟩:∃mid ap d4,partition ltInt (rd ltInt dk a' b' lim wb wp).pi.1 a' b' (rd ltInt dk a' b' lim wb wp).pivot=(mid,ap,d4):=⟨(partition ltInt (rd ltInt dk a' b' lim wb wp).pi.1 a' b' (rd ltInt dk a' b' lim wb wp).pivot).1,(partition ltInt (rd ltInt dk a' b' lim wb wp).pi.1 a' b' (rd ltInt dk a' b' lim wb wp).pivot).2.1,(partition ltInt (rd ltInt dk a' b' lim wb wp).pi.1 a' b' (rd ltInt dk a' b' lim wb wp).pivot).2.2,rfl⟩;obtain⟨r1,r2,r3,r4,r5,r6,r7⟩:=round_part S.swo S.prt aj.1 aj.2 (show b'≤(rd ltInt dk a' b' lim wb wp).pi.1.size by omega) B3 hx;have bg:=C.prt blk off cap a' b' (rd ltInt dk a' b' lim wb wp).pivot (rd ltInt dk a' b' lim wb wp).pi.1 wc bu aj.1 aj.2 (by omega) (by omega);rw[s3,ae,hx]at bg;have X:Aside (partition ltInt (rd ltInt dk a' b' lim wb wp).pi.1 a' b' (rd ltInt dk a' b' lim wb wp).pivot=(mid,ap,d4)):=hx;clear hx;go_upto_if 113 with (go_at_call 180;refine bg.mono ?_;rintro e w7 ⟨rfl,bs⟩)
    have hx:=X.out;have ax:At zAX w blk off d4 w7:=av.step aa r3 bs;obtain⟨bz,ak⟩:=ax.holds hH (r3.trans (s3.trans ae)) aa
    by_cases h4:mid-a'<b'-mid
    · have ch:(mid:Int)-(a':Int)<(b':Int)-(mid:Int):=by omega
      have bc:=ih blk off cap a' mid (rd ltInt dk a' b' lim wb wp).lim d4 w7 (by omega) bz ak (by omega) (by omega) (by omega) (Nat.lt_of_le_of_lt (Nat.le_trans rd_lim_le ah) ag) r4;rw[r3,s3,ae]at bc;obtain⟨pL,sL⟩:=S.pdq S.swo d4 a' mid (rd ltInt dk a' b' lim wb wp).lim true true (by omega) (by omega) r4;go_wp2_with (go_at_call 135;refine bc.mono ?_;rintro e w8 ⟨rfl,bn⟩);go_roundg (b'-(mid+1))
      case rel =>
       refine⟨mid+1,b',(rd ltInt dk a' b' lim wb wp).lim,decide (mid-a'≥(b'-a')/8),ap,pdq ltInt d4 a' mid (rd ltInt dk a' b' lim wb wp).lim true true,by simp,rfl,rfl,?_,rfl,by omega,by omega,Nat.le_refl _,by omega,Nat.le_trans rd_lim_le ah,by rw[pL.1,r3,s3,ae],(r6 _ pL sL).1,ax.stepG aa pL.1 bn,?_⟩
       · exact congrArg Value.bool (zSM (by omega) (by omega))
       rw[←A.out,pdq_left h12 hl0 aw h87 (by rw[hx];exact⟨r1,r2⟩) (by rw[hx];exact h4),hx]
      omega
    have ch:¬((mid:Int)-(a':Int)<(b':Int)-(mid:Int)):=by omega
    have bc:=ih blk off cap (mid+1) b' (rd ltInt dk a' b' lim wb wp).lim d4 w7 (by omega) bz ak (by omega) (by omega) (by omega) (Nat.lt_of_le_of_lt (Nat.le_trans rd_lim_le ah) ag) r5;rw[r3,s3,ae]at bc;obtain⟨pL,sL⟩:=S.pdq S.swo d4 (mid+1) b' (rd ltInt dk a' b' lim wb wp).lim true true (by omega) (by omega) r5;go_wp2_with (go_at_call 135;refine bc.mono ?_;rintro e w8 ⟨rfl,bn⟩);go_roundg (mid-a')
    case rel =>
     refine⟨a',mid,(rd ltInt dk a' b' lim wb wp).lim,decide (b'-mid≥(b'-a')/8),ap,pdq ltInt d4 (mid+1) b' (rd ltInt dk a' b' lim wb wp).lim true true,rfl,rfl,rfl,?_,rfl,by omega,by omega,Nat.le_refl _,by omega,Nat.le_trans rd_lim_le ah,by rw[pL.1,r3,s3,ae],(r7 _ pL sL).1,ax.stepG aa pL.1 bn,?_⟩
     · exact congrArg Value.bool (zSM (by omega) (by omega))
     rw[←A.out,pdq_right h12 hl0 aw h87 (by rw[hx];exact⟨r1,r2⟩) (by rw[hx];exact h4),hx]
    omega
   ·
    have aq:=h87;simp only[Bool.and_eq_true,decide_eq_true_eq,Bool.not_eq_true']at aq;obtain⟨mid,d4,hx⟩:∃mid d4,partitionEqual ltInt (rd ltInt dk a' b' lim wb wp).pi.1 a' b' (rd ltInt dk a' b' lim wb wp).pivot=(mid,d4):=⟨(partitionEqual ltInt (rd ltInt dk a' b' lim wb wp).pi.1 a' b' (rd ltInt dk a' b' lim wb wp).pivot).1,(partitionEqual ltInt (rd ltInt dk a' b' lim wb wp).pi.1 a' b' (rd ltInt dk a' b' lim wb wp).pivot).2,rfl⟩;obtain⟨r1,r2,r3,r4,_⟩:=round_eq S.swo S.peq aq.1 aj.1 aj.2 (show b'≤(rd ltInt dk a' b' lim wb wp).pi.1.size by omega) B3 aq.2 hx;have bf:=C.peq blk off cap a' b' (rd ltInt dk a' b' lim wb wp).pivot (rd ltInt dk a' b' lim wb wp).pi.1 wc bu aj.1 aj.2 (by omega) (by omega);rw[s3,ae,hx]at bf;have X:Aside (partitionEqual ltInt (rd ltInt dk a' b' lim wb wp).pi.1 a' b' (rd ltInt dk a' b' lim wb wp).pivot=(mid,d4)):=hx;clear hx;go_wp2_with (go_at_call 179;refine bf.mono ?_;rintro e w7 ⟨rfl,bs⟩);go_roundg (b'-mid)
    case rel =>
     have hx:=X.out;exact⟨mid,b',(rd ltInt dk a' b' lim wb wp).lim,wb,wp,d4,rfl,rfl,rfl,rfl,rfl,r2,cc,Nat.le_refl _,by omega,Nat.le_trans rd_lim_le ah,by rw[r3,s3,ae],r4,av.step aa r3 bs,by rw[←A.out,pdq_eq h12 hl0 aw h87 (by rw[hx];exact⟨r1,r2⟩),hx]⟩
    omega
end Go.Proofs.YtdbpjmfflofadaaGreatDoor
namespace Go.Proofs.YtdbpjmfflofadaaGreatDoor
open Go.RowKit Go.Sort
def intOf:Value→Int | .int _ q=>q|_=>0
section
variable {α:Type} [Inhabited α] (lt:α→α→Bool)
theorem insInner_go (a j:Nat) (d:Array α) (hj:a<j) (hl:lt d[j]! d[j-1]! = true):insInner lt a j d=insInner lt a (j-1) (swp d j (j-1)):=by
 obtain⟨k,rfl⟩:∃k,j=k+1:=⟨j-1,by omega⟩;rw[insInner];simp only[Nat.add_sub_cancel]at hl ⊢;simp[hj,hl]
theorem insInner_stop (a j:Nat) (d:Array α) (h:j≤a∨lt d[j]! d[j-1]! = false):insInner lt a j d=d:=by
 cases j with
 | zero=>rw[insInner]
 | succ k =>
   rw[insInner];simp only[Nat.add_sub_cancel]at h;rcases h with h|h
   · simp[show ¬k+1 > a by omega]
   simp[h]
theorem insOuter_go (a b i:Nat) (d:Array α) (h:i<b):insOuter lt a b i d=insOuter lt a b (i+1) (insInner lt a i d):=by rw[insOuter,if_pos h]
theorem insOuter_stop (a b i:Nat) (d:Array α) (h:¬i<b):insOuter lt a b i d=d:=by rw[insOuter,if_neg h]
end
section
variable {α:Type} [Inhabited α] (enc:α→Value)
theorem putRow_drewN (w:World) (m q blk off:Nat) (d:Array α):(putRow enc (Sort.ahead w m) blk off d).drewN q=putRow enc (Sort.ahead w (m+q)) blk off d:=by
 show Sort.ahead (putRow enc (Sort.ahead w m) blk off d) q=_;rw[putRow_ahead enc w m,ahead_ahead,←putRow_ahead]
theorem swap_worldA (w:World) (m q blk off:Nat) (d:Array α) (j k:Nat) (hj:j<d.size) (hk:k<d.size) :
 (((putRow enc (Sort.ahead w m) blk off d).drewN q).setCell ⟨blk,off+j,none⟩ (enc d[k]!)).setCell ⟨blk,off+k,none⟩ (enc d[j]!)=putRow enc (Sort.ahead w (m+q)) blk off (swp d j k):=by
 rw[putRow_drewN];exact putRow_swp enc _ blk off d j k hj hk
end
theorem So.insertionSort_int (blk off cap a b:Nat) (d:Array Int) (w:World) (hH:Holds (Value.int .i32) w blk off d) (av:a≤b) (hb:b≤d.size) (au:d.size<4611686018427387904) :
 Calls Tryz.prog 172 #[.slice (some ⟨blk,off,none⟩) d.size cap,.int .i64 a,.int .i64 b] w fun e w' =>
  e=.returned (.tuple #[])∧∃n,w'=putRow (Value.int .i32) (Sort.ahead w n) blk off (Sort.insertionSort ltInt d a b):=by
 go_enter Tryz.func172,Tryz.ntmps172;go_wp2
 go_loopw [6] (fun vi wr=>∃(i n:Nat) (dk:Array Int),vi=.int .i64 i∧a<i∧i≤b+1∧dk.size=d.size∧wr=putRow (Value.int .i32) (Sort.ahead w n) blk off dk ∧
  insOuter ltInt a b i dk=insOuter ltInt a b (a+1) d) (fun vi _=>b+1-(intOf vi).toNat)
 case atStart=>exact⟨a+1,0,d,by go_num,by omega,by omega,rfl,(putRow_self _ _ _ _ _ hH).symm,rfl⟩
 obtain⟨i,n,dk,rfl,ar,ap,ai,ak,hO⟩:=hrel;have HO:Hid (insOuter ltInt a b i dk=insOuter ltInt a b (a+1) d):=hO;clear hO;go_wp2
 ·
  go_loopw [7] (fun vj ag=>∃(j m:Nat) (dj:Array Int),vj=.int .i64 j∧a≤j∧j≤i∧dj.size=d.size∧ag=putRow (Value.int .i32) (Sort.ahead w m) blk off dj ∧
   insInner ltInt a j dj=insInner ltInt a i dk) (fun vj _=>(intOf vj).toNat)
  case atStart=>exact⟨i,n,dk,rfl,by omega,Nat.le_refl _,ai,rfl,rfl⟩
  obtain⟨j,m,dj,rfl,aj,aw,af,aa,hI⟩:=hrel;have ah:i<b:=by assumption
  obtain⟨G,hG⟩:∃G:Nat→Int,∀t,G t=dj[t]! := ⟨fun t=>dj[t]!,fun _=>rfl⟩
  have ao:∀t,t<d.size→wr.cell? ⟨blk,off+t,none⟩=some (.int .i32 (G t)):=fun t ht=>by
   rw[aa,hG];exact cell?_putRow _ _ _ _ d dj (holds_ahead _ _ _ _ _ _ hH) af t (by omega)
  have aq:∀t,t<d.size→wr.frozen? ⟨blk,off+t,none⟩=false:=fun t ht=>by
   rw[aa,frozen?_putRow];exact ((holds_ahead _ _ m _ _ _ hH) t ht).2
  have HW:Hid (wr=putRow (Value.int .i32) (Sort.ahead w m) blk off dj):=aa;have HG:Hid (∀t,G t=dj[t]!):=hG;have HI:Hid (insInner ltInt a j dj=insInner ltInt a i dk):=hI;clear aa hG hI hH
  have out:(j≤a∨ltInt dj[j]! dj[j-1]! = false)→∀q,∃i' n' ae,Value.int .i64 ((i:Int)+1)=.int .i64 (i':Nat)∧a<i'∧i'≤b+1∧ae.size=d.size ∧
   wr.drewN q=putRow (Value.int .i32) (Sort.ahead w n') blk off ae∧insOuter ltInt a b i' ae=insOuter ltInt a b (a+1) d:=fun hs q =>
   ⟨i+1,m+q,dj,by go_num,by omega,by omega,af,by rw[HW.out];exact putRow_drewN _ _ _ _ _ _ _,
    by rw[←HO.out,insOuter_go _ _ _ _ _ ah,←HI.out,insInner_stop _ _ _ _ hs]⟩
  have OUT:Hid _:=out;clear out;go_wp2
  by_cases hja:a<j
  rotate_left
  · go_quiet (first|(go_at_call 178;refine Calls.quiet_of_same (So.cmp_Less_int _ _ _)));go_wp2;go_roundw
    case rel=>exact OUT.out (Or.inl (by omega)) nq
    simp[intOf];omega
  go_quiet (first|(go_at_call 178;refine Calls.quiet_of_same (So.cmp_Less_int _ _ _)));go_wp2
  ·
   have hl:ltInt (G j) (G (j-1))=true:=by assumption
   go_region
   all_goals go_wp2
   go_roundw
   case measure=>simp[intOf];omega
   refine⟨j-1,m+(nq+1),swp dj j (j-1),by congr 1;omega,by omega,by omega,by rw[size_swp];exact af,?_,?_⟩
   · rw[HW.out,HG.out,HG.out];exact swap_worldA _ w m (nq+1) blk off dj j (j-1) (by omega) (by omega)
   rw[←HI.out,insInner_go ltInt a j dj hja (by rw[←HG.out,←HG.out];exact hl)]
  ·
   have hl:ltInt (G j) (G (j-1))=false:=by assumption
   go_roundw
   case rel=>exact OUT.out (Or.inr (by rw[←HG.out,←HG.out];exact hl)) nq
   simp[intOf];omega
 ·
  have hge:¬i<b:=by assumption
  go_end0;exact⟨rfl,n,by unfold Sort.insertionSort;rw[←HO.out,insOuter_stop _ _ _ _ _ hge]⟩
end Go.Proofs.YtdbpjmfflofadaaGreatDoor
