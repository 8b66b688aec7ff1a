/- The two maps of a loaded table: what is found in them, and what a store makes of them. -/
import Derived.Test.YthngjlllojiacaaGreatDoorPgRaw
import Derived.DeepKeys4
import Derived.Lib.AppendZerosOnto
import Derived.Lib.Walk
import Derived.Lib.Strings
import Derived.CellFam
import Derived.Sort.Walk13a
import Derived.Sort.LotD4
import Derived.Sort.LotB
import Derived.Sort.LotA
set_option maxRecDepth 1000000
set_option maxHeartbeats 6400000
set_option linter.unusedVariables false
set_option linter.unusedSimpArgs false
namespace Go.Proofs.YthngjlllojiacaaGreatDoor
open Go.RowKit
theorem Ud.key32 {c:Int} (h : -2147483648≤c∧c≤2147483647):keyOf Tryz.prog 21 (.int .i32 c)=some (.int .i32 c):=Go.Maps.keyOf_int_mk Tryz.underlying21 (zKm h.1 h.2)
theorem zQ3 {w:World} {b:Nat} {F:Value→Option Value} (h:Mp.Is Tryz.prog 21 w b F) {c:Int} (hc : -2147483648≤c∧c≤2147483647) {v:Value} (hv:(F (.int .i32 c)).getD (.slice none 0 0)=v) :
 (Instr.lookup 141 (.map (some b)) (.int .i32 c) false).run Tryz.prog w=.ok v w:=by
 have hz:(zeroValue 80).run Tryz.prog w=.ok (.slice none 0 0) w:=by kernel_rfl
 have:=h.look zF8 Tryz.underlying141 hz (Ud.key32 hc) false;rw[if_neg (by simp),hv]at this;exact this
theorem zQP {w:World} {b:Nat} {F:Value→Option Value} (h:Mp.Is Tryz.prog 21 w b F) {c:Int} (hc : -2147483648≤c∧c≤2147483647) (v:Value) :
 ∃w' F',(Instr.mapUpdate 141 (.map (some b)) (.int .i32 c) v).run Tryz.prog w=.ok () w'∧Mp.Is Tryz.prog 21 w' b F'∧F' (.int .i32 c)=some v∧(∀y,y≠.int .i32 c→F' y=F y)∧w.grownBy w' (some b):=by
 obtain⟨F',h1,h2⟩:∃F':Value→Option Value,F' (.int .i32 c)=some v∧∀z,z≠.int .i32 c→F' z=F z:=by
  classical
  exact⟨fun z=>if z=.int .i32 c then some v else F z,by simp,fun z hz=>by simp[hz]⟩
 obtain⟨w',g1,g2,g3⟩:=h.put zF8 Tryz.underlying141 (Ud.key32 hc) F' h1 h2;exact⟨w',F',g1,g2,h1,h2,g3⟩
theorem zLI:Go.Maps.Keyed Tryz.prog 173:=Go.Maps.Keyed.of_law (Go.deep_law_laid (m:=3) (by kernel_rfl) (by decide) (of_decide_eq_true (by kernel_rfl)) (by kernel_rfl) (by rw[Tryz.underlying173]))
theorem Ud.pk_key {x y:Int} (hx : -2147483648≤x∧x≤2147483647) (hy : -2147483648≤y∧y≤2147483647):∃l,keyOf Tryz.prog 173 (zEo x y)=some l:=by
 have h0:∀(m:Nat) (z:Int),-2147483648≤z∧z≤2147483647→Tryz.prog.keyLits (m+1) 21 [.int .i32 z]=some [.int .i32 z]:=fun m z hz=>by
  unfold Program.keyLits;rw[Tryz.underlying21];simp[zKm hz.1 hz.2]
 have h1:∀z:Int,-2147483648≤z∧z≤2147483647→Tryz.prog.keyLits 381 21 [.int .i32 z]=some [.int .i32 z]:=fun z hz=>by
  have:=h0 (381-1) z hz
  rwa [show 381-1+1=381 by decide]at this
 have ht:Tryz.prog.types.size=381:=by kernel_rfl
 have hc:Tryz.prog.cellsOf 21=1:=by kernel_rfl
 have aa:Tryz.prog.cellsOf 173=2:=by kernel_rfl
 have hl:Tryz.prog.keyLits (Tryz.prog.types.size+1) 173 [.int .i32 x,.int .i32 y]=some [.int .i32 x,.int .i32 y]:=by
  unfold Program.keyLits;rw[Tryz.underlying173,ht];simp[hc,aa,h1 x hx,h1 y hy]
 have hk:Tryz.prog.keyType 173=true:=by kernel_rfl
 have hf:(zEo x y).formed Tryz.prog 173=true:=by
  unfold Value.formed zEo;rw[Tryz.underlying173];simp[aa]
 unfold keyOf;rw[Tryz.underlying173];simp only[hk,hf,Bool.and_self,if_true];unfold zEo;simp only[Value.cells];rw[hl];exact⟨_,rfl⟩
theorem zQQ {w:World} {b:Nat} {F:Value→Option Value} (h:Mp.Is Tryz.prog 173 w b F) {x y:Int} (hx : -2147483648≤x∧x≤2147483647) (hy : -2147483648≤y∧y≤2147483647) :
 (Instr.lookup 142 (.map (some b)) (.agg #[.int .i32 x,.int .i32 y]) true).run Tryz.prog w=.ok (.tuple #[(F (zEo x y)).getD (.int .i32 0),.bool (F (zEo x y)).isSome]) w:=by
 obtain⟨l,hl⟩:=Ud.pk_key hx hy;have hz:(zeroValue 21).run Tryz.prog w=.ok (.int .i32 0) w:=by kernel_rfl
 have:=h.look zLI Tryz.underlying142 hz hl true;rw[if_pos rfl]at this;exact this
theorem zRs {w:World} {b:Nat} {F:Value→Option Value} (h:Mp.Is Tryz.prog 173 w b F) {x y:Int} (hx : -2147483648≤x∧x≤2147483647) (hy : -2147483648≤y∧y≤2147483647) (v:Value) :
 ∃w' F',(Instr.mapUpdate 142 (.map (some b)) (.agg #[.int .i32 x,.int .i32 y]) v).run Tryz.prog w=.ok () w'∧Mp.Is Tryz.prog 173 w' b F'∧F' (.agg #[.int .i32 x,.int .i32 y])=some v∧(∀z,z≠.agg #[.int .i32 x,.int .i32 y]→F' z=F z)∧w.grownBy w' (some b):=by
 obtain⟨l,hl⟩:=Ud.pk_key hx hy
 obtain⟨F',h1,h2⟩:∃F':Value→Option Value,F' (zEo x y)=some v∧∀z,z≠zEo x y→F' z=F z:=by
  classical
  exact⟨fun z=>if z=zEo x y then some v else F z,by simp,fun z hz=>by simp[hz]⟩
 obtain⟨w',g1,g2,g3⟩:=h.put zLI Tryz.underlying142 hl F' h1 h2;exact⟨w',F',g1,g2,h1,h2,g3⟩
def zEB (T:List Rw.Row) (c:Int):Bool:=decide (0<(zAS T c).length)
def Ud.fl (T:List Rw.Row) (c:Int):List Int:=if zEB T c=true then Ud.full T c else []
def zJF (T:List Rw.Row) (S:List Int) (c:Int):Bool:=zEB T c&&zAo T (C.mem S) c
def Ud.RetFind (T:List Rw.Row) (S:List Int) (c:Int) (w:World) (e:Ending) (w':World):Prop :=
 ∃m mc f fc,e=.returned (.tuple #[.agg #[.slice m (zAS T c).length mc,.slice f (Ud.fl T c).length fc,.bool (zJF T S c)],.bool (zEB T c)])∧Sl w' w'.heap.size m (Ud.ints (zAS T c))∧Sl w' w'.heap.size f (Ud.ints (Ud.fl T c))∧Below w.heap.size w w'
theorem Ud.find_any (v:Value) (T:List Rw.Row) (S:List Int) (c:Int) (w:World) (ok:Ud.Ok T S) (h:Ud.Is w v T S) :
 Calls Tryz.prog 74 #[v,.int .i32 c] w (Ud.RetFind T S c w):=by
 obtain⟨b,A0,c0,XA,xc,pc,pp,A3,c3,mb,jb,A4,c4,A5,c5,A6,c6,es,rfl,a6,_,_,_,a7,aa,_⟩:=h.is;have hlen:=ok.len;have ax:Below w.heap.size w (w.alloc (.cells #[.slice none 0 0,.slice none 0 0,.bool false] 134)):=(Below.refl _ _).alloc (Nat.le_refl _) _;have af:=a6.below ax;have ap:=Rw.At.new w 134 [.slice none 0 0,.slice none 0 0,.bool false];have z3:=af.cell 3 rfl;have bu:=af.lt;have hG:=zJy pp _ c _ (a7.below ax);have bn:=hy' af;have HE:=hy' ap;have HB:=hy' ax;rcases zPX ok c with ⟨i,r,hi,bb,ag,hpos,aj⟩|⟨aj,ba⟩
 rotate_left
 · have ae:zEB T c=false:=by unfold zEB;rw[ba];rfl
   have av:Ud.fl T c=[]:=by unfold Ud.fl;rw[if_neg (by rw[ae];simp)]
   have ah:zJF T S c=false:=by unfold zJF;rw[ae];rfl
   unfold Ud.RetFind;rw[ae,ba,av,ah];rw[aj]at hG;clear aa a7 a6 aj ae ah av af ap ax hlen h ba;go_enter Tryz.func74,Tryz.ntmps74;go_wp2_with fail;refine hG.mono ?_;rintro e w1 ⟨rfl,ao⟩;have aq:=hy' (HB.o.trans (ao.mono HB.o.size));have ak:=HE.o.below ao;have bk:=ak.lt;obtain⟨_,_,_,f0,f1,f2⟩:=ak.three;have a8:=hy' ak;clear ao z3 hG ak;go_wp2_with fail;have k1:=a8.o.set 0 (.slice none 0 0);have k2:=k1.set 1 (.slice none 0 0);have k3:=k2.set 2 (.bool false);have ar:=((aq.o.setCell (p:=⟨w.heap.size,0,none⟩) (Nat.le_refl _) (.slice none 0 0)).setCell (p:=⟨w.heap.size,1,none⟩) (Nat.le_refl _) (.slice none 0 0)).setCell (p:=⟨w.heap.size,2,none⟩) (Nat.le_refl _) (.bool false);exact bodyPost_ret (zDC rfl _ _ w.heap.size _ _ _ _ rfl k3 Tryz.underlying134 rfl (by kernel_rfl)) rfl ⟨none,0,none,0,rfl,Sl.nil _ _ _,Sl.nil _ _ _,ar⟩
 have ae:zEB T c=true:=by
  unfold zEB zAS;rw[ag];exact decide_eq_true hpos
 have aw:zAS T c=r.2.2:=by unfold zAS;rw[ag];rfl
 have av:Ud.fl T c=Ud.full T r.1:=by unfold Ud.fl;rw[if_pos ae,bb]
 have ah:zJF T S c=zAo T (C.mem S) r.1:=by unfold zJF;rw[ae,bb];rfl
 unfold Ud.RetFind;rw[ae,aw,av,ah];have bh:=(List.getElem?_eq_some_iff.1 hi).1;have hle:(zAB T).length≤T.length:=List.length_filter_le _ _;obtain⟨a,ha⟩:∃a,es[i]?=some a:=⟨_,List.getElem?_eq_getElem (by rw[aa.1];exact bh)⟩;obtain⟨bg,bf⟩:=aa.2.2 i r a hi ha;obtain⟨g1,g2,g3⟩:=zJC T (C.mem S) (zAB T) es i r a hi ha;have ai:=zGG T (C.mem S) (zAB T) es aa.1;obtain⟨eb,eo,rfl,az,ay⟩:=aa.2.1 (by rw[ai];omega);have y0:=ay (i*3) (by rw[ai];omega);have y1:=ay (i*3+1) (by rw[ai];omega);have y2:=ay (i*3+2) (by rw[ai];omega);rw[g1]at y0;rw[g2]at y1;rw[g3]at y2;rw[aj]at hG;rw[←Nat.add_assoc]at y1 y2;obtain⟨mn,hmn⟩:∃n,(zAB T).length=n:=⟨_,rfl⟩;rw[hmn]at bh hle af;have bl:=hy' hmn;obtain⟨fn,bc⟩:∃n,(Ud.full T r.1).length=n:=⟨_,rfl⟩;obtain⟨rn,a1⟩:∃n,r.2.2.length=n:=⟨_,rfl⟩;obtain⟨pb,hpb⟩:∃n,zAo T (C.mem S) r.1=n:=⟨_,rfl⟩;rw[bc,a1,hpb];rw[bc]at y1;rw[a1]at y0;rw[hpb]at y2;have br:(i:Int)<mn:=by omega
 have bs:(0:Int)≤i:=by omega
 have bt:IntKind.u16.wrap ((i:Int)+1-1)=i:=by
  show ((i:Int)+1-1)%65536=i;omega
 have bp:IntKind.u16.wrap (i:Int)=i:=by
  show (i:Int)%65536=i;omega
 have hne:((i:Int)+1 == 0)=false:=by simp;omega
 have bi:decide ((i:Int)+1=0)=false:=by simp;omega
 have bo:=hy' bg;have bj:=hy' bf;clear bg bf g1 g2 g3 ay aa a7 a6 ag aj ae ah aw av hi ha ai af ap ax hmn bc a1 hpb hle hlen h hpos bb;go_enter Tryz.func74,Tryz.ntmps74;go_wp2_with fail;refine hG.mono ?_;rintro e w1 ⟨rfl,ao⟩;have aq:=hy' (HB.o.trans (ao.mono HB.o.size));have au:=bn.o.below ao;have ak:=HE.o.below ao;have q4:=au.cell 4 rfl;rw[bl.o]at q4;have q0:=(aq.o.cell (p:=⟨eb,eo+i*3,none⟩) az).trans y0;have q1:=(aq.o.cell (p:=⟨eb,eo+i*3+1,none⟩) az).trans y1;have q2:=(aq.o.cell (p:=⟨eb,eo+i*3+2,none⟩) az).trans y2;have bm:=au.lt;have bq:eb<w1.heap.size:=Nat.lt_of_lt_of_le az aq.o.size;have bk:=ak.lt;obtain⟨_,_,_,f0,f1,f2⟩:=ak.three;have a8:=hy' ak;clear ao z3 y0 y1 y2 hG au ak;go_wp2_with fail;have k1:=a8.o.set 0 (.slice a.m rn a.mc);have k2:=k1.set 1 (.slice a.f fn a.fc);have k3:=k2.set 2 (.bool pb);have ar:=((aq.o.setCell (p:=⟨w.heap.size,0,none⟩) (Nat.le_refl _) (.slice a.m rn a.mc)).setCell (p:=⟨w.heap.size,1,none⟩) (Nat.le_refl _) (.slice a.f fn a.fc)).setCell (p:=⟨w.heap.size,2,none⟩) (Nat.le_refl _) (.bool pb);exact bodyPost_ret (zDC rfl _ _ w.heap.size _ _ _ _ rfl k3 Tryz.underlying134 rfl (by kernel_rfl)) rfl ⟨a.m,a.mc,a.f,a.fc,rfl,bo.o.below ar ar.size,bj.o.below ar ar.size,ar⟩
theorem Ud.class_any (v:Value) (T:List Rw.Row) (S:List Int) (c:Int) (w:World) (ok:Ud.Ok T S) (h:Ud.Is w v T S) :
 Calls Tryz.prog 41 #[v,.int .i32 c] w fun e w'=>e=.returned (.int .i64 (Md.cls T c))∧Below w.heap.size w w':=by
 obtain⟨b,A0,c0,XA,xc,pc,pp,A3,c3,mb,jb,A4,c4,A5,c5,A6,c6,es,rfl,ae,_,_,af,ag,aa,_⟩:=h.is;have z2:=ae.cell 2 rfl;have ai:=ae.lt;have hG:=zJy pc _ c _ af;rw[zOG ok]at hG;have hbd:=zDE ok c;obtain⟨k,hk⟩:∃k,Md.cls T c=k:=⟨_,rfl⟩;rw[hk]at hbd hG ⊢;have hw:IntKind.i64.wrap k=k:=by rw[IntKind.wrap_i64];omega
 clear aa ag af ae h hk ok;go_enter Tryz.func41,Tryz.ntmps41;go_wp2_with fail;refine hG.mono ?_;rintro e w1 ⟨rfl,ah⟩;clear hG z2;go_wp2_with fail;go_ret;exact⟨rfl,ah⟩
end Go.Proofs.YthngjlllojiacaaGreatDoor
namespace Go.Proofs.YthngjlllojiacaaGreatDoor
theorem So.cmp_isNaN_int (x:Int) (w:World):Calls Tryz.prog 220 #[.int .i32 x] w fun e w'=>e=.returned (.bool false)∧w'=w:=by
 go_enter Tryz.func220,Tryz.ntmps220;go_wp2;go_ret;exact⟨by simp,rfl⟩
theorem So.cmp_Less_int (x y:Int) (w:World):Calls Tryz.prog 183 #[.int .i32 x,.int .i32 y] w fun e w'=>e=.returned (.bool (Sort.ltInt x y))∧w'=w:=by
 go_enter Tryz.func183,Tryz.ntmps183;go_wp2_with (go_at_call 220;refine (So.cmp_isNaN_int _ _).mono ?_;rintro e w' ⟨rfl,rfl⟩);go_ret;exact⟨rfl,rfl⟩
end Go.Proofs.YthngjlllojiacaaGreatDoor
namespace Go.Proofs.YthngjlllojiacaaGreatDoor
open Go.Sort Go.RowKit
abbrev zAR:Int→Value:=fun x=>Value.int .i32 x
theorem zCK {α:Type} [Inhabited α] (enc:α→Value) {w wr:World} {n blk off:Nat} {dk:Array α} {i j:Nat} (hi:i<dk.size) (hj:j<dk.size) (aa:wr=putRow enc (Sort.ahead w n) blk off dk)
 {x y:Value} (hx:x=enc dk[j]!) (hy:y=enc dk[i]!):((wr.setCell ⟨blk,off+i,none⟩ x).setCell ⟨blk,off+j,none⟩ y).drew=putRow enc (Sort.ahead w (n+1)) blk off (swp dk i j):=by
 subst aa;subst hx;subst hy;rw[putRow_swp enc _ blk off dk i j hi hj,←ahead_drew];rfl
theorem zFJ (blk off cap:Nat) (d:Array Int) (a b:Nat) (w:World) (hH:Holds zAR w blk off d) (aj:a≤b) (hb:b≤d.size) (ak:d.size<4611686018427387904) :
 Calls Tryz.prog 181 #[.slice (some ⟨blk,off,none⟩) d.size cap,.int .i64 a,.int .i64 b] w fun e w'=>e=.returned (.tuple #[])∧∃n,w'=putRow zAR (Sort.ahead w n) blk off (reverseRange d a b):=by
 go_enter Tryz.func181,Tryz.ntmps181;go_wp2
 go_loopg [6,7] (b-a) (fun k s6 s7 wr=>∃(i jn:Nat) (jz:Int) (dk:Array Int) (n:Nat),s6=.int .i64 i∧s7=.int .i64 jz∧((i:Int)<jz→jz=jn∧jn<d.size)∧(¬(i:Int)<jz→¬i<jn)∧jn-i≤k ∧
  dk.size=d.size∧wr=putRow zAR (Sort.ahead w n) blk off dk∧reverseLoop i jn dk=reverseLoop a (b-1) d)
 case atStart=>exact⟨a,b-1,(b:Int)-1,d,0,rfl,rfl,fun h=>⟨by omega,by omega⟩,fun h=>by omega,by omega,rfl,(putRow_self zAR w blk off d hH).symm,rfl⟩
 obtain⟨i,jn,jz,dk,n,rfl,rfl,h1,h2,hk,ah,ag,aa⟩:=hrel
 by_cases hlt:(i:Int)<jz
 · obtain⟨rfl,ai⟩:=h1 hlt;have hij:i<jn:=by omega
   have af:Holds zAR wr blk off dk:=by rw[ag];exact holds_putRow zAR _ blk off d dk (holds_ahead zAR w n blk off d hH) ah
   obtain⟨ci,fi⟩:=af i (by omega);obtain⟨cj,fj⟩:=af jn (by omega);have A:Aside (wr=putRow zAR (Sort.ahead w n) blk off dk):=ag;clear ag af hH h1 h2;go_wp2_with fail;go_region;go_wp2;go_roundg (jn-1-(i+1))
   case rel =>
    rw[reverseLoop,if_pos hij]at aa
    exact⟨i+1,jn-1,(jn:Int)-1,swp dk i jn,n+1,by simp,rfl,fun h=>⟨by omega,by omega⟩,fun h=>by omega,Nat.le_refl _,by rw[size_swp];exact ah,
     zCK zAR (by omega) (by omega) A.out (by simp[zAR,getElem!_pos,show jn<dk.size by omega]) rfl,aa⟩
   omega
 have ae:=h2 hlt;go_wp2;go_end0;refine⟨rfl,n,?_⟩;rw[reverseLoop,if_neg ae]at aa;rw[reverseRange,←aa]
end Go.Proofs.YthngjlllojiacaaGreatDoor
namespace Go.Sort
variable {α:Type} [Inhabited α] (lt:α→α→Bool)
theorem sd_end {hi F root:Nat} (d:Array α) (h:hi≤2*root+1):siftDown lt hi F root d=d:=by rw[siftDown,dif_pos h]
theorem sd_right_stop {hi F root:Nat} (d:Array α) (h1:2*root+2<hi) (h2:lt d[F+(2*root+1)]! d[F+(2*root+2)]! = true) (h3:lt d[F+root]! d[F+(2*root+2)]! = false):siftDown lt hi F root d=d:=by
 rw[siftDown,dif_neg (by omega),show F+(2*root+1)+1=F+(2*root+2) by omega,h2,h3];simp[show 2*root+1+1<hi by omega]
theorem sd_right_go {hi F root:Nat} (d:Array α) (h1:2*root+2<hi) (h2:lt d[F+(2*root+1)]! d[F+(2*root+2)]! = true) (h3:lt d[F+root]! d[F+(2*root+2)]! = true) :
 siftDown lt hi F root d=siftDown lt hi F (2*root+2) (swp d (F+root) (F+(2*root+2))):=by
 rw[siftDown,dif_neg (by omega),show F+(2*root+1)+1=F+(2*root+2) by omega,h2,h3];simp[show 2*root+1+1<hi by omega]
theorem sd_left_stop {hi F root:Nat} (d:Array α) (h0:2*root+1<hi) (h1:2*root+2<hi→lt d[F+(2*root+1)]! d[F+(2*root+2)]! = false) (h3:lt d[F+root]! d[F+(2*root+1)]! = false):siftDown lt hi F root d=d:=by
 rw[siftDown,dif_neg (by omega),show F+(2*root+1)+1=F+(2*root+2) by omega,h3]
 by_cases h:2*root+2<hi
 · simp[h1 h]
 simp[show ¬2*root+1+1<hi by omega]
theorem sd_left_go {hi F root:Nat} (d:Array α) (h0:2*root+1<hi) (h1:2*root+2<hi→lt d[F+(2*root+1)]! d[F+(2*root+2)]! = false) (h3:lt d[F+root]! d[F+(2*root+1)]! = true) :
 siftDown lt hi F root d=siftDown lt hi F (2*root+1) (swp d (F+root) (F+(2*root+1))):=by
 rw[siftDown,dif_neg (by omega),show F+(2*root+1)+1=F+(2*root+2) by omega,h3]
 by_cases h:2*root+2<hi
 · simp[h1 h]
 simp[show ¬2*root+1+1<hi by omega]
end Go.Sort
namespace Go.Proofs.YthngjlllojiacaaGreatDoor
open Go.Sort Go.RowKit
theorem zBr {α:Type} [Inhabited α] (enc:α→Value) {w wr:World} {n blk off:Nat} {dk:Array α} (aa:wr=putRow enc (Sort.ahead w n) blk off dk) (m:Nat):wr.drewN m=putRow enc (Sort.ahead w (n+m)) blk off dk:=by
 subst aa;rw[←ahead_ahead];rfl
theorem zCX (blk off len cap:Nat) (d:Array Int) (hlen:d.size=len) (lo hi first:Nat) (w:World) (hH:Holds zAR w blk off d) (av:lo≤hi) (hb:first+hi≤d.size) (aw:d.size<4611686018427387904) :
 Calls Tryz.prog 215 #[.slice (some ⟨blk,off,none⟩) len cap,.int .i64 lo,.int .i64 hi,.int .i64 first] w fun e w'=>e=.returned (.tuple #[])∧∃n,w'=putRow zAR (Sort.ahead w n) blk off (siftDown ltInt hi first lo d):=by
 subst hlen;go_enter Tryz.func215,Tryz.ntmps215;go_wp2;go_loopg [8] (hi-lo) (fun k s8 wr=>∃(root:Nat) (dk:Array Int) (n:Nat),s8=.int .i64 root∧root≤hi∧hi-root≤k∧dk.size=d.size∧wr=putRow zAR (Sort.ahead w n) blk off dk∧siftDown ltInt hi first root dk=siftDown ltInt hi first lo d)
 case atStart=>exact⟨lo,d,0,rfl,av,Nat.le_refl _,rfl,(putRow_self zAR w blk off d hH).symm,rfl⟩
 obtain⟨root,dk,n,rfl,hr,hk,ao,aq,ai⟩:=hrel;have ap:Holds zAR wr blk off dk:=by rw[aq];exact holds_putRow zAR _ blk off d dk (holds_ahead zAR w n blk off d hH) ao
 have aj:∀t,t<d.size→wr.cell? ⟨blk,off+t,none⟩=some (.int .i32 dk[t]!):=fun t ht=>(ap t (by omega)).1
 have ak:∀t,t<d.size→wr.frozen? ⟨blk,off+t,none⟩=false:=fun t ht=>(ap t (by omega)).2
 have A:Aside (wr=putRow zAR (Sort.ahead w n) blk off dk):=aq;clear aq hH ap
 by_cases h0:hi≤2*root+1
 ·
  have au:(hi:Int)≤2*(root:Int)+1:=by omega
  go_wp2;go_end0;refine⟨rfl,n,?_⟩;rw[A.out,←ai,sd_end ltInt dk h0]
 ·
  have au:¬((hi:Int)≤2*(root:Int)+1):=by omega
  by_cases h1:2*root+2<hi
  · have ar:2*(root:Int)+1+1<(hi:Int):=by omega
    go_wp2_with fail;go_big_quiet (first|(go_at_call 183;refine Calls.quiet_of_same (So.cmp_Less_int _ _ _)));go_wp2_with fail
    ·
     have hL:ltInt dk[first+2*root+1]! dk[first+2*root+2]! = true:=by assumption
     revert nq;intro aa;have ae:∀t,t<d.size→(wr.drewN aa).cell? ⟨blk,off+t,none⟩=some (.int .i32 dk[t]!):=aj;have af:∀t,t<d.size→(wr.drewN aa).frozen? ⟨blk,off+t,none⟩=false:=ak;have A2:Aside (wr.drewN aa=putRow zAR (Sort.ahead w (n+aa)) blk off dk):=zBr zAR A.out aa;clear aj ak A;generalize wr.drewN aa=wr2 at ae af A2 ⊢;go_big_quiet (first|(go_at_call 183;refine Calls.quiet_of_same (So.cmp_Less_int _ _ _)));go_wp2_with fail
     ·
      have hS:ltInt dk[first+root]! dk[first+2*root+2]! = false:=by
       have:(!ltInt dk[first+root]! dk[first+2*root+2]!)=true:=by assumption
       simpa using this
      (try simp only[Exit.inBlock,Exit.then]);refine bodyPost_ret (results_none rfl _ _ _) rfl ?_
      refine⟨rfl,n+aa+nq,?_⟩;rw[zBr zAR A2.out nq,←ai,sd_right_stop ltInt dk h1 hL hS]
     ·
      have hG:ltInt dk[first+root]! dk[first+2*root+2]! = true:=by
       have:(!ltInt dk[first+root]! dk[first+2*root+2]!)=false:=by assumption
       simpa using this
      have ag:∀t,t<d.size→(wr2.drewN nq).cell? ⟨blk,off+t,none⟩=some (.int .i32 dk[t]!):=ae;have ah:∀t,t<d.size→(wr2.drewN nq).frozen? ⟨blk,off+t,none⟩=false:=af;have A3:Aside (wr2.drewN nq=putRow zAR (Sort.ahead w (n+aa+nq)) blk off dk):=zBr zAR A2.out nq;clear ae af A2;generalize wr2.drewN nq=wr3 at ag ah A3 ⊢;go_region;go_wp2;go_roundg (hi-(2*root+2))
      case rel =>
       refine⟨2*root+2,swp dk (first+root) (first+(2*root+1+1)),n+aa+nq+1,by simp <;> omega,by omega,Nat.le_refl _,by rw[size_swp];exact ao,zCK zAR (by omega) (by omega) A3.out rfl rfl,?_⟩;rw[←ai,sd_right_go ltInt dk h1 hL hG]
      omega
    ·
     have hL:ltInt dk[first+2*root+1]! dk[first+2*root+2]! = false:=by assumption
     revert nq;intro aa;have ae:∀t,t<d.size→(wr.drewN aa).cell? ⟨blk,off+t,none⟩=some (.int .i32 dk[t]!):=aj;have af:∀t,t<d.size→(wr.drewN aa).frozen? ⟨blk,off+t,none⟩=false:=ak;have A2:Aside (wr.drewN aa=putRow zAR (Sort.ahead w (n+aa)) blk off dk):=zBr zAR A.out aa;clear aj ak A;generalize wr.drewN aa=wr2 at ae af A2 ⊢;go_big_quiet (first|(go_at_call 183;refine Calls.quiet_of_same (So.cmp_Less_int _ _ _)));go_wp2_with fail
     ·
      have hS:ltInt dk[first+root]! dk[first+2*root+1]! = false:=by
       have:(!ltInt dk[first+root]! dk[first+2*root+1]!)=true:=by assumption
       simpa using this
      (try simp only[Exit.inBlock,Exit.then]);refine bodyPost_ret (results_none rfl _ _ _) rfl ?_
      refine⟨rfl,n+aa+nq,?_⟩;rw[zBr zAR A2.out nq,←ai,sd_left_stop ltInt dk (by omega) (fun _=>hL) hS]
     ·
      have hG:ltInt dk[first+root]! dk[first+2*root+1]! = true:=by
       have:(!ltInt dk[first+root]! dk[first+2*root+1]!)=false:=by assumption
       simpa using this
      have ag:∀t,t<d.size→(wr2.drewN nq).cell? ⟨blk,off+t,none⟩=some (.int .i32 dk[t]!):=ae;have ah:∀t,t<d.size→(wr2.drewN nq).frozen? ⟨blk,off+t,none⟩=false:=af;have A3:Aside (wr2.drewN nq=putRow zAR (Sort.ahead w (n+aa+nq)) blk off dk):=zBr zAR A2.out nq;clear ae af A2;generalize wr2.drewN nq=wr3 at ag ah A3 ⊢;go_region;go_wp2;go_roundg (hi-(2*root+1))
      case rel =>
       refine⟨2*root+1,swp dk (first+root) (first+(2*root+1)),n+aa+nq+1,by simp <;> omega,by omega,Nat.le_refl _,by rw[size_swp];exact ao,zCK zAR (by omega) (by omega) A3.out rfl rfl,?_⟩;rw[←ai,sd_left_go ltInt dk (by omega) (fun _=>hL) hG]
      omega
  ·
   have ar:decide (2*(root:Int)+1+1<(hi:Int))=false:=decide_eq_false (by omega);go_wp2_with fail;go_big_quiet (first|(go_at_call 183;refine Calls.quiet_of_same (So.cmp_Less_int _ _ _)));go_wp2_with fail;revert nq;intro aa;have ae:∀t,t<d.size→(wr.drewN aa).cell? ⟨blk,off+t,none⟩=some (.int .i32 dk[t]!):=aj;have af:∀t,t<d.size→(wr.drewN aa).frozen? ⟨blk,off+t,none⟩=false:=ak;have A2:Aside (wr.drewN aa=putRow zAR (Sort.ahead w (n+aa)) blk off dk):=zBr zAR A.out aa;clear aj ak A;generalize wr.drewN aa=wr2 at ae af A2 ⊢;go_big_quiet (first|(go_at_call 183;refine Calls.quiet_of_same (So.cmp_Less_int _ _ _)));go_wp2_with fail
   ·
    have hS:ltInt dk[first+root]! dk[first+2*root+1]! = false:=by
     have:(!ltInt dk[first+root]! dk[first+2*root+1]!)=true:=by assumption
     simpa using this
    (try simp only[Exit.inBlock,Exit.then]);refine bodyPost_ret (results_none rfl _ _ _) rfl ?_
    refine⟨rfl,n+aa+nq,?_⟩;rw[zBr zAR A2.out nq,←ai,sd_left_stop ltInt dk (by omega) (fun h=>absurd h h1) hS]
   ·
    have hG:ltInt dk[first+root]! dk[first+2*root+1]! = true:=by
     have:(!ltInt dk[first+root]! dk[first+2*root+1]!)=false:=by assumption
     simpa using this
    have ag:∀t,t<d.size→(wr2.drewN nq).cell? ⟨blk,off+t,none⟩=some (.int .i32 dk[t]!):=ae;have ah:∀t,t<d.size→(wr2.drewN nq).frozen? ⟨blk,off+t,none⟩=false:=af;have A3:Aside (wr2.drewN nq=putRow zAR (Sort.ahead w (n+aa+nq)) blk off dk):=zBr zAR A2.out nq;clear ae af A2;generalize wr2.drewN nq=wr3 at ag ah A3 ⊢;go_region;go_wp2;go_roundg (hi-(2*root+1))
    case rel =>
     refine⟨2*root+1,swp dk (first+root) (first+(2*root+1)),n+aa+nq+1,by simp <;> omega,by omega,Nat.le_refl _,by rw[size_swp];exact ao,zCK zAR (by omega) (by omega) A3.out rfl rfl,?_⟩;rw[←ai,sd_left_go ltInt dk (by omega) (fun h=>absurd h h1) hG]
    omega
end Go.Proofs.YthngjlllojiacaaGreatDoor
namespace Go.Sort
variable {α:Type} [Inhabited α] (lt:α→α→Bool)
theorem size_siftDown (hi F:Nat):∀(n root:Nat) (d:Array α),hi-root≤n→(siftDown lt hi F root d).size=d.size:=by
 intro n
 induction n with
 | zero=>intro root d h;rw[siftDown,dif_pos (by omega)]
 | succ n ih =>
   intro root d h;rw[siftDown];split
   · rfl
   split
   · split
     · rfl
     split
     · rw[ih _ _ (by omega),size_swp]
     rfl
   split
   · rfl
   rw[ih _ _ (by omega),size_swp]
end Go.Sort
namespace Go.Proofs.YthngjlllojiacaaGreatDoor
open Go.Sort Go.RowKit
theorem zOT {a b:Nat} (aa:a≤b):((b:Int)-(a:Int)-1).tdiv 2=(((b-a-1)/2+1:Nat):Int)-1:=by
 by_cases h:a=b
 · subst h;have:((a:Int)-(a:Int)-1) = -1:=by omega
   rw[this];simp
 rw[Int.tdiv_eq_ediv_of_nonneg (by omega)];omega
theorem zIm (blk off len cap:Nat) (d:Array Int) (hlen:d.size=len) (a b:Nat) (w:World) (hH:Holds zAR w blk off d) (av:a≤b) (hb:b≤d.size) (a1:d.size<4611686018427387904) :
 Calls Tryz.prog 178 #[.slice (some ⟨blk,off,none⟩) len cap,.int .i64 a,.int .i64 b] w fun e w'=>e=.returned (.tuple #[])∧∃n,w'=putRow zAR (Sort.ahead w n) blk off (heapSort ltInt d a b):=by
 subst hlen;have aa:((b-a:Nat):Int)=(b:Int)-(a:Int):=by omega
 go_enter Tryz.func178,Tryz.ntmps178;go_wp2
 go_loopg [9] ((b-a-1)/2+1) (fun k s9 wr=>s9=.int .i64 ((k:Int)-1)∧k≤(b-a-1)/2+1∧∃(dk:Array Int) (n:Nat),dk.size=d.size∧wr=putRow zAR (Sort.ahead w n) blk off dk ∧
  heapBuild ltInt (b-a) a k dk=heapBuild ltInt (b-a) a ((b-a-1)/2+1) d)
 case atStart=>exact⟨by rw[zOT av],Nat.le_refl _,d,0,rfl,(putRow_self zAR w blk off d hH).symm,rfl⟩
 obtain⟨rfl,ar,dk,n,ai,ap,ak⟩:=hrel;have aq:Holds zAR wr blk off dk:=by rw[ap];exact holds_putRow zAR _ blk off d dk (holds_ahead zAR w n blk off d hH) ai
 have A:Aside (wr=putRow zAR (Sort.ahead w n) blk off dk):=ap;clear ap;cases gk with
 | zero =>
   have hB:dk=heapBuild ltInt (b-a) a ((b-a-1)/2+1) d:=ak;clear ak aq ar;go_wp2;go_loopg [10] (b-a) (fun k aw au=>aw=.int .i64 ((k:Int)-1)∧k≤b-a∧∃(dj:Array Int) (n2:Nat),dj.size=d.size∧au=putRow zAR (Sort.ahead w n2) blk off dj∧heapPop ltInt a k dj=heapPop ltInt a (b-a) dk)
   case atStart=>exact⟨by rw[aa],Nat.le_refl _,dk,n,ai,A.out,rfl⟩
   obtain⟨rfl,ar,dj,n2,ah,af,ag⟩:=hrel;cases gk with
   | zero =>
     go_wp2;go_end0;refine⟨rfl,n2,?_⟩;have e:dj=heapSort ltInt d a b:=by rw[heapSort,←hB,←ag];rfl
     rw[←e]
   | succ k =>
     have ao:Holds zAR wr blk off dj:=by rw[af];exact holds_putRow zAR _ blk off d dj (holds_ahead zAR w n2 blk off d hH) ah
     have ay:∀t,t<d.size→wr.cell? ⟨blk,off+t,none⟩=some (.int .i32 dj[t]!):=fun t ht=>(ao t (by omega)).1
     have az:∀t,t<d.size→wr.frozen? ⟨blk,off+t,none⟩=false:=fun t ht=>(ao t (by omega)).2
     have A2:Aside (wr=putRow zAR (Sort.ahead w n2) blk off dj):=af;clear af ao;rcases Nat.eq_zero_or_pos k with ax|hkp
     · subst ax;go_wp2_with fail;go_region;go_wp2_with fail;rw[zCK zAR (i:=a) (j:=a) (by omega) (by omega) A2.out rfl rfl];refine (zCX blk off d.size cap (swp dj a (a)) (by rw[size_swp];exact ah) 0 0 a _ (holds_putRow zAR _ blk off d _ (holds_ahead zAR w (n2+1) blk off d hH) (by rw[size_swp];exact ah)) (Nat.zero_le _) (by rw[size_swp];omega) (by rw[size_swp];omega)).mono ?_;rintro e w1 ⟨rfl,m,aj⟩;go_wp2;go_roundg 0
       case measure=>omega
       refine⟨by simp,by omega,siftDown ltInt 0 a 0 (swp dj a (a)),n2+1+m,by rw[size_siftDown ltInt _ _ _ _ _ (Nat.le_refl _),size_swp];exact ah,?_,ag⟩
       first
        | rw[aj,putRow_ahead_putRow zAR w (n2+1) m blk off _ _ (size_siftDown ltInt _ _ _ _ _ (Nat.le_refl _))]
        | rw[putRow_ahead_putRow zAR w (n2+1) m blk off _ _ (size_siftDown ltInt _ _ _ _ _ (Nat.le_refl _))]
     skip
     go_wp2_with fail;go_region;go_wp2_with fail;rw[zCK zAR (i:=a) (j:=a+k) (by omega) (by omega) A2.out rfl rfl];refine (zCX blk off d.size cap (swp dj a (a+k)) (by rw[size_swp];exact ah) 0 k a _ (holds_putRow zAR _ blk off d _ (holds_ahead zAR w (n2+1) blk off d hH) (by rw[size_swp];exact ah)) (Nat.zero_le _) (by rw[size_swp];omega) (by rw[size_swp];omega)).mono ?_;rintro e w1 ⟨rfl,m,aj⟩;go_wp2;go_roundg k
     case measure=>omega
     refine⟨by simp,by omega,siftDown ltInt k a 0 (swp dj a (a+k)),n2+1+m,by rw[size_siftDown ltInt _ _ _ _ _ (Nat.le_refl _),size_swp];exact ah,?_,ag⟩
     first
      | rw[aj,putRow_ahead_putRow zAR w (n2+1) m blk off _ _ (size_siftDown ltInt _ _ _ _ _ (Nat.le_refl _))]
      | rw[putRow_ahead_putRow zAR w (n2+1) m blk off _ _ (size_siftDown ltInt _ _ _ _ _ (Nat.le_refl _))]
 | succ k =>
   have ae:=zCX blk off d.size cap dk ai k (b-a) a wr aq (by omega) (by omega) (by omega);rw[aa]at ae;go_wp2_with (go_at_call 215;refine ae.mono ?_;rintro e w1 ⟨rfl,m,aj⟩);go_roundg k
   case rel =>
    refine⟨by simp,by omega,siftDown ltInt (b-a) a k dk,n+m,by rw[size_siftDown ltInt _ _ _ _ _ (Nat.le_refl _)];exact ai,?_,ak⟩;rw[A.out,putRow_ahead_putRow zAR w n m blk off dk _ (size_siftDown ltInt _ _ _ _ _ (Nat.le_refl _))]
   omega
structure Callees13:Prop where
 ins:∀(blk off cap a b:Nat) (d:Array Int) (w:World),Holds zAR w blk off d→a≤b→b≤d.size→d.size<4611686018427387904 →
  Calls Tryz.prog 177 #[.slice (some ⟨blk,off,none⟩) d.size cap,.int .i64 a,.int .i64 b] w fun e w'=>e=.returned (.tuple #[])∧∃n,w'=putRow zAR (Sort.ahead w n) blk off (insertionSort ltInt d a b)
 brk:∀(blk off cap a b:Nat) (d:Array Int) (w:World),Holds zAR w blk off d→blk<w.heap.size→a≤b→b≤d.size→d.size<4611686018427387904 →
  Calls Tryz.prog 179 #[.slice (some ⟨blk,off,none⟩) d.size cap,.int .i64 a,.int .i64 b] w fun e w'=>e=.returned (.tuple #[])∧∃n os,w'=grow (putRow zAR (Sort.ahead w n) blk off (breakPatterns d a b)) os
 piv:∀(blk off cap a b:Nat) (d:Array Int) (w:World),Holds zAR w blk off d→blk<w.heap.size→a<b→b≤d.size→d.size<4611686018427387904 →
  Calls Tryz.prog 180 #[.slice (some ⟨blk,off,none⟩) d.size cap,.int .i64 a,.int .i64 b] w fun e w'=>e=.returned (.tuple #[.int .i64 (choosePivot ltInt d a b).1,.int .i64 (hintCode (choosePivot ltInt d a b).2)])∧∃n os,w'=grow (Sort.ahead w n) os
 par:∀(blk off cap a b:Nat) (d:Array Int) (w:World),Holds zAR w blk off d→a<b→b≤d.size→d.size<4611686018427387904 →
  Calls Tryz.prog 182 #[.slice (some ⟨blk,off,none⟩) d.size cap,.int .i64 a,.int .i64 b] w fun e w'=>e=.returned (.bool (partialInsertionSort ltInt d a b).2)∧∃n,w'=putRow zAR (Sort.ahead w n) blk off (partialInsertionSort ltInt d a b).1
 peq:∀(blk off cap a b pivot:Nat) (d:Array Int) (w:World),Holds zAR w blk off d→a≤pivot→pivot<b→b≤d.size→d.size<4611686018427387904 →
  Calls Tryz.prog 184 #[.slice (some ⟨blk,off,none⟩) d.size cap,.int .i64 a,.int .i64 b,.int .i64 pivot] w fun e w'=>e=.returned (.int .i64 (partitionEqual ltInt d a b pivot).1)∧∃n,w'=putRow zAR (Sort.ahead w n) blk off (partitionEqual ltInt d a b pivot).2
 prt:∀(blk off cap a b pivot:Nat) (d:Array Int) (w:World),Holds zAR w blk off d→a≤pivot→pivot<b→b≤d.size→d.size<4611686018427387904 →
  Calls Tryz.prog 185 #[.slice (some ⟨blk,off,none⟩) d.size cap,.int .i64 a,.int .i64 b,.int .i64 pivot] w fun e w'=>e=.returned (.tuple #[.int .i64 (partition ltInt d a b pivot).1,.bool (partition ltInt d a b pivot).2.1])∧∃n,w'=putRow zAR (Sort.ahead w n) blk off (partition ltInt d a b pivot).2.2
structure Plain13:Prop where
 swo:SWO ltInt
 ins:insertionSort_stmt ltInt
 par:partialInsertionSort_stmt ltInt
 prt:partition_stmt ltInt
 peq:partitionEqual_stmt ltInt
 pdq:pdq_stmt ltInt
theorem zLJ {h:Hint} (e:hintCode h=2):h=.decreasing:=by cases h <;> simp[hintCode]at e ⊢
theorem zRh {x y p q:Nat} (h1:q≤p) (h2:y≤x):decide (((x:Int)-(y:Int))/8≤(p:Int)-(q:Int))=decide (p-q≥(x-y)/8) :=
 decide_eq_decide.2 ⟨fun h=>by omega,fun h=>by omega⟩
theorem zJ7 (C:Callees13) (S:Plain13):∀(N blk off cap a b limit:Nat) (d:Array Int) (w:World),b-a<N→Holds zAR w blk off d→blk<w.heap.size→a≤b→b≤d.size→d.size<4611686018427387904→limit<4611686018427387904→Below ltInt a b d →
 Calls Tryz.prog 139 #[.slice (some ⟨blk,off,none⟩) d.size cap,.int .i64 a,.int .i64 b,.int .i64 limit] w fun e w'=>e=.returned (.tuple #[])∧At zAR w blk off (pdq ltInt d a b limit true true) w':=by
 intro N
 induction N with
 | zero=>intro _ _ _ _ _ _ _ _ h;exact absurd h (Nat.not_lt_zero _)
 | succ N ih =>
   intro blk off cap a b limit d w hN hH aa b6 hb cq ag a1;go_enter Tryz.func139,Tryz.ntmps139;go_wp2
   go_loopg [1,2,3,8,9] (b-a) (fun k s1 s2 s3 s8 s9 wr=>∃(a' b' lim:Nat) (wb wp:Bool) (dk:Array Int),s1=.int .i64 a'∧s2=.int .i64 b'∧s3=.int .i64 lim∧s8=.bool wb∧s9=.bool wp ∧
    a'≤b'∧b'≤d.size∧b'-a'≤k∧k≤b-a∧lim≤limit∧dk.size=d.size∧Below ltInt a' b' dk∧At zAR w blk off dk wr∧pdq ltInt dk a' b' lim wb wp=pdq ltInt d a b limit true true)
   case atStart=>exact⟨a,b,limit,true,true,d,rfl,rfl,rfl,rfl,rfl,b6,hb,Nat.le_refl _,Nat.le_refl _,Nat.le_refl _,rfl,a1,At.refl hH,rfl⟩
   obtain⟨a',b',lim,wb,wp,dk,rfl,rfl,rfl,rfl,rfl,af,ck,hk,cn,ah,ae,bo,bg,bt⟩:=hrel;obtain⟨bp,bf⟩:=bg.holds hH ae aa;have A:Aside (pdq ltInt dk a' b' lim wb wp=pdq ltInt d a b limit true true):=bt;clear bt
   by_cases h12:b'-a'≤12
   ·
    have bl:(b':Int)-(a':Int)≤12:=by omega
    have hc:=C.ins blk off cap a' b' dk wr bp af (by omega) (by omega);rw[ae]at hc;go_wp2_with (go_at_call 177;refine hc.mono ?_;rintro e w1 ⟨rfl,bh⟩)
    (try simp only[Exit.inBlock,Exit.then]);refine bodyPost_ret (results_none rfl _ _ _) rfl ?_
    refine⟨rfl,?_⟩;rw[←A.out,pdq_small h12];exact bg.step aa (S.ins S.swo dk a' b' af (by omega)).1.1 bh
   have bl:¬((b':Int)-(a':Int)≤12):=by omega
   by_cases hl0:lim=0
   ·
    subst hl0;have hc:=zIm blk off d.size cap dk ae a' b' wr bp af (by omega) (by omega);go_wp2_with (go_at_call 178;refine hc.mono ?_;rintro e w1 ⟨rfl,bh⟩)
    (try simp only[Exit.inBlock,Exit.then]);refine bodyPost_ret (results_none rfl _ _ _) rfl ?_
    refine⟨rfl,?_⟩;rw[←A.out,pdq_heap h12 rfl];exact bg.step aa (heapSort_holds S.swo dk a' b' af (by omega)).1.1 bh
   have ch:¬((lim:Int)=0):=by omega
   obtain⟨s1,B1,cp,s2,B2,ak,s3,B3⟩:=rd_facts (limit:=lim) (wb:=wb) (wp:=wp) S.swo S.par reverseRange_holds (show a'<b' by omega) (show b'≤dk.size by omega) bo;go_upto_if 35 with fail
   go_cut [3] from 19 (fun s3 wc=>s3=.int .i64 (rd ltInt dk a' b' lim wb wp).lim∧At zAR w blk off (rd ltInt dk a' b' lim wb wp).d1 wc)
   case first =>
    cases wb
    · have hc:=C.brk blk off cap a' b' dk wr bp bf af (by omega) (by omega);rw[ae]at hc;go_wp2_with (go_at_call 179;refine hc.mono ?_;rintro e w1 ⟨rfl,bh⟩);go_meet;refine⟨?_,bg.stepG aa s1 bh⟩;show Value.int .i64 ((lim:Int)-1)=Value.int .i64 ((lim-1:Nat):Int);congr 1;omega
    go_wp2_with fail;go_meet;exact⟨rfl,bg⟩
   obtain⟨rfl,a8⟩:=hcut;obtain⟨b9,a6⟩:=a8.holds hH (s1.trans ae) aa
   have bk:Calls Tryz.prog 180 #[.slice (some ⟨blk,off,none⟩) d.size cap,.int .i64 a',.int .i64 b'] wc fun e w'=>e=.returned (.tuple #[.int .i64 (rd ltInt dk a' b' lim wb wp).c.1,.int .i64 (hintCode (rd ltInt dk a' b' lim wb wp).c.2)])∧∃n os,w'=grow (Sort.ahead wc n) os:=by
    have:=C.piv blk off cap a' b' (rd ltInt dk a' b' lim wb wp).d1 wc b9 a6 (by omega) (by omega) (by omega);rw[s1,ae]at this;exact this
   go_upto_if 50 with (go_at_call 180;refine bk.mono ?_;rintro e w2 ⟨rfl,b7⟩)
   have aq:At zAR w blk off (rd ltInt dk a' b' lim wb wp).d1 w2:=a8.same hH (s1.trans ae) aa b7;obtain⟨cg,bx⟩:=aq.holds hH (s1.trans ae) aa;go_cut [11,12] from 19 (fun cm bs wc=>cm=.int .i64 (rd ltInt dk a' b' lim wb wp).pivot∧bs=.int .i64 (hintCode (rd ltInt dk a' b' lim wb wp).hint)∧At zAR w blk off (rd ltInt dk a' b' lim wb wp).d2 wc)
   case first =>
    by_cases hh:(rd ltInt dk a' b' lim wb wp).c.2=.decreasing
    · have bi:hintCode (rd ltInt dk a' b' lim wb wp).c.2=2:=by rw[hh];rfl
      obtain⟨e2,bm,bq⟩:=rd_dec hh;have a7:=zFJ blk off cap (rd ltInt dk a' b' lim wb wp).d1 a' b' w2 cg af (by omega) (by omega);rw[s1,ae]at a7;go_wp2_with (go_at_call 181;refine a7.mono ?_;rintro e w3 ⟨rfl,cd⟩);go_meet
      refine⟨?_,by rw[bq];rfl,by rw[e2];exact aq.step aa (by rw[←e2,s2,s1]) cd⟩;rw[bm];congr 1;omega
    have bi:¬(hintCode (rd ltInt dk a' b' lim wb wp).c.2=2):=fun h=>hh (zLJ h)
    obtain⟨e2,bm,bq⟩:=rd_not hh;go_wp2_with fail;go_meet;exact⟨by rw[bm],by rw[bq],by rw[e2];exact aq⟩
   obtain⟨rfl,rfl,ai⟩:=hcut;obtain⟨b8,bw⟩:=ai.holds hH (s2.trans ae) aa;go_upto_region 15 with fail
   go_cut [12,68] from 19 (fun bs cf wx=>bs=.int .i64 (hintCode (rd ltInt dk a' b' lim wb wp).hint)∧cf=.bool (wb&&wp&&decide ((rd ltInt dk a' b' lim wb wp).hint=.increasing))∧wx=wc)
   case first =>
    cases wb <;> cases wp <;> cases hh3:(rd ltInt dk a' b' lim _ _).hint <;>
     (have av:=congrArg hintCode hh3
      simp only[hintCode]at av;go_wp2_with fail;go_meet;exact⟨by simp[hh3,hintCode],by simp[hh3,hintCode],rfl⟩)
   obtain⟨rfl,rfl,rfl⟩:=hcut;go_upto_if 68 with fail
   go_cut [] from 19 (fun wx=>(rd ltInt dk a' b' lim wb wp).pi.2=false∧At zAR w blk off (rd ltInt dk a' b' lim wb wp).pi.1 wx)
   case first =>
    cases h68:(wb&&wp&&decide ((rd ltInt dk a' b' lim wb wp).hint=.increasing))
    · have ay:=rd_pi_no h68;go_wp2_with fail;go_meet;exact⟨by rw[ay],by rw[ay];exact ai⟩
    have ay:=rd_pi_yes h68;have bb:=C.par blk off cap a' b' (rd ltInt dk a' b' lim wb wp).d2 wc b8 (by omega) (by omega) (by omega);rw[s2,ae,←ay]at bb;go_wp2_with (go_at_call 182;refine bb.mono ?_;rintro e w4 ⟨rfl,b1⟩)
    all_goals first
     | (have ao:(rd ltInt dk a' b' lim wb wp).pi.2=false:=by rw[ay];assumption
        go_meet;exact⟨ao,ai.step aa (by rw[s3,s2]) b1⟩)
     | (have ao:(rd ltInt dk a' b' lim wb wp).pi.2=true:=by rw[ay];assumption
        (try simp only[Exit.inBlock,Exit.then]);refine bodyPost_ret (results_none rfl _ _ _) rfl ?_
        refine⟨rfl,?_⟩;rw[←A.out,pdq_done h12 hl0 ao];exact ai.step aa (by rw[s3,s2]) b1)
   obtain⟨ao,ar⟩:=hcut;obtain⟨b2,b3⟩:=ar.holds hH (s3.trans ae) aa;have cb:∀t,t<d.size→wc.cell? ⟨blk,off+t,none⟩=some (.int .i32 (rd ltInt dk a' b' lim wb wp).pi.1[t]!):=fun t ht=>(b2 t (by omega)).1
   have cj:∀t,t<d.size→wc.frozen? ⟨blk,off+t,none⟩=false:=fun t ht=>(b2 t (by omega)).2
   go_upto_region 17 with fail
   go_cut [87] from 19 (fun b5 wx=>b5=.bool (decide (a' > 0)&&!ltInt (rd ltInt dk a' b' lim wb wp).pi.1[a'-1]! (rd ltInt dk a' b' lim wb wp).pi.1[(rd ltInt dk a' b' lim wb wp).pivot]!)∧At zAR w blk off (rd ltInt dk a' b' lim wb wp).pi.1 wx)
   case first =>
    rcases Nat.eq_zero_or_pos a' with ha0|ha0
    · have br:decide ((a':Int) > 0)=false:=decide_eq_false (by omega);go_big_quiet (first|(go_at_call 183;refine Calls.quiet_of_same (So.cmp_Less_int _ _ _)));go_wp2_with fail;go_meet;exact⟨by simp[ha0],ar.ahead nq⟩
    have br:(a':Int) > 0:=by omega
    go_big_quiet (first|(go_at_call 183;refine Calls.quiet_of_same (So.cmp_Less_int _ _ _)));go_wp2_with fail;go_meet;exact⟨by simp[ha0],ar.ahead nq⟩
   obtain⟨rfl,aw⟩:=hcut;obtain⟨bz,b4⟩:=aw.holds hH (s3.trans ae) aa;clear cb cj;cases h87:(decide (a' > 0)&&!ltInt (rd ltInt dk a' b' lim wb wp).pi.1[a'-1]! (rd ltInt dk a' b' lim wb wp).pi.1[(rd ltInt dk a' b' lim wb wp).pivot]!)
   ·
    obtain⟨mid,ap,d4,hx⟩:∃mid ap d4,partition ltInt (rd ltInt dk a' b' lim wb wp).pi.1 a' b' (rd ltInt dk a' b' lim wb wp).pivot=(mid,ap,d4):=⟨(partition ltInt (rd ltInt dk a' b' lim wb wp).pi.1 a' b' (rd ltInt dk a' b' lim wb wp).pivot).1,(partition ltInt (rd ltInt dk a' b' lim wb wp).pi.1 a' b' (rd ltInt dk a' b' lim wb wp).pivot).2.1,(partition ltInt (rd ltInt dk a' b' lim wb wp).pi.1 a' b' (rd ltInt dk a' b' lim wb wp).pivot).2.2,rfl⟩;obtain⟨r1,r2,r3,r4,r5,r6,r7⟩:=round_part S.swo S.prt ak.1 ak.2 (show b'≤(rd ltInt dk a' b' lim wb wp).pi.1.size by omega) B3 hx;have bc:=C.prt blk off cap a' b' (rd ltInt dk a' b' lim wb wp).pivot (rd ltInt dk a' b' lim wb wp).pi.1 wc bz ak.1 ak.2 (by omega) (by omega);rw[s3,ae,hx]at bc;have X:Aside (partition ltInt (rd ltInt dk a' b' lim wb wp).pi.1 a' b' (rd ltInt dk a' b' lim wb wp).pivot=(mid,ap,d4)):=hx;clear hx;go_upto_if 113 with (go_at_call 185;refine bc.mono ?_;rintro e w7 ⟨rfl,bn⟩)
    have hx:=X.out;have au:At zAR w blk off d4 w7:=aw.step aa r3 bn;obtain⟨bu,aj⟩:=au.holds hH (r3.trans (s3.trans ae)) aa
    by_cases h4:mid-a'<b'-mid
    · have cc:(mid:Int)-(a':Int)<(b':Int)-(mid:Int):=by omega
      have ba:=ih blk off cap a' mid (rd ltInt dk a' b' lim wb wp).lim d4 w7 (by omega) bu aj (by omega) (by omega) (by omega) (Nat.lt_of_le_of_lt (Nat.le_trans rd_lim_le ah) ag) r4;rw[r3,s3,ae]at ba;obtain⟨pL,sL⟩:=S.pdq S.swo d4 a' mid (rd ltInt dk a' b' lim wb wp).lim true true (by omega) (by omega) r4;go_wp2_with (go_at_call 139;refine ba.mono ?_;rintro e w8 ⟨rfl,bj⟩);go_roundg (b'-(mid+1))
      case rel =>
       refine⟨mid+1,b',(rd ltInt dk a' b' lim wb wp).lim,decide (mid-a'≥(b'-a')/8),ap,pdq ltInt d4 a' mid (rd ltInt dk a' b' lim wb wp).lim true true,by simp,rfl,rfl,?_,rfl,by omega,by omega,Nat.le_refl _,by omega,Nat.le_trans rd_lim_le ah,by rw[pL.1,r3,s3,ae],(r6 _ pL sL).1,au.stepG aa pL.1 bj,?_⟩
       · exact congrArg Value.bool (zRh (by omega) (by omega))
       rw[←A.out,pdq_left h12 hl0 ao h87 (by rw[hx];exact⟨r1,r2⟩) (by rw[hx];exact h4),hx]
      omega
    have cc:¬((mid:Int)-(a':Int)<(b':Int)-(mid:Int)):=by omega
    have ba:=ih blk off cap (mid+1) b' (rd ltInt dk a' b' lim wb wp).lim d4 w7 (by omega) bu aj (by omega) (by omega) (by omega) (Nat.lt_of_le_of_lt (Nat.le_trans rd_lim_le ah) ag) r5;rw[r3,s3,ae]at ba;obtain⟨pL,sL⟩:=S.pdq S.swo d4 (mid+1) b' (rd ltInt dk a' b' lim wb wp).lim true true (by omega) (by omega) r5;go_wp2_with (go_at_call 139;refine ba.mono ?_;rintro e w8 ⟨rfl,bj⟩);go_roundg (mid-a')
    case rel =>
     refine⟨a',mid,(rd ltInt dk a' b' lim wb wp).lim,decide (b'-mid≥(b'-a')/8),ap,pdq ltInt d4 (mid+1) b' (rd ltInt dk a' b' lim wb wp).lim true true,rfl,rfl,rfl,?_,rfl,by omega,by omega,Nat.le_refl _,by omega,Nat.le_trans rd_lim_le ah,by rw[pL.1,r3,s3,ae],(r7 _ pL sL).1,au.stepG aa pL.1 bj,?_⟩
     · exact congrArg Value.bool (zRh (by omega) (by omega))
     rw[←A.out,pdq_right h12 hl0 ao h87 (by rw[hx];exact⟨r1,r2⟩) (by rw[hx];exact h4),hx]
    omega
   ·
    have ax:=h87;simp only[Bool.and_eq_true,decide_eq_true_eq,Bool.not_eq_true']at ax;obtain⟨mid,d4,hx⟩:∃mid d4,partitionEqual ltInt (rd ltInt dk a' b' lim wb wp).pi.1 a' b' (rd ltInt dk a' b' lim wb wp).pivot=(mid,d4):=⟨(partitionEqual ltInt (rd ltInt dk a' b' lim wb wp).pi.1 a' b' (rd ltInt dk a' b' lim wb wp).pivot).1,(partitionEqual ltInt (rd ltInt dk a' b' lim wb wp).pi.1 a' b' (rd ltInt dk a' b' lim wb wp).pivot).2,rfl⟩;obtain⟨r1,r2,r3,r4,_⟩:=round_eq S.swo S.peq ax.1 ak.1 ak.2 (show b'≤(rd ltInt dk a' b' lim wb wp).pi.1.size by omega) B3 ax.2 hx;have az:=C.peq blk off cap a' b' (rd ltInt dk a' b' lim wb wp).pivot (rd ltInt dk a' b' lim wb wp).pi.1 wc bz ak.1 ak.2 (by omega) (by omega);rw[s3,ae,hx]at az;have X:Aside (partitionEqual ltInt (rd ltInt dk a' b' lim wb wp).pi.1 a' b' (rd ltInt dk a' b' lim wb wp).pivot=(mid,d4)):=hx;clear hx;go_wp2_with (go_at_call 184;refine az.mono ?_;rintro e w7 ⟨rfl,bn⟩);go_roundg (b'-mid)
    case rel =>
     have hx:=X.out;exact⟨mid,b',(rd ltInt dk a' b' lim wb wp).lim,wb,wp,d4,rfl,rfl,rfl,rfl,rfl,r2,ck,Nat.le_refl _,by omega,Nat.le_trans rd_lim_le ah,by rw[r3,s3,ae],r4,aw.step aa r3 bn,by rw[←A.out,pdq_eq h12 hl0 ao h87 (by rw[hx];exact⟨r1,r2⟩),hx]⟩
    omega
end Go.Proofs.YthngjlllojiacaaGreatDoor
namespace Go.Proofs.YthngjlllojiacaaGreatDoor
open Go.RowKit Go.Sort
def intOf:Value→Int | .int _ q=>q|_=>0
section
variable {α:Type} [Inhabited α] (lt:α→α→Bool)
theorem insInner_go (a j:Nat) (d:Array α) (hj:a<j) (hl:lt d[j]! d[j-1]! = true):insInner lt a j d=insInner lt a (j-1) (swp d j (j-1)):=by
 obtain⟨k,rfl⟩:∃k,j=k+1:=⟨j-1,by omega⟩;rw[insInner];simp only[Nat.add_sub_cancel]at hl ⊢;simp[hj,hl]
theorem insInner_stop (a j:Nat) (d:Array α) (h:j≤a∨lt d[j]! d[j-1]! = false):insInner lt a j d=d:=by
 cases j with
 | zero=>rw[insInner]
 | succ k =>
   rw[insInner];simp only[Nat.add_sub_cancel]at h;rcases h with h|h
   · simp[show ¬k+1 > a by omega]
   simp[h]
theorem insOuter_go (a b i:Nat) (d:Array α) (h:i<b):insOuter lt a b i d=insOuter lt a b (i+1) (insInner lt a i d):=by rw[insOuter,if_pos h]
theorem insOuter_stop (a b i:Nat) (d:Array α) (h:¬i<b):insOuter lt a b i d=d:=by rw[insOuter,if_neg h]
end
section
variable {α:Type} [Inhabited α] (enc:α→Value)
theorem putRow_drewN (w:World) (m q blk off:Nat) (d:Array α):(putRow enc (Sort.ahead w m) blk off d).drewN q=putRow enc (Sort.ahead w (m+q)) blk off d:=by
 show Sort.ahead (putRow enc (Sort.ahead w m) blk off d) q=_;rw[putRow_ahead enc w m,ahead_ahead,←putRow_ahead]
theorem swap_worldA (w:World) (m q blk off:Nat) (d:Array α) (j k:Nat) (hj:j<d.size) (hk:k<d.size) :
 (((putRow enc (Sort.ahead w m) blk off d).drewN q).setCell ⟨blk,off+j,none⟩ (enc d[k]!)).setCell ⟨blk,off+k,none⟩ (enc d[j]!)=putRow enc (Sort.ahead w (m+q)) blk off (swp d j k):=by
 rw[putRow_drewN];exact putRow_swp enc _ blk off d j k hj hk
end
theorem So.insertionSort_int (blk off cap a b:Nat) (d:Array Int) (w:World) (hH:Holds (Value.int .i32) w blk off d) (aq:a≤b) (hb:b≤d.size) (aw:d.size<4611686018427387904) :
 Calls Tryz.prog 177 #[.slice (some ⟨blk,off,none⟩) d.size cap,.int .i64 a,.int .i64 b] w fun e w' =>
  e=.returned (.tuple #[])∧∃n,w'=putRow (Value.int .i32) (Sort.ahead w n) blk off (Sort.insertionSort ltInt d a b):=by
 go_enter Tryz.func177,Tryz.ntmps177;go_wp2
 go_loopw [6] (fun vi wr=>∃(i n:Nat) (dk:Array Int),vi=.int .i64 i∧a<i∧i≤b+1∧dk.size=d.size∧wr=putRow (Value.int .i32) (Sort.ahead w n) blk off dk ∧
  insOuter ltInt a b i dk=insOuter ltInt a b (a+1) d) (fun vi _=>b+1-(intOf vi).toNat)
 case atStart=>exact⟨a+1,0,d,by go_num,by omega,by omega,rfl,(putRow_self _ _ _ _ _ hH).symm,rfl⟩
 obtain⟨i,n,dk,rfl,ao,ar,ag,av,hO⟩:=hrel;have HO:Hid (insOuter ltInt a b i dk=insOuter ltInt a b (a+1) d):=hO;clear hO;go_wp2
 ·
  go_loopw [7] (fun vj ah=>∃(j m:Nat) (dj:Array Int),vj=.int .i64 j∧a≤j∧j≤i∧dj.size=d.size∧ah=putRow (Value.int .i32) (Sort.ahead w m) blk off dj ∧
   insInner ltInt a j dj=insInner ltInt a i dk) (fun vj _=>(intOf vj).toNat)
  case atStart=>exact⟨i,n,dk,rfl,by omega,Nat.le_refl _,ag,rfl,rfl⟩
  obtain⟨j,m,dj,rfl,ap,ak,ae,aa,hI⟩:=hrel;have ai:i<b:=by assumption
  obtain⟨G,hG⟩:∃G:Nat→Int,∀t,G t=dj[t]! := ⟨fun t=>dj[t]!,fun _=>rfl⟩
  have aj:∀t,t<d.size→wr.cell? ⟨blk,off+t,none⟩=some (.int .i32 (G t)):=fun t ht=>by
   rw[aa,hG];exact cell?_putRow _ _ _ _ d dj (holds_ahead _ _ _ _ _ _ hH) ae t (by omega)
  have au:∀t,t<d.size→wr.frozen? ⟨blk,off+t,none⟩=false:=fun t ht=>by
   rw[aa,frozen?_putRow];exact ((holds_ahead _ _ m _ _ _ hH) t ht).2
  have HW:Hid (wr=putRow (Value.int .i32) (Sort.ahead w m) blk off dj):=aa;have HG:Hid (∀t,G t=dj[t]!):=hG;have HI:Hid (insInner ltInt a j dj=insInner ltInt a i dk):=hI;clear aa hG hI hH
  have out:(j≤a∨ltInt dj[j]! dj[j-1]! = false)→∀q,∃i' n' af,Value.int .i64 ((i:Int)+1)=.int .i64 (i':Nat)∧a<i'∧i'≤b+1∧af.size=d.size ∧
   wr.drewN q=putRow (Value.int .i32) (Sort.ahead w n') blk off af∧insOuter ltInt a b i' af=insOuter ltInt a b (a+1) d:=fun hs q =>
   ⟨i+1,m+q,dj,by go_num,by omega,by omega,ae,by rw[HW.out];exact putRow_drewN _ _ _ _ _ _ _,
    by rw[←HO.out,insOuter_go _ _ _ _ _ ai,←HI.out,insInner_stop _ _ _ _ hs]⟩
  have OUT:Hid _:=out;clear out;go_wp2
  by_cases hja:a<j
  rotate_left
  · go_quiet (first|(go_at_call 183;refine Calls.quiet_of_same (So.cmp_Less_int _ _ _)));go_wp2;go_roundw
    case rel=>exact OUT.out (Or.inl (by omega)) nq
    simp[intOf];omega
  go_quiet (first|(go_at_call 183;refine Calls.quiet_of_same (So.cmp_Less_int _ _ _)));go_wp2
  ·
   have hl:ltInt (G j) (G (j-1))=true:=by assumption
   go_region
   all_goals go_wp2
   go_roundw
   case measure=>simp[intOf];omega
   refine⟨j-1,m+(nq+1),swp dj j (j-1),by congr 1;omega,by omega,by omega,by rw[size_swp];exact ae,?_,?_⟩
   · rw[HW.out,HG.out,HG.out];exact swap_worldA _ w m (nq+1) blk off dj j (j-1) (by omega) (by omega)
   rw[←HI.out,insInner_go ltInt a j dj hja (by rw[←HG.out,←HG.out];exact hl)]
  ·
   have hl:ltInt (G j) (G (j-1))=false:=by assumption
   go_roundw
   case rel=>exact OUT.out (Or.inr (by rw[←HG.out,←HG.out];exact hl)) nq
   simp[intOf];omega
 ·
  have hge:¬i<b:=by assumption
  go_end0;exact⟨rfl,n,by unfold Sort.insertionSort;rw[←HO.out,insOuter_stop _ _ _ _ _ hge]⟩
end Go.Proofs.YthngjlllojiacaaGreatDoor
