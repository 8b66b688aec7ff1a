/- Pages: plain laws of what New makes: one cell more, one range more. -/
import Derived.Test.YtikiplbhlohmdaaGreatDoorMdCheck
import Derived.DeepKeys4
set_option linter.unusedVariables false
set_option linter.unusedSimpArgs false
namespace Go.Proofs.YtikiplbhlohmdaaGreatDoor
def Pg.ok (c:Int):Bool:=decide (0≤c∧c≤1114111)
theorem Pg.last_snoc (L:List (Int × Int)) (x:Int × Int) (c:Int):Pg.last (L++[x]) c=if x.1=c then x.2 else Pg.last L c:=by
 unfold Pg.last
 rw[Y8]
 rfl
theorem Pg.blk_skip (L:List (Int × Int)) (x:Int × Int) (h:Pg.ok x.1=false) {m:Nat} (hm:m<4352):Pg.blk (Pg.last (L++[x])) m=Pg.blk (Pg.last L) m:=by
 unfold Pg.blk
 refine Y0 fun i hi=>?_
 have hi:=List.mem_range.1 hi
 rw[Pg.last_snoc,Zl]
 intro e
 unfold Pg.ok at h
 rw[ZY]at h
 omega
theorem Pg.blk_other (L:List (Int × Int)) (x:Int × Int) {m n:Nat} (hn:x.1/256=(n:Int)) (hne:m≠n):Pg.blk (Pg.last (L++[x])) m=Pg.blk (Pg.last L) m:=by
 unfold Pg.blk
 refine Y0 fun i hi=>?_
 have hi:=List.mem_range.1 hi
 rw[Pg.last_snoc,Zl]
 intro e
 omega
theorem Pg.blk_set (L:List (Int × Int)) (x:Int × Int) {n j:Nat} (hn:x.1/256=(n:Int)) (hj:x.1%256=(j:Int)):Pg.blk (Pg.last (L++[x])) n=(Pg.blk (Pg.last L) n).set j x.2:=by
 refine XG fun i=>?_
 rw[List.getElem?_set,Pg.blk_len]
 by_cases hi:i<256
 · rw[Pg.blk_get _ _ hi,Pg.blk_get _ _ hi,Pg.last_snoc]
   by_cases e:j=i
   · subst e
     rw[Zp (by omega),Zp rfl,Zp hi]
   · rw[Zl (by omega),Zl e]
 · rw[Yn (by rw[Pg.blk_len];omega)]
   split
   · rw[Zl (by omega)]
   · rw[Yn (by rw[Pg.blk_len];omega)]
theorem Pg.blk_last_nil (n:Nat):Pg.blk (Pg.last []) n=Pg.zeros:=by
 unfold Pg.blk Pg.zeros
 refine XG fun i=>?_
 by_cases hi:i<256
 · rw[Zu,XN hi,List.getElem?_replicate,Zp hi];rfl
 · rw[Yn (by rw[Zg,List.length_range];omega),Yn (by rw[YD];omega)]
def Pg.place (bl:List (List Int)) (b:List Int):Option Nat:=if b∈bl then some (Pg.at bl b) else none
theorem Pg.place_add {bl:List (List Int)} {b:List Int} (h:b∉bl) (x:List Int):Pg.place (Pg.add bl b) x=if x=b then some bl.length else Pg.place bl x:=by
 unfold Pg.place
 by_cases hx:x=b
 · subst hx
   rw[Zp (Pg.add_mem.2 (.inr rfl)),Zp rfl]
   unfold Pg.add Pg.at
   rw[Zl h,List.idxOf_append,Zl h]
   simp
 · rw[Zl hx]
   by_cases hm:x∈bl
   · rw[Zp (Pg.add_mem.2 (.inl hm)),Zp hm,Pg.add_at hm]
   · rw[Zl fun h'=>(Pg.add_mem.1 h').elim hm hx,Zl hm]
theorem Pg.add_there {bl:List (List Int)} {b:List Int} (h:b∈bl):Pg.add bl b=bl:=Zp h
theorem Pg.add_new {bl:List (List Int)} {b:List Int} (h:b∉bl):Pg.add bl b=bl++[b]:=Zl h
theorem Pg.zeros_mem (f:Int→Int) (m:Nat):Pg.zeros∈Pg.bls f m:=(Pg.bls_mem f m _).2 (.inl rfl)
theorem Pg.at_zeros (f:Int→Int) (m:Nat):Pg.at (Pg.bls f m) Pg.zeros=0:=by
 have h:=Pg.bls_head f m
 obtain⟨l,hl⟩:∃l,Pg.bls f m=Pg.zeros::l:=by
  cases hb:Pg.bls f m with
  | nil=>rw[hb]at h;cases h
  | cons y l=>rw[hb]at h;simp at h;exact⟨l,by rw[h]⟩
 rw[hl]
 unfold Pg.at
 simp
def Pg.idxZ (f:Int→Int) (m:Nat):List Int:=Pg.idx f m++List.replicate (4352-m) 0
theorem Pg.idxZ_len (f:Int→Int) {m:Nat} (h:m≤4352):(Pg.idxZ f m).length=4352:=by
 unfold Pg.idxZ
 rw[Ze,Pg.idx_len,YD]
 omega
theorem Pg.idxZ_end (f:Int→Int):Pg.idxZ f 4352=Pg.idx f 4352:=by unfold Pg.idxZ;simp
theorem Pg.idxZ_set (f:Int→Int) {m:Nat} (h:m<4352):Pg.idxZ f (m+1)=(Pg.idxZ f m).set m (Pg.at (Pg.bls f (m+1)) (Pg.blk f m):Int):=by
 unfold Pg.idxZ
 rw[Pg.idx_succ,show 4352-m=(4352-(m+1))+1 by omega,List.replicate_succ,Zz,YC _ _ (by rw[Pg.idx_len];exact Zb _),Pg.idx_len,Yv]
 rfl
theorem Pg.idxZ_skip (f:Int→Int) {m:Nat} (h:m<4352) (hb:Pg.blk f m=Pg.zeros):Pg.bls f (m+1)=Pg.bls f m∧Pg.idxZ f (m+1)=Pg.idxZ f m:=by
 have h1:Pg.bls f (m+1)=Pg.bls f m:=by rw[Pg.bls,hb,Pg.add_there (Pg.zeros_mem f m)]
 refine⟨h1,?_⟩
 rw[Pg.idxZ_set f h,h1,hb,Pg.at_zeros]
 refine XG fun i=>?_
 rw[List.getElem?_set]
 by_cases e:m=i
 · subst e
   rw[Zp rfl,Zp (by rw[Pg.idxZ_len f (by omega)];exact h)]
   unfold Pg.idxZ
   rw[ZL (by rw[Pg.idx_len];exact Zb _),Pg.idx_len,Yv,List.getElem?_replicate,Zp (by omega)]
   rfl
 · rw[Zl e]
end Go.Proofs.YtikiplbhlohmdaaGreatDoor
namespace Go.Proofs.YtikiplbhlohmdaaGreatDoor
open Go.RowKit
theorem Pg.run_load {P:Program} (w:World) (t:TypeId) (d:TypeDesc) (b o n:Nat) (xs:List Value) (hx:xs.length=n) (hc:∀(j:Nat) v,xs[j]?=some v→w.cell? ⟨b,o+j,none⟩=some v)
 (hu:P.underlying t=some d) (hd:(match d with | .struct _ | .array _ _=>true|_=>false)=true) (hi:(P.info? t).map (·.size)=some n) :
 (Instr.loadAt t (.pointer (some ⟨b,o,none⟩))).run P w=.ok (.agg xs.toArray) w:=by
 have hl:(loadCells ⟨b,o,none⟩ xs.length).run P w=.ok xs.toArray w :=
  run_loadCells_list (P:=P) w ⟨b,o,none⟩ xs (fun j v hv=>by
   have ae:(⟨b,o,none⟩:Addr).add j=⟨b,o+j,none⟩:=by unfold Addr.add;split <;> simp_all
   rw[ae]
   exact hc j v hv)
 subst hx
 have aa:(isAgg t).run P w=.ok true w:=by cases d <;> simp at hd <;> simp[isAgg,Xg hu]
 simp only[Instr.loadAt,Instr.sureAddr,YA,Yq,Result.andThen]
 cases hq:P.info? t with
 | none=>simp[hq]at hi
 | some i =>
   have hs:i.size=xs.length:=by simp[hq]at hi;omega
   simp[loadVar,YA,aa,sizeOf,typeInfo,hq,hs,hl]
theorem Pg.wp_load {P:Program} {o:Oper} {a:Act} {w:World} {K:Act→World→Prop} {Q:Exit→Act→World→Prop} (t:TypeId) (x:Operand) (ho:o.op=.load t x) (v u:Value) (hx:a.eval x=v)
 (hr:(Instr.loadAt t v).run P w=.ok u w) (h:K (a.put o.dst u) w):o.wp P a w K Q:=by
 unfold Oper.wp execOp
 subst hx
 simp only[ho,YA,hr,Yr,Yq]
 exact h
theorem Pg.wpList_load {P:Program} {ops:Array Oper} {rest:List Oper} {o:Oper} {a:Act} {w:World} {Q:Exit→Act→World→Prop} (aa:o.guard=none) (t:TypeId) (x:Operand) (ho:o.op=.load t x) (v u:Value) (hx:a.eval x=v)
 (hr:(Instr.loadAt t v).run P w=.ok u w) (h:wpList P ops Q rest (a.put o.dst u) w):wpList P ops Q (o::rest) a w :=
 wpList_plain aa fun _ hK=>Pg.wp_load t x ho v u hx hr (hK _ _ h)
theorem Pg.infoBlk:(Tryz.prog.info? 186).map (·.size)=some 256:=by kernel_rfl
theorem infoCell:(Tryz.prog.info? 166).map (fun i=>(i.zero,i.size,i.bytes))=some (some (.agg #[.int .i32 0,.int .u16 0]),2,8):=by kernel_rfl
def Pg.cellsOk (L:List (Int × Int)):Prop:=∀x∈L,-2147483648≤x.1∧x.1≤2147483647∧0≤x.2∧x.2≤65535
def Pg.IsL (lo:Nat) (w:World) (v:Value) (idx:List Int) (bl:List (List Int)):Prop :=
 ∃g A c,v=.pointer (some ⟨g,0,none⟩)∧lo≤g∧Rw.At w g 190 (idx.map (Value.int .u16)++[.slice A bl.length c])∧Sl w w.heap.size A (bl.flatten.map (Value.int .u16))∧∀a,A=some a→lo≤a.block
theorem Pg.IsL.is {lo:Nat} {w:World} {v:Value} {idx:List Int} {bl:List (List Int)} (h:Pg.IsL lo w v idx bl):Pg.Is w v idx bl:=by
 obtain⟨g,A,c,h1,_,h2,h3,_⟩:=h
 exact⟨g,A,c,h1,h2,h3⟩
theorem Pg.IsL.grown {lo b:Nat} {w w':World} {v:Value} {idx:List Int} {bl:List (List Int)} (h:Pg.IsL lo w v idx bl) (hg:w.grownBy w' (some b)) (hb:b<lo):Pg.IsL lo w' v idx bl:=by
 obtain⟨g,A,c,h1,h0,h2,h3,h4⟩:=h
 refine⟨g,A,c,h1,h0,h2.grown hg (by simp;omega),fun hx=>?_,h4⟩
 obtain⟨q,o,hA,hq,hc⟩:=h3 hx
 have aa:=h4 _ hA
 refine⟨q,o,hA,Zf hq hg.size,fun i hi=>?_⟩
 rw[←hc i hi]
 have hk:=hg.block q hq (by simp;dsimp only at aa;omega)
 simp[World.cell?,hk]
def Pg.OfL (lo:Nat) (w:World) (v:Value) (f:Int→Int):Prop:=Pg.IsL lo w v (Pg.idx f 4352) (Pg.bls f 4352)
theorem Pg.keyed32:Go.Maps.Keyed Tryz.prog 21:=Go.Maps.int_keyed Tryz.underlying21
theorem Pg.key32 {n:Nat} (h:n<4352):keyOf Tryz.prog 21 (.int .i32 n)=some (.int .i32 n):=Go.Maps.keyOf_int_mk Tryz.underlying21 (by simp only[Lit.wf,ZB,Zm];exact⟨Z9 (by decide:_≤(0:Int)) (by omega),Z9 (by omega:(n:Int)≤4352) (by decide)⟩)
def Pg.ptr (g:Option Nat):Value:=.pointer (g.map fun g=>⟨g,0,none⟩)
def Pg.vs (b:List Int):List Value:=b.map (Value.int .u16)
def Pg.St (lo hi:Nat) (W:World) (mb:Nat) (f:Int→Int) (G:Nat→Option Nat):Prop :=
 (∃F,Mp.Is Tryz.prog 21 W mb F∧∀n:Nat,n<4352→F (.int .i32 n)=(G n).map fun g=>.pointer (some ⟨g,0,none⟩)) ∧
 (∀n,n<4352→G n=none→Pg.blk f n=Pg.zeros)∧(∀n g,n<4352→G n=some g→lo≤g∧g<hi∧Rw.At W g 186 (Pg.vs (Pg.blk f n))) ∧
 (∀n n' g,n<4352→n'<4352→G n=some g→G n'=some g→n=n')
section
variable {lo hi:Nat} {W W':World} {mb:Nat} {f f':Int→Int} {G:Nat→Option Nat}
theorem Pg.St.made (w:World) (lo hi:Nat):Pg.St lo hi (w.alloc (.map #[] 0)) w.heap.size (Pg.last []) fun _=>none :=
 ⟨⟨_,Mp.Is.made w Tryz.prog 21,fun _ _=>rfl⟩,fun n _ _=>Pg.blk_last_nil n,fun _ _ _ h=>(nomatch h),fun _ _ _ _ _ h=>(nomatch h)⟩
theorem Pg.St.lt (h:Pg.St lo hi W mb f G):mb<W.heap.size:=by
 obtain⟨⟨F,hF,_⟩,_⟩:=h
 exact hF.lt
theorem Pg.St.below {B:Nat} (h:Pg.St lo hi W mb f G) (hb:Below B W W') (h1:mb<B) (h2:hi≤B):Pg.St lo hi W' mb f G:=by
 obtain⟨⟨F,⟨es,c,hh,r⟩,hF⟩,h3,h4,h5⟩:=h
 exact⟨⟨F,⟨es,c,(hb.block mb h1).trans hh,r⟩,hF⟩,h3,fun n g hn hg=>⟨(h4 n g hn hg).1,(h4 n g hn hg).2.1,(h4 n g hn hg).2.2.below' hb (by have:=(h4 n g hn hg).2.1;omega)⟩,h5⟩
theorem Pg.St.more {hi':Nat} (h:Pg.St lo hi W mb f G) (hh:hi≤hi'):Pg.St lo hi' W mb f G :=
 ⟨h.1,h.2.1,fun n g hn hg=>⟨(h.2.2.1 n g hn hg).1,Zf (h.2.2.1 n g hn hg).2.1 hh,(h.2.2.1 n g hn hg).2.2⟩,h.2.2.2⟩
theorem Pg.St.turn (h:Pg.St lo hi W mb f G) (hf:∀n,n<4352→Pg.blk f' n=Pg.blk f n):Pg.St lo hi W mb f' G :=
 ⟨h.1,fun n hn hg=>by rw[hf n hn];exact h.2.1 n hn hg,fun n g hn hg=>by rw[hf n hn];exact h.2.2.1 n g hn hg,h.2.2.2⟩
theorem Pg.St.look (h:Pg.St lo hi W mb f G) {n:Nat} (hn:n<4352):(Instr.lookup 220 (.map (some mb)) (.int .i32 n) false).run Tryz.prog W=.ok (Pg.ptr (G n)) W:=by
 obtain⟨⟨F,hF,hG⟩,_⟩:=h
 have hz:(zeroValue 221).run Tryz.prog W=.ok (.pointer none) W:=by kernel_rfl
 have:=hF.look Pg.keyed32 Tryz.underlying220 hz (Pg.key32 hn) false
 rw[hG n hn]at this
 rw[this]
 cases G n <;> rfl
theorem Pg.St.put (h:Pg.St lo hi W mb f G) {n:Nat} (hn:n<4352) (hg:G n=none) (af:lo≤W.heap.size) (ag:hi≤W.heap.size) :
 ∃W' G',(Instr.mapUpdate 220 (.map (some mb)) (.int .i32 n) (.pointer (some ⟨W.heap.size,0,none⟩))).run Tryz.prog (W.alloc (.cells (Pg.vs Pg.zeros).toArray 186))=.ok () W' ∧
  Pg.St lo W'.heap.size W' mb f G'∧G' n=some W.heap.size∧(W.alloc (.cells (Pg.vs Pg.zeros).toArray 186)).grownBy W' (some mb):=by
 have hmb:=h.lt
 obtain⟨⟨F,hF,hG⟩,h2,h3,h4⟩:=h
 have aa:Mp.Is Tryz.prog 21 (W.alloc (.cells (Pg.vs Pg.zeros).toArray 186)) mb F:=hF.below ((Zd _ _).alloc (Zb _) _)
 obtain⟨F',g1,g2⟩:∃F':Value→Option Value,F' (.int .i32 n)=some (.pointer (some ⟨W.heap.size,0,none⟩))∧∀z,z≠.int .i32 n→F' z=F z:=by
  classical
  exact⟨fun z=>if z=.int .i32 n then some (.pointer (some ⟨W.heap.size,0,none⟩)) else F z,by simp,fun z hz=>by simp[hz]⟩
 obtain⟨W',k1,k2,k3⟩:=aa.put Pg.keyed32 Tryz.underlying220 (Pg.key32 hn) F' g1 g2
 have ah:W.heap.size+1≤W'.heap.size:=by have:=k3.size;simpa using this
 refine⟨W',fun k=>if k=n then some W.heap.size else G k,k1,⟨⟨F',k2,fun k hk=>?_⟩,fun k hk=>?_,fun k g hk=>?_,fun k k' g hk ae=>?_⟩,by simp,k3⟩
 · by_cases e:k=n
   · subst e;rw[g1];simp
   · rw[g2 _ (by simp;omega),hG k hk];simp[e]
 · by_cases e:k=n
   · subst e;simp
   · simp only[Zl e];exact h2 k hk
 · have hne:∀q cs,Rw.At (W.alloc (.cells (Pg.vs Pg.zeros).toArray 186)) q 186 cs→Rw.At W' q 186 cs:=fun q cs hq=>hq.grown k3 (by
    intro e
    cases e
    obtain⟨es,c,hh,_⟩:=aa
    have:=hq.symm.trans hh
    cases this)
   by_cases e:k=n
   · subst e
     simp only[Yt,Zi]
     rintro rfl
     refine⟨af,by omega,hne _ _ ?_⟩
     rw[h2 _ hk hg]
     exact Rw.At.new W 186 (Pg.vs Pg.zeros)
   · simp only[Zl e]
     intro he
     obtain⟨a1,a2,a3⟩:=h3 k g hk he
     exact⟨a1,by omega,hne _ _ (a3.alloc _)⟩
 · by_cases e:k=n
   · by_cases e':k'=n
     · intros;omega
     · simp only[Zp e,Zl e',Zi]
       rintro rfl h6
       have:=(h3 k' _ ae h6).2.1
       omega
   · by_cases e':k'=n
     · simp only[Zp e',Zl e,Zi]
       rintro h6 rfl
       have:=(h3 k _ hk h6).2.1
       omega
     · simp only[Zl e,Zl e']
       exact h4 k k' g hk ae
theorem Pg.St.store (h:Pg.St lo hi W mb f G) {n g j:Nat} (hn:n<4352) (hg:G n=some g) (v:Int) (h1:Pg.blk f' n=(Pg.blk f n).set j v) (h2:∀k,k≠n→Pg.blk f' k=Pg.blk f k) :
 Pg.St lo hi (W.setCell ⟨g,j,none⟩ (.int .u16 v)) mb f' G:=by
 obtain⟨⟨F,⟨es,c,hh,r⟩,hG⟩,i2,i3,i4⟩:=h
 obtain⟨a1,a2,a3⟩:=i3 n g hn hg
 have hne:mb≠g:=by
  rintro rfl
  have:=a3.symm.trans hh
  cases this
 refine⟨⟨F,⟨es,c,(Ym _ _ _ mb hne).trans hh,r⟩,hG⟩,fun k hk aa=>?_,fun k q hk hq=>?_,i4⟩
 · have:k≠n:=by rintro rfl;rw[hg]at aa;cases aa
   rw[h2 k this]
   exact i2 k hk aa
 · obtain⟨b1,b2,b3⟩:=i3 k q hk hq
   by_cases e:k=n
   · subst e
     rw[hg]at hq
     cases hq
     refine⟨b1,b2,?_⟩
     rw[h1]
     have:=a3.set j (.int .u16 v)
     rw[show Pg.vs ((Pg.blk f k).set j v)=(Pg.vs (Pg.blk f k)).set j (.int .u16 v) by unfold Pg.vs;rw[List.map_set]]
     exact this
   · refine⟨b1,b2,?_⟩
     rw[h2 k e]
     exact b3.other (by
      rintro rfl
      exact e (i4 k n q hk hn hq hg)) _
theorem Pg.St.at (h:Pg.St lo hi W mb f G) {n g:Nat} (hn:n<4352) (hg:G n=some g):lo≤g∧g<hi∧Rw.At W g 186 (Pg.vs (Pg.blk f n)):=h.2.2.1 n g hn hg
theorem Pg.St.none (h:Pg.St lo hi W mb f G) {n:Nat} (hn:n<4352) (hg:G n=Option.none):Pg.blk f n=Pg.zeros:=h.2.1 n hn hg
end
theorem Pg.At.load {w:World} {g:Nat} {b:List Int} (h:Rw.At w g 186 (Pg.vs b)) (hb:b.length=256):(Instr.loadAt 186 (.pointer (some ⟨g,0,none⟩))).run Tryz.prog w=.ok (.agg (Pg.vs b).toArray) w :=
 Pg.run_load w _ _ g 0 256 _ (by unfold Pg.vs;rw[List.length_map,hb]) (fun j u hu=>by rw[Nat.zero_add];exact h.cell j hu) Tryz.underlying186 rfl Pg.infoBlk
theorem Pg.blkKey:Go.WideMaps.ArrKey Tryz.prog 186 129 256:=⟨Tryz.underlying186,by kernel_rfl,by kernel_rfl,by kernel_rfl⟩
theorem Pg.keyedB:Go.Maps.Keyed Tryz.prog 186:=Go.Maps.Keyed.of_law Pg.blkKey.law
def Pg.u16 (b:List Int):Prop:=b.length=256∧∀x∈b,0≤x∧x≤65535
theorem Pg.key_ok {b:List Int} (h:Pg.u16 b):∃l,keyOf Tryz.prog 186 (.agg (Pg.vs b).toArray)=some l :=
 Mp.keyArr Pg.blkKey Tryz.underlying129 ⟨365-1,by kernel_rfl⟩ b h.1 fun x hx=>by
  obtain⟨h1,h2⟩:=h.2 x hx
  simp only[Lit.wf,ZB,Zm]
  exact⟨Z9 (by decide:_≤(0:Int)) h1,Z9 h2 (by decide)⟩
theorem Pg.vs_inj {a b:List Int} (h:Value.agg (Pg.vs a).toArray=.agg (Pg.vs b).toArray):a=b:=by
 simp only[XE]at h
 have h:Pg.vs a=Pg.vs b:=by simpa using congrArg Array.toList h
 unfold Pg.vs at h
 exact (List.map_inj_right fun x y e=>by simpa using e).1 h
theorem Pg.last_u16 {L:List (Int × Int)} (h:∀x∈L,0≤x.2∧x.2≤65535) (c:Int):0≤Pg.last L c∧Pg.last L c≤65535:=by
 unfold Pg.last
 suffices ∀(L:List (Int × Int)) (a:Int),(∀x∈L,0≤x.2∧x.2≤65535)→0≤a∧a≤65535→0≤L.foldl (fun a x=>if x.1=c then x.2 else a) a∧L.foldl (fun a x=>if x.1=c then x.2 else a) a≤65535 from this L 0 h (by decide)
 intro L
 induction L with
 | nil=>intro a _ ha;exact ha
 | cons x l ih =>
   intro a hl ha
   refine ih _ (fun y hy=>hl y (Zx _ hy)) ?_
   by_cases e:x.1=c
   · simp only[Zp e];exact hl x Zv
   · simp only[Zl e];exact ha
theorem Pg.blk_u16 {L:List (Int × Int)} (h:∀x∈L,0≤x.2∧x.2≤65535) (m:Nat):Pg.u16 (Pg.blk (Pg.last L) m):=by
 refine⟨Pg.blk_len _ _,fun x hx=>?_⟩
 unfold Pg.blk at hx
 obtain⟨i,_,rfl⟩:=List.mem_map.1 hx
 exact Pg.last_u16 h _
def Pg.Pl (W:World) (pb:Nat) (bl:List (List Int)):Prop :=
 ∃F,Mp.Is Tryz.prog 186 W pb F∧∀b:List Int,F (.agg (Pg.vs b).toArray)=(Pg.place bl b).map fun k=>.int .i64 k
theorem Pg.Pl.look {W:World} {pb:Nat} {bl:List (List Int)} (h:Pg.Pl W pb bl) {b:List Int} (hb:Pg.u16 b) :
 (Instr.lookup 222 (.map (some pb)) (.agg (Pg.vs b).toArray) true).run Tryz.prog W=.ok (.tuple #[.int .i64 ((Pg.place bl b).getD 0:Nat),.bool (Pg.place bl b).isSome]) W:=by
 obtain⟨F,hF,hp⟩:=h
 obtain⟨l,hl⟩:=Pg.key_ok hb
 have hz:(zeroValue 3).run Tryz.prog W=.ok (.int .i64 0) W:=by kernel_rfl
 have:=hF.look Pg.keyedB Tryz.underlying222 hz hl true
 rw[Zp rfl,hp b]at this
 rw[this]
 cases Pg.place bl b <;> rfl
theorem Pg.Pl.put {W:World} {pb:Nat} {bl:List (List Int)} (h:Pg.Pl W pb bl) {b:List Int} (hb:Pg.u16 b) (hn:b∉bl) :
 ∃W',(Instr.mapUpdate 222 (.map (some pb)) (.agg (Pg.vs b).toArray) (.int .i64 bl.length)).run Tryz.prog W=.ok () W'∧Pg.Pl W' pb (Pg.add bl b)∧W.grownBy W' (some pb):=by
 obtain⟨F,hF,hp⟩:=h
 obtain⟨l,hl⟩:=Pg.key_ok hb
 obtain⟨F',g1,g2⟩:∃F':Value→Option Value,F' (.agg (Pg.vs b).toArray)=some (.int .i64 bl.length)∧∀z,z≠.agg (Pg.vs b).toArray→F' z=F z:=by
  classical
  exact⟨fun z=>if z=.agg (Pg.vs b).toArray then some (.int .i64 bl.length) else F z,by simp,fun z hz=>by simp[hz]⟩
 obtain⟨W',k1,k2,k3⟩:=hF.put Pg.keyedB Tryz.underlying222 hl F' g1 g2
 refine⟨W',k1,⟨F',k2,fun c=>?_⟩,k3⟩
 rw[Pg.place_add hn]
 by_cases e:c=b
 · subst e;rw[g1];simp
 · rw[g2 _ fun e'=>e (Pg.vs_inj e'),hp c,Zl e]
theorem Pg.Pl.made (w:World) (pb:Nat):∃W',(Instr.mapUpdate 222 (.map (some w.heap.size)) (.agg (Pg.vs Pg.zeros).toArray) (.int .i64 0)).run Tryz.prog (w.alloc (.map #[] 0))=.ok () W'∧Pg.Pl W' w.heap.size [Pg.zeros]∧(w.alloc (.map #[] 0)).grownBy W' (some w.heap.size):=by
 have h:Pg.Pl (w.alloc (.map #[] 0)) w.heap.size []:=⟨_,Mp.Is.made w Tryz.prog 186,fun b=>rfl⟩
 have hz:Pg.u16 Pg.zeros:=⟨List.length_replicate,fun x hx=>by unfold Pg.zeros at hx;have:=List.eq_of_mem_replicate hx;omega⟩
 obtain⟨W',h1,h2,h3⟩:=h.put hz (by simp)
 exact⟨W',h1,h2,h3⟩
theorem Pg.Pl.grown {W W':World} {pb:Nat} {bl:List (List Int)} {row:Option Nat} (h:Pg.Pl W pb bl) (hg:W.grownBy W' row) (hne:some pb≠row):Pg.Pl W' pb bl:=by
 obtain⟨F,hF,hp⟩:=h
 exact⟨F,hF.grown hg hne,hp⟩
theorem Pg.Pl.notAt {W:World} {pb g:Nat} {bl:List (List Int)} (h:Pg.Pl W pb bl) {t:TypeId} {cs:Array Value} {fr:Nat × Nat} (hg:W.heap[g]?=some (.cells cs t fr)):pb≠g:=by
 rintro rfl
 obtain⟨F,⟨es,c,hh,_⟩,_⟩:=h
 have:=hg.symm.trans hh
 cases this
theorem Ud.key32 {c:Int} (h : -2147483648≤c∧c≤2147483647):keyOf Tryz.prog 21 (.int .i32 c)=some (.int .i32 c):=Go.Maps.keyOf_int_mk Tryz.underlying21 (Md.wf32 h.1 h.2)
theorem Ud.look32 {w:World} {b:Nat} {F:Value→Option Value} (h:Mp.Is Tryz.prog 21 w b F) {c:Int} (hc : -2147483648≤c∧c≤2147483647) {v:Value} (hv:(F (.int .i32 c)).getD (.slice none 0 0)=v) :
 (Instr.lookup 132 (.map (some b)) (.int .i32 c) false).run Tryz.prog w=.ok v w:=by
 have hz:(zeroValue 49).run Tryz.prog w=.ok (.slice none 0 0) w:=by kernel_rfl
 have:=h.look Pg.keyed32 Tryz.underlying132 hz (Ud.key32 hc) false
 rw[Zl (by simp),hv]at this
 exact this
theorem Ud.put32 {w:World} {b:Nat} {F:Value→Option Value} (h:Mp.Is Tryz.prog 21 w b F) {c:Int} (hc : -2147483648≤c∧c≤2147483647) (v:Value) :
 ∃w' F',(Instr.mapUpdate 132 (.map (some b)) (.int .i32 c) v).run Tryz.prog w=.ok () w'∧Mp.Is Tryz.prog 21 w' b F'∧F' (.int .i32 c)=some v∧(∀y,y≠.int .i32 c→F' y=F y)∧w.grownBy w' (some b):=by
 obtain⟨F',h1,h2⟩:∃F':Value→Option Value,F' (.int .i32 c)=some v∧∀z,z≠.int .i32 c→F' z=F z:=by
  classical
  exact⟨fun z=>if z=.int .i32 c then some v else F z,by simp,fun z hz=>by simp[hz]⟩
 obtain⟨w',g1,g2,g3⟩:=h.put Pg.keyed32 Tryz.underlying132 (Ud.key32 hc) F' h1 h2
 exact⟨w',F',g1,g2,h1,h2,g3⟩
theorem Ud.keyedP:Go.Maps.Keyed Tryz.prog 168:=Go.Maps.Keyed.of_law (Go.deep_law_laid (m:=3) (by kernel_rfl) (by decide) (Yg (by kernel_rfl)) (by kernel_rfl) (by rw[Tryz.underlying168]))
theorem Ud.pk_key {x y:Int} (hx : -2147483648≤x∧x≤2147483647) (hy : -2147483648≤y∧y≤2147483647):∃l,keyOf Tryz.prog 168 (Md.pk x y)=some l:=by
 have h0:∀(m:Nat) (z:Int),-2147483648≤z∧z≤2147483647→Tryz.prog.keyLits (m+1) 21 [.int .i32 z]=some [.int .i32 z]:=fun m z hz=>by
  unfold Program.keyLits
  rw[Tryz.underlying21]
  simp[Md.wf32 hz.1 hz.2]
 have h1:∀z:Int,-2147483648≤z∧z≤2147483647→Tryz.prog.keyLits 365 21 [.int .i32 z]=some [.int .i32 z]:=fun z hz=>by
  have:=h0 (365-1) z hz
  rwa [show 365-1+1=365 by decide]at this
 have ht:Tryz.prog.types.size=365:=by kernel_rfl
 have hc:Tryz.prog.cellsOf 21=1:=by kernel_rfl
 have aa:Tryz.prog.cellsOf 168=2:=by kernel_rfl
 have hl:Tryz.prog.keyLits (Tryz.prog.types.size+1) 168 [.int .i32 x,.int .i32 y]=some [.int .i32 x,.int .i32 y]:=by
  unfold Program.keyLits
  rw[Tryz.underlying168,ht]
  simp[hc,aa,h1 x hx,h1 y hy]
 have hk:Tryz.prog.keyType 168=true:=by kernel_rfl
 have hf:(Md.pk x y).formed Tryz.prog 168=true:=by
  unfold Value.formed Md.pk
  rw[Tryz.underlying168]
  simp[aa]
 unfold keyOf
 rw[Tryz.underlying168]
 simp only[hk,hf,Bool.and_self,Yt]
 unfold Md.pk
 simp only[Value.cells]
 rw[hl]
 exact⟨_,rfl⟩
theorem Ud.putP {w:World} {b:Nat} {F:Value→Option Value} (h:Mp.Is Tryz.prog 168 w b F) {x y:Int} (hx : -2147483648≤x∧x≤2147483647) (hy : -2147483648≤y∧y≤2147483647) (v:Value) :
 ∃w' F',(Instr.mapUpdate 133 (.map (some b)) (.agg #[.int .i32 x,.int .i32 y]) v).run Tryz.prog w=.ok () w'∧Mp.Is Tryz.prog 168 w' b F'∧F' (.agg #[.int .i32 x,.int .i32 y])=some v∧(∀z,z≠.agg #[.int .i32 x,.int .i32 y]→F' z=F z)∧w.grownBy w' (some b):=by
 obtain⟨l,hl⟩:=Ud.pk_key hx hy
 obtain⟨F',h1,h2⟩:∃F':Value→Option Value,F' (Md.pk x y)=some v∧∀z,z≠Md.pk x y→F' z=F z:=by
  classical
  exact⟨fun z=>if z=Md.pk x y then some v else F z,by simp,fun z hz=>by simp[hz]⟩
 obtain⟨w',g1,g2,g3⟩:=h.put Ud.keyedP Tryz.underlying133 hl F' h1 h2
 exact⟨w',F',g1,g2,h1,h2,g3⟩
def Ud.isr (T:List Rw.Row) (c:Int):Bool:=decide (0<(Md.rmp T c).length)
def Ud.fl (T:List Rw.Row) (c:Int):List Int:=if Ud.isr T c=true then Ud.full T c else []
def Ud.isp (T:List Rw.Row) (S:List Int) (c:Int):Bool:=Ud.isr T c&&Md.prim T (C.mem S) c
def Ud.RetFind (T:List Rw.Row) (S:List Int) (c:Int) (w:World) (e:Ending) (w':World):Prop :=
 ∃m mc f fc,e=.returned (.tuple #[.agg #[.slice m (Md.rmp T c).length mc,.slice f (Ud.fl T c).length fc,.bool (Ud.isp T S c)],.bool (Ud.isr T c)])∧Sl w' w'.heap.size m (Ud.ints (Md.rmp T c))∧Sl w' w'.heap.size f (Ud.ints (Ud.fl T c))∧Below w.heap.size w w'
set_option maxRecDepth 100000 in
set_option maxHeartbeats 2000000 in
theorem Ud.find_any (v:Value) (T:List Rw.Row) (S:List Int) (c:Int) (w:World) (ok:Ud.Ok T S) (h:Ud.Is w v T S) :
 Calls Tryz.prog 41 #[v,.int .i32 c] w (Ud.RetFind T S c w):=by
 obtain⟨b,A0,c0,XA,xc,pc,pp,A3,c3,mb,jb,A4,c4,A5,c5,A6,c6,es,rfl,bc,_,_,_,a6,aa,_⟩:=h.is
 have hlen:=ok.len
 have ax:Below w.heap.size w (w.alloc (.cells #[.slice none 0 0,.slice none 0 0,.bool false] 79)):=(Zd _ _).alloc (Zb _) _
 have af:=bc.below ax
 have ap:=Rw.At.new w 79 [.slice none 0 0,.slice none 0 0,.bool false]
 have z3:=af.cell 3 rfl
 have br:=af.lt
 have hG:=Pg.get_any pp _ c _ (a6.below ax)
 have bp:=Za af
 have HE:=Za ap
 have HB:=Za ax
 rcases Ud.get_pl ok c with ⟨i,r,hi,a1,ai,hpos,ag⟩|⟨ag,a7⟩
 · have ae:Ud.isr T c=true:=by
    unfold Ud.isr Md.rmp
    rw[ai]
    exact Zn hpos
   have av:Md.rmp T c=r.2.2:=by unfold Md.rmp;rw[ai];rfl
   have aw:Ud.fl T c=Ud.full T r.1:=by unfold Ud.fl;rw[if_pos ae,a1]
   have aj:Ud.isp T S c=Md.prim T (C.mem S) r.1:=by unfold Ud.isp;rw[ae,a1];rfl
   unfold Ud.RetFind
   rw[ae,av,aw,aj]
   have bf:=(List.getElem?_eq_some_iff.1 hi).1
   have hle:(Ud.mr T).length≤T.length:=List.length_filter_le _ _
   obtain⟨a,ha⟩:∃a,es[i]?=some a:=⟨_,Zc (by rw[aa.1];exact bf)⟩
   obtain⟨bh,bg⟩:=aa.2.2 i r a hi ha
   obtain⟨g1,g2,g3⟩:=Ud.flE_get T (C.mem S) (Ud.mr T) es i r a hi ha
   have ah:=Ud.flE_len T (C.mem S) (Ud.mr T) es aa.1
   obtain⟨eb,eo,rfl,az,ay⟩:=aa.2.1 (by rw[ah];omega)
   have y0:=ay (i*3) (by rw[ah];omega)
   have y1:=ay (i*3+1) (by rw[ah];omega)
   have y2:=ay (i*3+2) (by rw[ah];omega)
   rw[g1]at y0
   rw[g2]at y1
   rw[g3]at y2
   rw[ag]at hG
   rw[←Yi]at y1 y2
   obtain⟨mn,hmn⟩:∃n,(Ud.mr T).length=n:=⟨_,rfl⟩
   rw[hmn]at bf hle af
   have bq:=Za hmn
   obtain⟨fn,ba⟩:∃n,(Ud.full T r.1).length=n:=⟨_,rfl⟩
   obtain⟨rn,a8⟩:∃n,r.2.2.length=n:=⟨_,rfl⟩
   obtain⟨pb,hpb⟩:∃n,Md.prim T (C.mem S) r.1=n:=⟨_,rfl⟩
   rw[ba,a8,hpb]
   rw[ba]at y1
   rw[a8]at y0
   rw[hpb]at y2
   have bs:(i:Int)<mn:=by omega
   have bu:(0:Int)≤i:=by omega
   have bt:IntKind.u16.wrap ((i:Int)+1-1)=i:=by
    show ((i:Int)+1-1)%65536=i
    omega
   have bn:IntKind.u16.wrap (i:Int)=i:=by
    show (i:Int)%65536=i
    omega
   have hne:((i:Int)+1 == 0)=false:=by simp;omega
   have bm:decide ((i:Int)+1=0)=false:=by simp;omega
   have bl:=Za bh
   have bo:=Za bg
   clear bh bg g1 g2 g3 ay aa a6 bc ai ag ae aj av aw hi ha ah af ap ax hmn ba a8 hpb hle hlen h hpos a1
   go_enter Tryz.func41,Tryz.ntmps41
   go_wp2_with fail
   refine hG.mono ?_
   rintro e w1 ⟨rfl,ao⟩
   have aq:=Za (HB.out.trans (ao.mono HB.out.size))
   have ar:=bp.out.below ao
   have ak:=HE.out.below ao
   have q4:=ar.cell 4 rfl
   rw[bq.out]at q4
   have q0:=(aq.out.cell (p:=⟨eb,eo+i*3,none⟩) az).trans y0
   have q1:=(aq.out.cell (p:=⟨eb,eo+i*3+1,none⟩) az).trans y1
   have q2:=(aq.out.cell (p:=⟨eb,eo+i*3+2,none⟩) az).trans y2
   have bi:=ar.lt
   have bj:eb<w1.heap.size:=Zf az aq.out.size
   have bk:=ak.lt
   obtain⟨_,_,_,f0,f1,f2⟩:=ak.three
   have bb:=Za ak
   clear ao z3 y0 y1 y2 hG ar ak
   go_wp2_with fail
   have k1:=bb.out.set 0 (.slice a.m rn a.mc)
   have k2:=k1.set 1 (.slice a.f fn a.fc)
   have k3:=k2.set 2 (.bool pb)
   have au:=((aq.out.setCell (p:=⟨w.heap.size,0,none⟩) (Zb _) (.slice a.m rn a.mc)).setCell (p:=⟨w.heap.size,1,none⟩) (Zb _) (.slice a.f fn a.fc)).setCell (p:=⟨w.heap.size,2,none⟩) (Zb _) (.bool pb)
   exact Yl (results_cell_row2 rfl _ _ w.heap.size _ _ _ _ rfl k3 Tryz.underlying79 rfl (by kernel_rfl)) rfl ⟨a.m,a.mc,a.f,a.fc,rfl,bl.out.below au au.size,bo.out.below au au.size,au⟩
 · have ae:Ud.isr T c=false:=by unfold Ud.isr;rw[a7];rfl
   have aw:Ud.fl T c=[]:=by unfold Ud.fl;rw[if_neg (by rw[ae];simp)]
   have aj:Ud.isp T S c=false:=by unfold Ud.isp;rw[ae];rfl
   unfold Ud.RetFind
   rw[ae,a7,aw,aj]
   rw[ag]at hG
   clear aa a6 bc ag ae aj aw af ap ax hlen h a7
   go_enter Tryz.func41,Tryz.ntmps41
   go_wp2_with fail
   refine hG.mono ?_
   rintro e w1 ⟨rfl,ao⟩
   have aq:=Za (HB.out.trans (ao.mono HB.out.size))
   have ak:=HE.out.below ao
   have bk:=ak.lt
   obtain⟨_,_,_,f0,f1,f2⟩:=ak.three
   have bb:=Za ak
   clear ao z3 hG ak
   go_wp2_with fail
   have k1:=bb.out.set 0 (.slice none 0 0)
   have k2:=k1.set 1 (.slice none 0 0)
   have k3:=k2.set 2 (.bool false)
   have au:=((aq.out.setCell (p:=⟨w.heap.size,0,none⟩) (Zb _) (.slice none 0 0)).setCell (p:=⟨w.heap.size,1,none⟩) (Zb _) (.slice none 0 0)).setCell (p:=⟨w.heap.size,2,none⟩) (Zb _) (.bool false)
   exact Yl (results_cell_row2 rfl _ _ w.heap.size _ _ _ _ rfl k3 Tryz.underlying79 rfl (by kernel_rfl)) rfl ⟨none,0,none,0,rfl,Sl.nil _ _ _,Sl.nil _ _ _,au⟩
section
set_option maxRecDepth 100000
set_option maxHeartbeats 1000000
theorem Ud.class_any (v:Value) (T:List Rw.Row) (S:List Int) (c:Int) (w:World) (ok:Ud.Ok T S) (h:Ud.Is w v T S) :
 Calls Tryz.prog 46 #[v,.int .i32 c] w fun e w'=>e=.returned (.int .i64 (Md.cls T c))∧Below w.heap.size w w':=by
 obtain⟨b,A0,c0,XA,xc,pc,pp,A3,c3,mb,jb,A4,c4,A5,c5,A6,c6,es,rfl,ae,_,_,af,ag,aa,_⟩:=h.is
 have z2:=ae.cell 2 rfl
 have ai:=ae.lt
 have hG:=Pg.get_any pc _ c _ af
 rw[Ud.get_cls ok]at hG
 have hbd:=Ud.cls_bd ok c
 obtain⟨k,hk⟩:∃k,Md.cls T c=k:=⟨_,rfl⟩
 rw[hk]at hbd hG ⊢
 have hw:IntKind.i64.wrap k=k:=by rw[Z0];omega
 clear aa ag af ae h hk ok
 go_enter Tryz.func46,Tryz.ntmps46
 go_wp2_with fail
 refine hG.mono ?_
 rintro e w1 ⟨rfl,ah⟩
 clear hG z2
 go_wp2_with fail
 go_ret
 exact⟨rfl,ah⟩
theorem Ud.plain_any (v:Value) (T:List Rw.Row) (S:List Int) (c:Int) (w:World) (ok:Ud.Ok T S) (h:Ud.Is w v T S) (h3 : -2147483648≤c) (h4:c≤2147483647) :
 Calls Tryz.prog 25 #[v,.int .i32 c] w fun e w'=>e=.returned (.bool (decide (Md.mp T c=[])))∧Below w.heap.size w w':=by
 have hF:=Ud.find_any v T S c w ok h
 obtain⟨q,hq⟩:∃q,decide (Md.mp T c=[])=q:=⟨_,rfl⟩
 obtain⟨k,hk⟩:∃k,Hg.ofK c=k:=⟨_,rfl⟩
 have hQ:q=(!Ud.isr T c&&decide (k<4)):=by
  rw[←hq,←hk,Yb,Z5,←Ud.plain_mp,ZB,Z5]
  unfold Ud.isr
  cases Md.rmp T c <;> simp
 have hK:=Ud.kind_le c
 have HO:=Za (fun W=>Hg.of_any c W h3 h4)
 rw[hk]at HO hK
 rw[hq,hQ]
 unfold Ud.RetFind at hF
 obtain⟨z,hz⟩:∃z,Ud.isr T c=z:=⟨_,rfl⟩
 obtain⟨fn,af⟩:∃z,(Ud.fl T c).length=z:=⟨_,rfl⟩
 obtain⟨rn,ae⟩:∃z,(Md.rmp T c).length=z:=⟨_,rfl⟩
 obtain⟨pb,hpb⟩:∃z,Ud.isp T S c=z:=⟨_,rfl⟩
 rw[hz,af,ae,hpb]at hF
 rw[hz]
 clear hz af ae hpb hQ hq hk h ok h3 h4
 have HF:=Za hF
 clear hF
 go_enter Tryz.func25,Tryz.ntmps25
 go_wp2_with fail
 refine HF.out.mono ?_
 rintro e w1 ⟨m,mc,f,fc,rfl,_,_,aa⟩
 have HB:=Za (aa.alloc aa.size (.cells #[.slice m rn mc,.slice f fn fc,.bool pb] 79))
 clear aa
 cases z
 · by_cases hk4:k<4
   · go_wp2_with (go_at_call 45;refine (HO.out _).mono ?_;rintro e w' ⟨rfl,rfl⟩)
     go_ret
     exact⟨by simp[hk4],HB.out⟩
   · go_wp2_with (go_at_call 45;refine (HO.out _).mono ?_;rintro e w' ⟨rfl,rfl⟩)
     go_ret
     exact⟨by simp[hk4],HB.out⟩
 · go_wp2_with (fail)
   go_ret
   exact⟨rfl,HB.out⟩
end
section
set_option maxRecDepth 100000
theorem Or.nan_any (x:Int) (w:World):Calls Tryz.prog 101 #[.int .i64 x] w fun e w'=>e=.returned (.bool false)∧w=w':=by
 go_enter Tryz.func101,Tryz.ntmps101
 go_wp2
 go_ret
 exact⟨by simp,rfl⟩
theorem Or.cmpInt_any (a b:Int) (w:World):Calls Tryz.prog 73 #[.int .i64 a,.int .i64 b] w fun e w'=>e=.returned (.int .i64 (Ss.cmp a b))∧w=w':=by
 go_enter Tryz.func73,Tryz.ntmps73
 go_wp2_with fail
 refine (Or.nan_any _ _).mono ?_
 rintro e w1 ⟨rfl,rfl⟩
 go_wp2_with fail
 refine (Or.nan_any _ _).mono ?_
 rintro e w1 ⟨rfl,rfl⟩
 by_cases h1:a<b
 · have hc:Hid (Ss.cmp a b = -1):=Za (Zp h1)
   go_wp2_with fail
   go_ret
   exact⟨by rw[hc.out];rfl,rfl⟩
 · by_cases h2:b<a
   · have hc:Hid (Ss.cmp a b=1):=Lib.hid (by unfold Ss.cmp;rw[if_neg h1,if_pos h2])
     have h3:a > b:=h2
     go_wp2_with fail
     go_ret
     exact⟨by rw[hc.out];rfl,rfl⟩
   · have hc:Hid (Ss.cmp a b=0):=Lib.hid (by unfold Ss.cmp;rw[if_neg h1,if_neg h2])
     have h3:¬a > b:=h2
     go_wp2_with fail
     go_ret
     exact⟨by rw[hc.out];rfl,rfl⟩
theorem Or.class_cmp (v:Value) (T:List Rw.Row) (S:List Int) (db:Nat) (x y:Int) (w:World) (ok:Ud.Ok T S) (h:Ud.Is w v T S) (hd:w.cell? ⟨db,0,none⟩=some v) (aa:db<w.heap.size) :
 Calls Tryz.prog 72 #[.int .i32 x,.int .i32 y,.pointer (some ⟨db,0,none⟩)] w fun e w'=>e=.returned (.int .i64 (Ss.cmp (Md.cls T x) (Md.cls T y)))∧Below w.heap.size w w':=by
 have C1:=Za (Ext.call (w:=w) fun W hW=>Ud.class_any v T S x W ok (h.below hW))
 have C2:=Za (Ext.call (w:=w) fun W hW=>Ud.class_any v T S y W ok (h.below hW))
 have C3:=Za (Ext.same (w:=w) fun W hW=>Or.cmpInt_any (Md.cls T x) (Md.cls T y) W)
 have x1:=Ext.cells hd aa
 clear h ok
 go_enter Tryz.func72,Tryz.ntmps72
 go_wp2_with fail
 refine wp_region_ext (by kernel_rfl) (by kernel_rfl) ?_
 repeat (go_big_quiet_step ((first|(go_at_call 46;first|with_reducible exact C1.out _|with_reducible exact C2.out _)|(go_at_call 73;with_reducible exact C3.out _))))
 refine wpQuiet_nil ?_
 intro xw
 have HB:=Za xw.below
 go_wp2_with fail
 go_ret
 exact⟨rfl,HB.out⟩
end
theorem Or.enters (args:Array Value) (w:World):(callFunc 72 args).run Tryz.prog w=.ok (.enter 72 args) w:=C.enter' Tryz.func72 (by kernel_rfl) (by kernel_rfl) args w
set_option maxRecDepth 100000 in
theorem Or.sort_any (aa:FuncId) (cd:Option Addr) (k:Int→Int) (af:∀(args:Array Value) (w:World),(callFunc aa args).run Tryz.prog w=.ok (.enter aa args) w) (ae:∀N,Ss.SymOk aa cd k N)
 (sz g o n cap:Nat) (P L Q:List Int) (w:World) (hC:Ss.Cmp aa cd k g w) (hZ:Ss.At w g sz (P++(L++Q))) (hP:P.length=o) (hL:L.length=n) (hn:n≤500000) :
 Calls Tryz.prog 74 #[.slice (some ⟨g,o,none⟩) n cap,.func (.func aa) #[] #[.pointer cd]] w (Ss.RetSort k sz g P L Q w):=by
 have hS:=Ss.stable_any aa cd k af ae sz g o n cap P L Q w hC hZ hP hL hn
 clear hC hZ hP hL ae af hn
 go_enter Tryz.func74,Tryz.ntmps74
 go_wp2_with fail
 refine hS.mono ?_
 rintro e w1 ⟨rfl,h1,h2⟩
 have H1:=Za h1
 have H2:=Za h2
 clear h1 h2 hS
 go_wp2_with fail
 go_end0
 exact⟨rfl,H1.out,H2.out⟩
end Go.Proofs.YtikiplbhlohmdaaGreatDoor
