/- Maps of the call's own: what is found in one, and what a store makes of it. -/
import Derived.Test.YtikiplbhlohmdaaGreatDoorPgLib
import Derived.Lib.SlicesCompact
set_option linter.unusedVariables false
set_option linter.unusedSimpArgs false
namespace Go.Proofs.YtikiplbhlohmdaaGreatDoor
open Go.RowKit
open Go.ChangeMaps (setBlock modify_eq_set)
open Go.ChangeMaps
def Mp.Is (P:Program) (k:TypeId) (w:World) (b:Nat) (F:Value→Option Value):Prop :=
 ∃es clock,w.heap[b]?=some (.map es clock)∧(∀e∈es.toList,∃l,keyOf P k e.key=some l)∧(es.toList.Pairwise fun x y=>x.key≠y.key)∧∀x v,F x=some v↔∃e∈es.toList,e.key=x∧e.val=v
section
variable {P:Program} {k:TypeId} {w:World} {b:Nat} {F:Value→Option Value}
theorem Mp.Is.made (w:World) (P:Program) (k:TypeId):Mp.Is P k (w.alloc (.map #[] 0)) w.heap.size fun _=>none :=
 ⟨#[],0,ZP w _,fun e he=>by simp at he,by simp,fun x v=>by simp⟩
theorem Mp.Is.lt (h:Mp.Is P k w b F):b<w.heap.size:=by
 obtain⟨es,c,hb,_⟩:=h
 exact heap_lt hb
theorem Mp.Is.below {w':World} (h:Mp.Is P k w b F) (hb:Below w.heap.size w w'):Mp.Is P k w' b F:=by
 have aa:=h.lt
 obtain⟨es,c,hh,r⟩:=h
 exact⟨es,c,(hb.block b aa).trans hh,r⟩
theorem Mp.Is.grown {w':World} {row:Option Nat} (h:Mp.Is P k w b F) (hg:w.grownBy w' row) (hne:some b≠row):Mp.Is P k w' b F:=by
 have aa:=h.lt
 obtain⟨es,c,hh,r⟩:=h
 exact⟨es,c,(hg.block b aa hne).trans hh,r⟩
theorem Mp.Is.look {t e:TypeId} (h:Mp.Is P k w b F) (K:Go.Maps.Keyed P k) (ht:P.underlying t=some (.map k e)) {z:Value} (hz:(zeroValue e).run P w=.ok z w) {x:Value} {l:Lit} (hk:keyOf P k x=some l) (c:Bool) :
 (Instr.lookup t (.map (some b)) x c).run P w=.ok (if c=true then .tuple #[(F x).getD z,.bool (F x).isSome] else (F x).getD z) w:=by
 obtain⟨es,clock,hb,ae,af,hF⟩:=h
 rcases K.find w hk es.toList ae with ⟨h1,h2⟩|⟨j,e0,h1,h2,h3⟩
 · have hn:F x=none:=by
    cases hx:F x with
    | none=>rfl
    | some v =>
      obtain⟨e,he,aa,_⟩:=(hF x v).1 hx
      exact absurd aa (h2 e he)
   rw[hn]
   simp[Instr.lookup,Xg ht,Xy hb,K.check w _ hk,h1,hz,Result.andThen]
 · have hn:F x=some e0.val:=(hF x _).2 ⟨e0,Zk h2,h3,rfl⟩
   rw[hn]
   simp[Instr.lookup,Xg ht,Xy hb,K.check w _ hk,h1,Result.andThen]
theorem Mp.Is.put {t e:TypeId} (h:Mp.Is P k w b F) (K:Go.Maps.Keyed P k) (ht:P.underlying t=some (.map k e)) {x v:Value} {l:Lit} (hk:keyOf P k x=some l) (F':Value→Option Value) (h1:F' x=some v) (h2:∀y,y≠x→F' y=F y) :
 ∃w',(Instr.mapUpdate t (.map (some b)) x v).run P w=.ok () w'∧Mp.Is P k w' b F'∧w.grownBy w' (some b):=by
 obtain⟨es,clock,hb,ah,af,hF⟩:=h
 rcases K.find w hk es.toList ah with ⟨g1,g2⟩|⟨j,e0,g1,g2,g3⟩
 · refine⟨setBlock w b (.map (es.push ⟨x,v,clock⟩) (clock+1)),?_,⟨es.push ⟨x,v,clock⟩,clock+1,Go.ChangeMaps.heap_setBlock_same hb _,?_,?_,?_⟩,⟨rfl,rfl,rfl,by simp[setBlock],fun i _ hi=>Go.ChangeMaps.heap_setBlock_other hb _ (fun e=>hi (by rw[e]))⟩⟩
   · simp[Instr.mapUpdate,Xg ht,Xy hb,K.check w false hk,g1,MapKept.run_setObj_map _ hb,Result.andThen,setBlock]
   · intro e he
     rw[Array.toList_push]at he
     rcases List.mem_append.1 he with he|he
     · exact ah e he
     · rw[ZA]at he
       subst he
       exact⟨l,hk⟩
   · rw[Array.toList_push,List.pairwise_append]
     refine⟨af,by simp,fun a ha c hc=>?_⟩
     rw[ZA]at hc
     subst hc
     exact g2 a ha
   · intro y u
     rw[Array.toList_push]
     by_cases hy:y=x
     · subst hy
       rw[h1]
       constructor
       · intro hu
         cases hu
         exact⟨_,List.mem_append_right _ (List.mem_singleton.2 rfl),rfl,rfl⟩
       · rintro⟨a,ha,aa,hv⟩
         rcases List.mem_append.1 ha with ha|ha
         · exact absurd aa (g2 a ha)
         · rw[ZA]at ha
           subst ha
           exact Z4 some hv
     · rw[h2 y hy,hF y u]
       constructor
       · rintro⟨a,ha,r⟩
         exact⟨a,List.mem_append_left _ ha,r⟩
       · rintro⟨a,ha,aa,hv⟩
         rcases List.mem_append.1 ha with ha|ha
         · exact⟨a,ha,aa,hv⟩
         · rw[ZA]at ha
           subst ha
           exact absurd aa.symm hy
 · have hj:es[j]?=some e0:=by simpa using g2
   have ag:j<es.toList.length:=(List.getElem?_eq_some_iff.1 g2).1
   have ae:(es.modify j (fun e'=>{ e' with key:=x,val:=v })).toList=es.toList.set j { e0 with key:=x,val:=v }:=by rw[Array.toList_modify,modify_eq_set _ _ _ _ g2]
   have who:∀a∈es.toList.set j { e0 with key:=x,val:=v },a={ e0 with key:=x,val:=v }∨(a∈es.toList∧a.key≠x):=by
    intro a ha
    obtain⟨i,hi,ex⟩:=Xr ha
    rw[List.getElem_set]at ex
    split at ex
    · exact .inl ex.symm
    · rename_i hne
      have hi':i<es.toList.length:=by simpa using hi
      refine .inr ⟨ex▸List.getElem_mem hi',?_⟩
      have h0:es.toList[j]=e0:=(List.getElem?_eq_some_iff.1 g2).2
      rcases ZX i j with hl|hl
      · have:=List.pairwise_iff_getElem.1 af i j hi' ag hl
        rw[ex,h0,g3]at this
        exact this
      · have:=List.pairwise_iff_getElem.1 af j i ag hi' (by omega)
        rw[ex,h0,g3]at this
        exact this.symm
   have aj:∀a∈es.toList,a.key≠x→a∈es.toList.set j { e0 with key:=x,val:=v }:=by
    intro a ha hne
    obtain⟨i,hi,ex⟩:=Xr ha
    refine List.mem_iff_getElem.2 ⟨i,by simpa using hi,?_⟩
    rw[List.getElem_set,Zl,ex]
    intro e
    subst e
    have h0:es.toList[j]=e0:=(List.getElem?_eq_some_iff.1 g2).2
    rw[h0]at ex
    exact hne (by rw[←ex,g3])
   have new:{ e0 with key:=x,val:=v }∈es.toList.set j { e0 with key:=x,val:=v }:=List.mem_iff_getElem.2 ⟨j,by simpa using ag,by simp⟩
   refine⟨setBlock w b (.map (es.modify j (fun e'=>{ e' with key:=x,val:=v })) clock),?_,⟨es.modify j (fun e'=>{ e' with key:=x,val:=v }),clock,Go.ChangeMaps.heap_setBlock_same hb _,?_,?_,?_⟩,⟨rfl,rfl,rfl,by simp[setBlock],fun i _ hi=>Go.ChangeMaps.heap_setBlock_other hb _ (fun e=>hi (by rw[e]))⟩⟩
   · simp[Instr.mapUpdate,Xg ht,Xy hb,K.check w false hk,g1,hj,g3,K.stays w hk,MapKept.run_setObj_map _ hb,Result.andThen,setBlock]
   · intro a ha
     rw[ae]at ha
     rcases who a ha with rfl|⟨ha,_⟩
     · exact⟨l,hk⟩
     · exact ah a ha
   · rw[ae]
     refine List.pairwise_iff_getElem.2 fun i i' hi hi' ai=>?_
     rw[Xl]at hi hi'
     rw[List.getElem_set,List.getElem_set]
     have h0:es.toList[j]=e0:=(List.getElem?_eq_some_iff.1 g2).2
     have hp:=List.pairwise_iff_getElem.1 af i i' hi hi' ai
     by_cases hji:j=i
     · subst hji
       rw[Zp rfl,Zl (by omega)]
       rw[h0,g3]at hp
       exact hp
     · rw[Zl hji]
       by_cases hji':j=i'
       · subst hji'
         rw[Zp rfl]
         rw[h0,g3]at hp
         exact hp
       · rw[Zl hji']
         exact hp
   · intro y u
     rw[ae]
     by_cases hy:y=x
     · subst hy
       rw[h1]
       constructor
       · intro hu
         cases hu
         exact⟨_,new,rfl,rfl⟩
       · rintro⟨a,ha,aa,hv⟩
         rcases who a ha with rfl|⟨_,hne⟩
         · exact Z4 some hv
         · exact absurd aa hne
     · rw[h2 y hy,hF y u]
       constructor
       · rintro⟨a,ha,aa,hv⟩
         exact⟨a,aj a ha (by rw[aa];exact hy),aa,hv⟩
       · rintro⟨a,ha,aa,hv⟩
         rcases who a ha with rfl|⟨ha,_⟩
         · exact absurd aa.symm hy
         · exact⟨a,ha,aa,hv⟩
theorem Mp.mapM_some {α β:Type} {f:α→Option β}:∀{l:List α},(∀x∈l,∃y,f x=some y)→∃ys,l.mapM f=some ys
 | [],_=>⟨[],rfl⟩
 | x::l,h=>by
   obtain⟨y,hy⟩:=h x Zv
   obtain⟨ys,aa⟩:=Mp.mapM_some fun z hz=>h z (Zx _ hz)
   exact⟨y::ys,by simp[List.mapM_cons,hy,aa]⟩
theorem Mp.keyArr {e:TypeId} {n:Nat} {q:IntKind} (A:Go.WideMaps.ArrKey P k e n) (he:P.underlying e=some (.int q)) (ah:∃m,P.types.size=m+1) (xs:List Int) (hn:xs.length=n) (hw:∀x∈xs,(Lit.int q x).wf=true) :
 ∃l,keyOf P k (.agg (xs.map (Value.int q)).toArray)=some l:=by
 obtain⟨m,hm⟩:=ah
 have ae:(Value.agg (xs.map (Value.int q)).toArray).formed P k=true:=by
  unfold Value.formed
  rw[A.hu]
  simp[A.size,hn]
 have aa:∃ls,P.keyLits (P.types.size+1) k (xs.map (Value.int q))=some ls:=by
  have af:∃ys,((List.range n).mapM fun i=>P.keyLits P.types.size e (((xs.map (Value.int q)).drop (i*P.cellsOf e)).take (P.cellsOf e)))=some ys:=by
   refine Mp.mapM_some fun i hi=>?_
   rw[List.mem_range]at hi
   have hi':i<xs.length:=by omega
   have hx:(((xs.map (Value.int q)).drop (i*P.cellsOf e)).take (P.cellsOf e))=[.int q xs[i]]:=by
    rw[A.one,Nat.mul_one,List.drop_eq_getElem_cons (by simpa using hi')]
    simp
   rw[hx,hm]
   unfold Program.keyLits
   rw[he]
   simp[hw xs[i] (List.getElem_mem hi')]
  obtain⟨ys,ag⟩:=af
  unfold Program.keyLits
  rw[A.hu]
  simp only[Zg,hn,A.size,Yt]
  rw[ag]
  exact⟨_,rfl⟩
 obtain⟨ls,ai⟩:=aa
 unfold keyOf
 rw[A.hu]
 simp only[A.keyType ⟨m,hm⟩,ae,Bool.and_self,Yt,Value.cells]
 rw[ai]
 exact⟨_,rfl⟩
end
end Go.Proofs.YtikiplbhlohmdaaGreatDoor
namespace Go.Proofs.YtikiplbhlohmdaaGreatDoor
open Go.RowKit
theorem C.enter' {P:Program} {f:FuncId} {fn:Func} (hf:P.funcs[f]?=some fn) (aa:(fn.name == "runtime.NumGoroutine")=false) (hb:fn.body.isNone=false) (args:Array Value) (w:World) :
 (callFunc f args).run P w=.ok (.enter f args) w:=by
 rcases h:fn.body with _|c
 · rw[h]at hb;cases hb
 · exact C.enter hf aa h args w
theorem infoRange:(Tryz.prog.info? 231).map (fun i=>(i.zero,i.size,i.bytes))=some (some (.agg #[.int .i32 0,.int .i32 0]),2,8):=by kernel_rfl
def C.fl (k:IntKind):List (Int × Int)→List Value
 | []=>[]
 | (x,y)::t=>.int k x::.int k y::C.fl k t
theorem C.fl_len (k:IntKind):∀rs,(C.fl k rs).length=2*rs.length
 | []=>rfl
 | (x,y)::t=>by show (C.fl k t).length+1+1=2*(t.length+1);rw[C.fl_len k t];omega
theorem C.fl_app (k:IntKind):∀a b,C.fl k (a++b)=C.fl k a++C.fl k b
 | [],b=>rfl
 | (x,y)::t,b=>by show _::_::C.fl k (t++b)=_;rw[C.fl_app k t b];rfl
theorem C.fl_get (k:IntKind):∀(rs:List (Int × Int)) (i:Nat) (r:Int × Int),rs[i]?=some r→(C.fl k rs)[2*i]?=some (.int k r.1)∧(C.fl k rs)[2*i+1]?=some (.int k r.2)
 | [],i,r,h=>by simp at h
 | (x,y)::t,0,r,h=>by simp at h;subst h;exact⟨rfl,rfl⟩
 | (x,y)::t,i+1,r,h=>by
  have:=C.fl_get k t i r (by simpa using h)
  rw[show 2*(i+1)=2*i+1+1 by omega]
  exact this
theorem own_ne {w:World} {base:Nat} {e:TypeId} {size n:Nat} {v:Value} {xs:List Value} (h:w.ownsRow base e size v n xs) (g:Nat) (hg:g<base):v.ownBlock≠some g:=fun hk=>by have:=(h.lt _ hk).1;omega
def RetRngs (rs:List (Int × Int)) (w:World) (e:Ending) (w':World):Prop :=
 ∃A c,e=.returned (.slice A rs.length c)∧w'.ownsRow w.heap.size 231 2 (.slice A rs.length c) rs.length (C.fl .i32 rs)∧Below w.heap.size w w'
set_option maxRecDepth 100000 in
set_option maxHeartbeats 1000000 in
theorem C.ranges_any (A:Option Addr) (c n B:Nat) (l:List Int) (w:World) (hn:l.length=n) (bn:n≤1000000) (bh:n%2=0) (hbd:∀x∈l,0≤x∧x≤1114112) (hB:B≤w.heap.size) (hA:Sl w B A (l.map (Value.int .i32))) :
 Calls Tryz.prog 129 #[.agg #[.slice A n c]] w (RetRngs (C.rngs l) w):=by
 have HN:=Za hn
 have av:=Za hbd
 have HL:=Za (C.rngs_len l)
 clear hn hbd
 obtain⟨j0,hj0,a6,bg,a7⟩:=Z7 infoRange
 go_enter Tryz.func129,Tryz.ntmps129
 go_wp2
 go_loopw [4,3] (fun vi v wr=>∃j k:Nat,k≤2*j∧2*j≤k∧k≤n∧vi=.int .i64 (k:Int)∧wr.ownsRow (w.heap.size+1) 231 2 v j (C.fl .i32 ((C.rngs l).take j))∧Below (w.heap.size+1) (w.alloc (.cells #[.slice A n c] 100)) wr) (fun vi _ _=>n-(intOf vi).toNat)
 case atStart=>exact⟨0,0,by omega,by omega,by omega,rfl,ZC _ _ _ _,Zd _ _⟩
 case round =>
  obtain⟨j,k,bp,bk,hj,rfl,aa,af⟩:=hrel
  have bf:w.heap.size+1≤wr.heap.size:=by have:=af.size;simpa using this
  obtain⟨ag,ax⟩:=ret_blk af
  obtain⟨ay,bj⟩:=blk_cell ag 0
  simp only[List.getElem?_toArray,Y7]at ay
  clear ag
  by_cases hlt:k<n
  · obtain⟨x,hx⟩:∃x,l[k]?=some x:=⟨_,Zc (by rw[HN.out];omega)⟩
    obtain⟨y,hy⟩:∃y,l[k+1]?=some y:=⟨_,Zc (by rw[HN.out];omega)⟩
    have a8:=av.out x (Zk hx)
    have bb:=av.out y (Zk hy)
    obtain⟨bi,ap⟩:=a8
    obtain⟨bm,bo⟩:=bb
    obtain⟨b,o,rfl,bl,a1,ar⟩:=hA.ints hx
    have az:=ar _ _ hy
    rw[←(bcell ax).1 _ _ (by omega)]at a1 az
    have ak:=own_ne aa w.heap.size (by omega)
    have ai:=own_ne aa b (by omega)
    clear ar hA
    have hg:(C.rngs l)[j]?=some (x,y-1):=by
     obtain rfl:k=2*j:=by omega
     rw[C.rngs_get l j (by rw[HN.out];omega)]
     rw[Zc (by rw[HN.out];omega)]at hx hy
     simp only[Zi]at hx hy
     rw[hx,hy]
    have HG:=Za hg
    have g1:(k:Int)<n:=by omega
    clear hg hx hy
    go_wp2
    have ao:=Za (Sl.lit (w:=(wr.alloc (.cells #[.int .i32 x,.int .i32 (y-1)] 231)).drew) (A:=some ⟨wr.heap.size,0,none⟩) (xs:=[.int .i32 x,.int .i32 (y-1)]) rfl 231 (0,0) (ZP wr _))
    have ah:=(aa.alloc (.cells #[.int .i32 x,.int .i32 (y-1)] 231)).drew
    have aw:Below (w.heap.size+1) (w.alloc (.cells #[.slice (some ⟨b,o,none⟩) n c] 100)) ((wr.alloc (.cells #[.int .i32 x,.int .i32 (y-1)] 231)).drew):=(af.alloc bf _).drew
    have aq:=Za aw
    clear aw
    have q1:(0:Int)≤(k:Int)+1:=by omega
    have q2:(k:Int)+1<n:=by omega
    have q3:((k:Int)+1).toNat=k+1:=by omega
    have q4:(0:Int)≤(k:Int):=by omega
    have au:w.heap.size+1≤((wr.alloc (.cells #[.int .i32 x,.int .i32 (y-1)] 231)).drew).heap.size:=by have:=aq.out.size;simpa using this
    have ba:IntKind.i64.wrap ((k:Int)+1)=(k:Int)+1:=by rw[Z0];omega
    have bc:IntKind.i32.wrap (y-1)=y-1:=by rw[Xu];omega
    go_region_held3 (fun w'=>w'.cell? ⟨w.heap.size,0,none⟩=some (.slice (some ⟨b,o,none⟩) n c)∧w'.cell? ⟨b,o+k,none⟩=some (.int .i32 x)∧w'.cell? ⟨b,o+(k+1),none⟩=some (.int .i32 y)) (first
    | go_keep
    | (go_split_ands
       refine⟨?_,?_,?_⟩
       · (rw[ae.cell_far _ (by simp;omega) (Z8 ak)];assumption)
       · (rw[ae.cell_far _ (by simp;omega) (Z8 ai)];assumption)
       · (rw[ae.cell_far _ (by simp;omega) (Z8 ai)];assumption)))
     ((refine step_appendSl _ (by rfl) _ _ _ (by rfl) (w.heap.size+1) 231 j0 _ 2 8 Tryz.underlying228 hj0 a6 bg a7 rfl (by omega) _ j _ (by rfl) ah _ (some ⟨wr.heap.size,0,none⟩) 1 1 [.int .i32 x,.int .i32 (y-1)] (by rfl) (by rfl) ao.out (by simp[Value.oneCell']) (by simp only[maxLen];omega) (by omega) au ?_;intro v1 w2 aj ap ae))
    clear q1 q2 q3 q4 ba bc au
    go_wp2
    refine⟨⟨j+1,k+2,by omega,by omega,by omega,by go_num,?_,aq.out.trans ap⟩,by simp[intOf];omega⟩
    rw[Zw,HG.out,C.fl_app]
    exact aj
  · obtain rfl:k=n:=by omega
    have g1:¬(k:Int)<k:=by omega
    have e0:(C.rngs l).take j=C.rngs l:=Zj (by rw[HL.out,HN.out];omega)
    have e1:j=(C.rngs l).length:=by rw[HL.out,HN.out];omega
    rw[e0]at aa
    have E1:=Za e1
    clear e0 e1
    obtain⟨A5,c5,rfl⟩:=own_form aa
    go_wp2
    go_ret
    refine⟨A5,c5,Z4 (fun q=>Ending.returned (.slice A5 q c5)) E1.out,?_,ax⟩
    rw[←E1.out]
    exact own_base aa (by omega)
end Go.Proofs.YtikiplbhlohmdaaGreatDoor
namespace Go.Proofs.YtikiplbhlohmdaaGreatDoor
def C.part:List Int→Nat→Int
 | _,0=>0
 | x::y::t,i+1=>y-x+C.part t i
 | _,_=>0
theorem C.part0 (l:List Int):C.part l 0=0:=by unfold C.part;rfl
theorem C.ok_tail {x y:Int} {t:List Int} (h:C.ok (x::y::t)):C.ok t :=
 ⟨C.srt_tail (C.srt_tail h.1),fun z hz=>h.2.1 z (by simp[hz]),by have:=h.2.2;simp at this;omega⟩
theorem C.part_step:∀{l:List Int} {i:Nat} {r:Int × Int},C.ok l→(C.rngs l)[i]?=some r→C.part l (i+1)=C.part l i+(r.2-r.1+1)
 | [],i,r,_,h=>by simp[C.rngs]at h
 | [x],i,r,_,h=>by simp[C.rngs]at h
 | x::y::t,0,r,_,h=>by
   simp[C.rngs]at h
   subst h
   show y-x+C.part t 0=0+(y-1-x+1)
   rw[show C.part t 0=0 by cases t <;> rfl]
   omega
 | x::y::t,i+1,r,hk,h=>by
   have:=C.part_step (C.ok_tail hk) (show (C.rngs t)[i]?=some r from h)
   show y-x+C.part t (i+1)=y-x+C.part t i+_
   rw[this];omega
theorem C.part_bd:∀{l:List Int} (_:C.ok l) (i:Nat),0≤C.part l i∧C.part l i≤C.count l
 | [],_,i=>by cases i <;> exact⟨YQ _,YQ _⟩
 | [x],h,_=>by have:=h.2.2;simp at this
 | x::y::t,h,0=>⟨YQ _,(C.count_bd h).1⟩
 | x::y::t,h,i+1=>by
   have aa:=C.srt_head h.1 y (by simp)
   have:=C.part_bd (C.ok_tail h) i
   show 0≤y-x+C.part t i∧y-x+C.part t i≤y-x+C.count t
   omega
theorem C.rng_bd:∀{l:List Int} {i:Nat} {r:Int × Int},C.ok l→(C.rngs l)[i]?=some r→0≤r.1∧r.1≤r.2∧r.2≤1114111∧r.1≤1114111
 | [],i,r,_,h=>by simp[C.rngs]at h
 | [x],i,r,_,h=>by simp[C.rngs]at h
 | x::y::t,0,r,hk,h=>by
   simp[C.rngs]at h
   subst h
   have aa:=C.srt_head hk.1 y (by simp)
   have h1:=hk.2.1 x (by simp)
   have h2:=hk.2.1 y (by simp)
   dsimp only
   omega
 | x::y::t,i+1,r,hk,h=>C.rng_bd (C.ok_tail hk) (show (C.rngs t)[i]?=some r from h)
end Go.Proofs.YtikiplbhlohmdaaGreatDoor
namespace Go.Proofs.YtikiplbhlohmdaaGreatDoor
open Go.RowKit
theorem Sl.pair {w:World} {B:Nat} {A:Option Addr} {k:IntKind} {rs:List (Int × Int)} (h:Sl w B A (C.fl k rs)) {i:Nat} {r:Int × Int} (hr:rs[i]?=some r) :
 ∃b o,A=some ⟨b,o,none⟩∧b<B∧w.cell? ⟨b,o+i*2,none⟩=some (.int k r.1)∧w.cell? ⟨b,o+i*2+1,none⟩=some (.int k r.2):=by
 have hi:i<rs.length:=(List.getElem?_eq_some_iff.1 hr).1
 obtain⟨b,o,hA,hb,hc⟩:=h (by rw[C.fl_len];omega)
 obtain⟨h0,h1⟩:=C.fl_get k rs i r hr
 refine⟨b,o,hA,hb,?_,?_⟩
 · rw[Nat.mul_comm,hc _ (by rw[C.fl_len];omega),h0]
 · rw[Nat.mul_comm,Yi,hc _ (by rw[C.fl_len];omega),h1]
theorem results_cell_row2 {P:Program} {fn:Func} {p u:Tmp} {ty:TypeId} (h:fn.results = #[.cell p ty,.tmp u]) (tmps:Array Value) (w:World) (g:Nat) (t:TypeId) (cs:Array Value) (fr:Nat × Nat) (d:TypeDesc)
 (hp:tmps.getD p undef=.pointer (some ⟨g,0,none⟩)) (hg:w.heap[g]?=some (.cells cs t fr))
 (hu:P.underlying ty=some d) (hd:(match d with | .struct _ | .array _ _=>true|_=>false)=true) (hi:(P.info? ty).map (·.size)=some cs.size) :
 (results fn tmps).run P w=.ok (.tuple #[.agg cs,tmps.getD u undef]) w:=by
 have aa:tmps[p]?.getD undef=.pointer (some ⟨g,0,none⟩):=by simpa using hp
 simp[results,h,aa,asAddr,XR w g t ty cs fr d hg hu hd hi]
end Go.Proofs.YtikiplbhlohmdaaGreatDoor
namespace Go.Proofs.YtikiplbhlohmdaaGreatDoor
def C.inR (rs:List (Int × Int)) (c:Int):Bool:=rs.any fun r=>decide (r.1≤c∧c≤r.2)
theorem C.rngs_mem:∀(l:List Int),C.ok l→∀c,C.inR (C.rngs l) c=C.mem l c
 | [],_,c=>rfl
 | [x],h,c=>by have:=h.2.2;simp at this
 | x::y::t,h,c=>by
   have ih:=C.rngs_mem t (C.ok_tail h) c
   have aa:=C.srt_head h.1 y (by simp)
   show (decide (x≤c∧c≤y-1)||C.inR (C.rngs t) c)=_
   rw[ih,C.mem_cons,C.mem_cons]
   by_cases h1:x≤c
   · by_cases h2:y≤c
     · rw[Zo (by omega),Zn h1,Zn h2];simp
     · have hm:C.mem t c=false:=C.mem_low' (C.srt_tail h.1) (by omega)
       rw[Zn (show x≤c∧c≤y-1 by omega),Zn h1,Zo h2,hm];rfl
   · have hm:C.mem t c=false:=C.mem_low' (C.srt_tail h.1) (by omega)
     rw[Zo (by omega),Zo h1,hm];rfl
section
variable {S:List Int} (hS:C.ok S) (hC:∀c,C.mem S c=true→C.isC c=true) {d:Int} (h0:0≤d) (h1:d≤1114111)
include hS hC h0 h1
end
end Go.Proofs.YtikiplbhlohmdaaGreatDoor
namespace Go.Proofs.YtikiplbhlohmdaaGreatDoor
open Go.RowKit
def C.ins (x:Int):List Int→List Int
 | []=>[x]
 | y::t=>if x<y then x::y::t else if x=y then y::t else y::C.ins x t
end Go.Proofs.YtikiplbhlohmdaaGreatDoor
namespace Go.Proofs.YtikiplbhlohmdaaGreatDoor
theorem C.mem_snoc:∀(l:List Int) (x c:Int),C.srt (l++[x])→C.mem (l++[x]) c=(C.mem l c ^^ decide (x≤c))
 | [],x,c,_=>by simp[C.mem]
 | y::t,x,c,h=>by
   have ih:=C.mem_snoc t x c (C.srt_tail h)
   have aa:=C.srt_head h x (by simp)
   rw[ZQ,C.mem_cons,ih,C.mem_cons]
   by_cases hy:y≤c
   · rw[Zn hy]
     cases C.mem t c <;> cases decide (x≤c) <;> rfl
   · rw[Zo hy,Zo (by omega)];rfl
theorem C.srt_snoc {l:List Int} {x:Int} (h:C.srt l) (hx:∀y∈l,y<x):C.srt (l++[x]):=by
 unfold C.srt
 rw[List.pairwise_append]
 exact⟨h,List.pairwise_singleton _ _,fun a ha b hb=>by simp at hb;subst hb;exact hx a ha⟩
def C.step (p:Int→Bool) (acc:List Int) (a b:Int):List Int :=
 if p a=true then (if acc.getLast?=some a then acc.dropLast++[b] else acc++[a,b]) else acc
def C.upto (p:Int→Bool) (acc:List Int) (a:Int):Prop :=
 C.srt acc∧acc.length%2=0∧(∀x∈acc,x≤a)∧∀c,C.mem acc c=(p c&&decide (c<a))
theorem C.upto_step {p:Int→Bool} {acc:List Int} {a b:Int} (h:C.upto p acc a) (ak:a<b) (hp:∀c,a≤c→c<b→p c=p a):C.upto p (C.step p acc a b) b:=by
 obtain⟨h1,h2,h3,h4⟩:=h
 unfold C.step
 have key:∀c,p a=true→((p c&&decide (c<a)) ^^ decide (a≤c) ^^ decide (b≤c))=(p c&&decide (c<b)):=by
  intro c ae
  by_cases ha:a≤c
  · by_cases hb:b≤c
    · rw[Zn ha,Zn hb,Zo (show ¬c<a by omega),Zo (show ¬c<b by omega)];simp
    · rw[Zn ha,Zo hb,Zo (show ¬c<a by omega),Zn (show c<b by omega),hp c ha (by omega),ae];rfl
  · rw[Zo ha,Zo (show ¬b≤c by omega),Zn (show c<a by omega),Zn (show c<b by omega)];simp
 split
 · rename_i ae
   split
   · rename_i hl
     obtain⟨l,rfl⟩:∃l,acc=l++[a]:=by
      obtain⟨l,ah⟩:=List.getLast?_eq_some_iff.1 hl
      exact⟨l,ah⟩
     rw[List.dropLast_concat]
     have ai:C.srt l:=(List.pairwise_append.1 h1).1
     have aa:∀y∈l,y<a:=fun y hy=>(List.pairwise_append.1 h1).2.2 y hy a (by simp)
     have af:=C.srt_snoc ai (x:=b) (fun y hy=>by have:=aa y hy;omega)
     refine⟨af,by simpa using h2,?_,?_⟩
     · intro x hx
       rcases List.mem_append.1 hx with hx|hx
       · have:=aa x hx;omega
       · simp at hx;omega
     · intro c
       rw[C.mem_snoc _ _ _ af,←key c ae,←h4 c,C.mem_snoc _ _ _ h1]
       cases C.mem l c <;> cases decide (a≤c) <;> cases decide (b≤c) <;> rfl
   · rename_i hl
     have aa:∀y∈acc,y<a:=by
      intro y hy
      rcases Int.lt_or_le y a with h'|h'
      · exact h'
      · exfalso
        have aj:y=a:=by have:=h3 y hy;omega
        subst aj
        rcases YL acc with rfl|⟨l,z,rfl⟩
        · cases hy
        · rw[YM]at *
          have hz:=h3 z (by simp)
          rcases List.mem_append.1 hy with hy|hy
          · have:=(List.pairwise_append.1 h1).2.2 y hy z (by simp);omega
          · simp at hy
            subst hy
            exact hl (by simp)
     have ag:=C.srt_snoc h1 aa
     have af:=C.srt_snoc ag (x:=b) (fun y hy=>by
      rcases List.mem_append.1 hy with hy|hy
      · have:=aa y hy;omega
      · simp at hy;omega)
     have e:acc++[a,b]=(acc++[a])++[b]:=by simp
     rw[e]
     refine⟨af,by simp;omega,?_,?_⟩
     · intro x hx
       simp at hx
       rcases hx with hx|hx|hx
       · have:=aa x hx;omega
       · omega
       · omega
     · intro c
       rw[C.mem_snoc _ _ _ af,C.mem_snoc _ _ _ ag,h4 c,key c ae]
 · rename_i ae
   refine⟨h1,h2,fun x hx=>by have:=h3 x hx;omega,fun c=>?_⟩
   rw[h4 c]
   by_cases ha:c<a
   · rw[Zn ha,Zn (by omega)]
   · by_cases hb:c<b
     · have hf:p a=false:=by cases h:p a <;> simp_all
       rw[hp c (by omega) hb,hf];rfl
     · rw[Zo ha,Zo hb]
theorem C.step_new {p:Int→Bool} {acc:List Int} {a b:Int} (hp:p a=true) (h:acc.getLast?≠some a):C.step p acc a b=acc++[a,b]:=by
 unfold C.step
 rw[Zp hp,Zl h]
theorem C.step_no {p:Int→Bool} {acc:List Int} {a b:Int} (hp:p a=false):C.step p acc a b=acc:=by
 unfold C.step
 rw[Zl (by simp[hp])]
theorem C.step_mem {p:Int→Bool} {acc:List Int} {a b x:Int} (h:x∈C.step p acc a b):x∈acc∨x=a∨x=b:=by
 unfold C.step at h
 split at h
 · split at h
   · rcases List.mem_append.1 h with h|h
     · exact .inl (List.dropLast_subset _ h)
     · simp at h;exact .inr (.inr h)
   · rcases List.mem_append.1 h with h|h
     · exact .inl h
     · simp at h
       rcases h with h|h
       · exact .inr (.inl h)
       · exact .inr (.inr h)
 · exact .inl h
theorem C.upto_mono {p:Int→Bool} {acc:List Int} {a c:Int} (h:C.upto p acc a) (aa:a≤c) (hp:∀d,a≤d→d<c→p d=false):C.upto p acc c:=by
 obtain⟨h1,h2,h3,h4⟩:=h
 refine⟨h1,h2,fun x hx=>by have:=h3 x hx;omega,fun d=>?_⟩
 rw[h4 d]
 by_cases h:d<a
 · rw[Zn h,Zn (by omega)]
 · by_cases h':d<c
   · rw[hp d (by omega) h'];rfl
   · rw[Zo h,Zo h']
theorem C.step_isC {p:Int→Bool} {acc:List Int} {c b:Int} (h:p c=C.isC c):C.step p acc c b=C.step C.isC acc c b:=by
 unfold C.step;rw[h]
theorem C.step_bd {acc:List Int} {c:Int} (h:∀x∈acc,0≤x∧x≤1114112):∀x∈C.step C.isC acc c (c+1),0≤x∧x≤1114112:=by
 intro x hx
 cases hc:C.isC c
 · rw[C.step_no hc]at hx;exact h x hx
 · have hb:0≤c∧c≤1114111:=by simp[C.isC]at hc;omega
   rcases C.step_mem hx with hx|rfl|rfl
   · exact h x hx
   · omega
   · omega
def C.chF (cs acc:List Int):List Int:=cs.foldl (fun o c=>C.step C.isC o c (c+1)) acc
theorem C.ch_go {p:Int→Bool}:∀(cs acc:List Int) (a:Int),C.srt cs→(∀c∈cs,a≤c)→(∀d,a≤d→p d=(decide (d∈cs)&&C.isC d))→(∀x∈acc,0≤x∧x≤1114112)→C.upto p acc a →
 (∀x∈C.chF cs acc,0≤x∧x≤1114112)∧∃b,C.upto p (C.chF cs acc) b∧∀d,b≤d→p d=false
 | [],acc,a,_,_,hp,hb,h=>⟨hb,a,h,fun d hd=>by rw[hp d hd];simp⟩
 | c::t,acc,a,hs,hc,hp,hb,h=>by
   have aa:=hc c (by simp)
   have ae:∀z∈t,c<z:=C.srt_head hs
   have h1:=C.upto_mono h aa (fun d d1 d2=>by
    rw[hp d d1]
    have:d∉c::t:=by
     intro hm
     rcases List.mem_cons.1 hm with rfl|hm
     · omega
     · have:=ae d hm;omega
    rw[Zo this];rfl)
   have af:p c=C.isC c:=by rw[hp c aa,Zn (by simp)];rfl
   have h2:=C.upto_step h1 (show c<c+1 by omega) (fun d d1 d2=>by rw[show d=c by omega])
   rw[C.step_isC af]at h2
   show (∀x∈C.chF t (C.step C.isC acc c (c+1)),0≤x∧x≤1114112)∧∃b,C.upto p (C.chF t (C.step C.isC acc c (c+1))) b∧∀d,b≤d→p d=false
   refine C.ch_go t _ (c+1) (C.srt_tail hs) (fun z hz=>by have:=ae z hz;omega) (fun d hd=>?_) (C.step_bd hb) h2
   rw[hp d (by omega)]
   congr 1
   rw[decide_eq_decide]
   constructor
   · intro hm
     rcases List.mem_cons.1 hm with rfl|hm
     · omega
     · exact hm
   · intro hm;simp[hm]
theorem C.ch_spec (cs:List Int) (hs:C.srt cs):C.ok (C.chF cs [])∧∀d,C.mem (C.chF cs []) d=(decide (d∈cs)&&C.isC d):=by
 obtain⟨a,ha⟩:∃a:Int,∀c∈cs,a≤c:=by
  cases cs with
  | nil=>exact⟨0,by simp⟩
  | cons c t=>exact⟨c,fun z hz=>by
     rcases List.mem_cons.1 hz with rfl|hz
     · exact YQ _
     · have:=C.srt_head hs z hz;omega⟩
 have h0:C.upto (fun d=>decide (d∈cs)&&C.isC d) [] a:=by
  refine⟨List.Pairwise.nil,rfl,by simp,fun d=>?_⟩
  by_cases hd:d<a
  · have:d∉cs:=fun hm=>by have:=ha d hm;omega
    show false=((decide (d∈cs)&&C.isC d)&&decide (d<a))
    rw[Zo this];rfl
  · show false=((decide (d∈cs)&&C.isC d)&&decide (d<a))
    rw[Zo hd,Bool.and_false]
 obtain⟨hb,b,⟨u1,u2,u3,u4⟩,hz⟩:=C.ch_go cs [] a hs ha (fun d _=>rfl) (by simp) h0
 refine⟨⟨u1,hb,u2⟩,fun d=>?_⟩
 rw[u4 d]
 by_cases hd:d<b
 · rw[Zn hd,Bool.and_true]
 · have:=hz d (by omega)
   rw[this]
   show ((decide (d∈cs)&&C.isC d)&&decide (d<b))=false
   rw[this];rfl
theorem C.arr_get {l:List Int} {j:Nat} (h:j<l.length):l.toArray[j]! = l[j]:=by
 rw[getElem!_pos l.toArray j (by simpa using h)];simp
theorem C.le_of {l:List Int} (hs:l.Pairwise (· ≤ ·)) {i j:Nat} (hij:i≤j) (hj:j<l.length):l[i]'(by omega)≤l[j]:=by
 rcases ZX i j with h|h
 · exact List.pairwise_iff_getElem.1 hs i j (by omega) hj h
 · obtain rfl:i=j:=by omega
   exact YQ _
theorem C.cmp_spec (l:List Int) (hs:l.Pairwise (· ≤ ·)):∀m,m≤l.length→C.srt (Lib.compactUpTo l.toArray m)∧∀z,z∈Lib.compactUpTo l.toArray m↔z∈l.take m
 | 0,_=>⟨by simp[Lib.compactUpTo,C.srt],by simp[Lib.compactUpTo]⟩
 | m+1,hm=>by
   obtain⟨h1,h2⟩:=C.cmp_spec l hs m (by omega)
   have aa:m<l.length:=by omega
   have et:l.take (m+1)=l.take m++[l[m]]:=by rw[YE aa]
   have eg:=C.arr_get aa
   rw[Lib.compactUpTo_succ]
   by_cases hk:m=0∨l[m]≠l[m-1]'(by omega)
   · have ae:Lib.keeps l.toArray m=true:=by
      unfold Lib.keeps
      rw[Z5,eg,C.arr_get (show m-1<l.length by omega)]
      exact hk
     rw[Zp ae,eg]
     refine⟨C.srt_snoc h1 fun y hy=>?_,fun z=>by rw[Xa,h2,et,Xa]⟩
     obtain⟨j,hj,rfl⟩:=Xr ((h2 y).1 hy)
     have af:j<m:=by rw[Zq]at hj;omega
     rw[List.getElem_take]
     rcases hk with rfl|hk
     · omega
     · have a1:=C.le_of hs (i:=j) (j:=m-1) (by omega) (by omega)
       have a2:=C.le_of hs (i:=m-1) (j:=m) (by omega) aa
       omega
   · have h0:m≠0:=fun h=>hk (.inl h)
     have he:l[m]=l[m-1]'(by omega):=by
      rcases Int.decEq l[m] (l[m-1]'(by omega)) with h|h
      · exact absurd (.inr h) hk
      · exact h
     have ae:Lib.keeps l.toArray m=false:=by
      unfold Lib.keeps
      rw[ZY,eg,C.arr_get (show m-1<l.length by omega)]
      exact hk
     rw[ae]
     refine⟨by simpa using h1,fun z=>?_⟩
     rw[et]
     simp only[ZJ,Ye,Yc]
     rw[h2,Xa]
     constructor
     · exact .inl
     · rintro (h|h)
       · exact h
       · rw[ZA]at h
         subst h
         rw[he]
         have:l[m-1]'(by omega)=(l.take m)[m-1]'(by rw[Zq];omega):=by rw[List.getElem_take]
         rw[this]
         exact List.getElem_mem _
def C.once (l:List Int):List Int:=Lib.compactUpTo (l.mergeSort fun x y=>decide (x≤y)).toArray l.length
theorem C.once_spec (l:List Int):C.srt (C.once l)∧∀z,z∈C.once l↔z∈l:=by
 have hs:(l.mergeSort fun x y=>decide (x≤y)).Pairwise (· ≤ ·):=by
  have h:=List.pairwise_mergeSort (le:=fun x y:Int=>decide (x≤y)) (by intro a b c h1 h2;simp at *;omega) (by intro a b;simp;omega) l
  exact h.imp (by intro a b h;simpa using h)
 obtain⟨h1,h2⟩:=C.cmp_spec _ hs l.length (by simp)
 refine⟨h1,fun z=>?_⟩
 unfold C.once
 rw[h2,Zj (by simp)]
 exact (List.mergeSort_perm l _).mem_iff
def C.chars (l:List Int):List Int:=C.chF (C.once l) []
theorem C.chars_spec (l:List Int):C.ok (C.chars l)∧∀d,C.mem (C.chars l) d=(decide (d∈l)&&C.isC d):=by
 obtain⟨h1,h2⟩:=C.once_spec l
 obtain⟨h3,h4⟩:=C.ch_spec (C.once l) h1
 refine⟨h3,fun d=>?_⟩
 show C.mem (C.chF (C.once l) []) d=_
 rw[h4 d]
 congr 1
 rw[decide_eq_decide]
 exact h2 d
end Go.Proofs.YtikiplbhlohmdaaGreatDoor
