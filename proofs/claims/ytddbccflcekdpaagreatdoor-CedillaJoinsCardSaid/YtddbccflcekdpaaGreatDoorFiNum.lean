/- strings.Lines, strings.TrimSuffix at a line's end: their contracts, by walking their texts. -/
import Derived.Test.YtddbccflcekdpaaGreatDoorRwPlain
import Derived.Lib.AppendIntMem
set_option maxRecDepth 100000
set_option maxHeartbeats 4000000
set_option linter.unusedVariables false
set_option linter.unusedSimpArgs false
namespace Go.Proofs.YtddbccflcekdpaaGreatDoor
open Go.Proofs.Tryz
section
open Go.RowKit
attribute [local go_sem] Oper.semAt_some
def zDC:List UInt8→List UInt8→List (List UInt8)
 | w,[]=>if w=[] then [] else [w]
 | w,b::r=>if b=10 then (w++[10])::zDC [] r else zDC (w++[b]) r
def zDD (x:List UInt8):List UInt8:=if x.getLast?=some 10 then x.dropLast else x
theorem zHi:∀(a w r:List UInt8),(10:UInt8)∉a→zDC w (a++r)=zDC (w++a) r
 | [],w,r,_=>by simp
 | b::a,w,r,h=>by
   have hb:b≠10:=fun e=>h (by rw[e];exact Zt)
   rw[Zx,zDC,Zl hb,zHi a _ r (fun h'=>h (Zv _ h')),ZC];rfl
theorem zEx:∀(l w:List UInt8),(10:UInt8)∉w→(zDC w l).map zDD=zAS w l
 | [],w,h=>by
   unfold zDC zAS;split
   · rfl
   rw[Xo];unfold zDD;rw[Zl];intro hl;exact h (QE hl)
 | b::r,w,h=>by
   unfold zDC zAS;split
   · rw[Z1,zEx r [] (by simp)];congr 1;unfold zDD;simp
   rename_i hb
   exact zEx r _ fun hm=>by
    rcases List.mem_append.1 hm with h1|h1
    · exact h h1
    rw[Zw]at h1;exact hb h1.symm
def zB0 (s:ByteArray):List ByteArray:=(zDC [] s.data.toList).map fun x=>⟨x.toArray⟩
theorem zO1 {r:ByteArray} {i:Nat} (h:Lib.indexByte r.data.toList 10=i):zB0 r=r.extract 0 (i+1)::zB0 (r.extract (i+1) r.size):=by
 obtain⟨h1,h2⟩:=zCt 10 _ i h;have hd:(r.extract (i+1) r.size).data.toList=r.data.toList.drop (i+1):=by rw[Lib.extract_data,Zm (by simp)]
 have hl:i<r.data.toList.length:=by
  have:=Yb List.length h1;rw[Zd,ZE,Zq,ZO]at this;omega
 have hg:r.data.toList[i]=10:=by
  have e:=Yb (·[i]?) h1;simp only[Zb hl]at e;rw[ZJ (by rw[Zq];omega),Zq,X7 (by omega),Yo]at e;simpa using e
 have ht:(r.extract 0 (i+1)).data.toList=r.data.toList.take i++[10]:=by
  rw[Lib.extract_data,QP,J8,YM hl,hg]
 unfold zB0;rw[hd]
 conv=>lhs;rw[h1]
 rw[zHi _ _ _ h2,ZH,zDC,Zo rfl,Z1,←ht,Lib.mk_data]
theorem zMG {r:ByteArray} (h:Lib.indexByte r.data.toList 10 = -1) (h0:0<r.size):zB0 r=[r]:=by
 have hne:r.data.toList≠[]:=fun e=>by
  have:r.data.toList.length=r.size:=by simp
  rw[e,Z2]at this;omega
 have:=zHi r.data.toList [] [] (zCs 10 _ h);rw[Z4,ZH,zDC,Zl hne]at this;unfold zB0;rw[this,Xo,Lib.mk_data]
theorem zHW {r:ByteArray} (h0:r.size=0):zB0 r=[]:=by
 have:r.data.toList=[]:=List.eq_nil_of_length_eq_zero (by simpa using h0);unfold zB0;rw[this];rfl
theorem Rw.idx_lt {r:ByteArray} {c:UInt8} {i:Nat} (h:Lib.indexByte r.data.toList c=i):i<r.size:=by
 obtain⟨h1,_⟩:=zCt c _ i h;have:=Yb List.length h1;have hl:r.data.toList.length=r.size:=by simp
 rw[Zd,ZE,Zq,ZO,hl]at this;omega
theorem Rw.grown_drew {W W':World} {row:Option Nat} (h:W.grownBy W' row):W.grownBy W'.drew row:=⟨h.os,h.tape,h.output,h.size,h.block⟩
theorem zOK (r:ByteArray) (w:World):Calls prog 171 #[.string r,.int .u8 10] w fun e w'=>e=.returned (.int .i64 (Lib.indexByte r.data.toList 10))∧w'=w :=
 Tryz.strings_IndexByte r 10 w
theorem zMH (s:ByteArray) (hs:s.size≤1000000000) (n b:Nat) (hn:1≤n) (W:World) (h0:Boxed W b 9 (.string s)) :
 zSc n prog 170 #[.pointer (some ⟨b,0,none⟩)] (fun x:ByteArray => #[Value.string x]) b [b]
  (fun xs=>xs=zB0 s) (fun pre=>pre <+: zB0 s) (zB0 s).length W:=fun l J Jx hJ au hY hj0=>by
 obtain⟨L,hL⟩:∃L,zB0 s=L:=⟨_,rfl⟩;rw[hL]at hY ⊢;have c1:=h0.cell;refine callsIn_of_wp func170 rfl trivial ?_ rfl;simp only[ntmps170,Ql,ZE,Z2,Nat.reduceAdd,Nat.reduceSub,XT,XU,Qm,XY,ZH,Zx]
 gi_wp2
 gi_loopw [3] (fun _ wr=>∃(pre:List ByteArray) (r:ByteArray),L=pre++zB0 r∧Boxed wr b 9 (.string r)∧J pre wr∧r.size≤s.size)
  (fun _ wr=>Q.left b wr)
 case atStart=>exact⟨[],s,hL.symm,h0,hj0,Za _⟩
 obtain⟨pre,r,aa,b0,af,ao⟩:=hrel;have d0:=b0.cell;have ar:=b0.frozen
 by_cases hr0:r.size=0
 · rw[zHW hr0,Z4]at aa;have hz:¬(0:Int)<(r.size:Int):=by omega
   have HP:=hy' aa;clear aa hr0
   gi_wp2
   go_end0;refine⟨⟨_,rfl⟩,.inl ?_⟩;rw[HP.o]
   first|exact af|exact⟨pre,rfl,af⟩
 have hz:(0:Int)<(r.size:Int):=by omega
 by_cases hidx:Lib.indexByte r.data.toList 10 = -1
 · rw[zMG hidx (by omega)]at aa;have hm:¬(0:Int) ≤ -1:=by decide
   obtain⟨U,hU⟩:∃U,wr.setCell ⟨b,0,none⟩ (.string ⟨#[]⟩)=U:=⟨_,rfl⟩;have ag:J pre U:=by rw[←hU];exact hJ _ _ _ _ af (grownBy_setCell' wr b (.string ⟨#[]⟩)) (fun q e=>by cases e;rfl)
   have bU:Boxed U b 9 (.string ⟨#[]⟩):=by rw[←hU];exact b0.set _
   obtain⟨fn,tmps,assign,body,hy,hR⟩:=hY pre r U ag (by rw[aa];simp) (by rw[aa];exact Qx _);have HU:=hy' hU;have HP:=hy' aa;have HI:=hy' hidx;clear aa hU hidx
   gi_wp2_with (first|(refine⟨trivial,?_⟩;gi_at_call 171;refine (callsIn_wide.2 (zOK _ _)).mono ?_;rintro e w1 ⟨rfl,rfl⟩;rw[HI.o])|fail)
   rw[HU.o];rw[hy]
   gi_wp2
   refine hR.mono ?_;rintro e W3 (⟨rfl,ai,ah⟩|⟨rfl,ae⟩)
   · have k0:=Q.kept ah bU (by simp)
     gi_wp2
     go_roundw
     case rel=>exact⟨pre++[r],⟨#[]⟩,by rw[HP.o,zHW rfl,Z4],k0,ai,ZG _⟩
     rw[zE1 k0,zE1 b0];show (0:Nat)<r.size;omega
   gi_wp2
   refine YH (QO rfl _ _ _) rfl ?_;exact⟨⟨_,rfl⟩,.inr ⟨pre++[r],by rw[HP.o];exact Qx _,ae⟩⟩
 have hge:=Lib.indexByte_ge r.data.toList 10;obtain⟨i,hi⟩:∃i:Nat,Lib.indexByte r.data.toList 10=i:=⟨(Lib.indexByte r.data.toList 10).toNat,by omega⟩;have ap:=Rw.idx_lt hi;rw[zO1 hi]at aa;obtain⟨x,hx⟩:∃x,r.extract 0 (i+1)=x:=⟨_,rfl⟩;obtain⟨z,aj⟩:∃z,r.extract (i+1) r.size=z:=⟨_,rfl⟩;rw[hx,aj]at aa;have aq:z.size=r.size-(i+1):=by rw[←aj,Jl];omega
 have i0:¬(i:Int)<0:=by omega
 have i1:(0:Int)≤(i:Int):=by omega
 have i2:(i:Int)≤r.size:=by omega
 have i3:(0:Int)≤(i:Int)+1:=by omega
 have i4:(i:Int)+1≤r.size:=by omega
 obtain⟨U,hU⟩:∃U,(wr.setCell ⟨b,0,none⟩ (.string z)).drew=U:=⟨_,rfl⟩;have ak:wr.grownBy U (some b):=by rw[←hU];exact Rw.grown_drew (grownBy_setCell' wr b (.string z))
 have ag:J pre U:=hJ _ _ _ _ af ak (fun q e=>by cases e;rfl);have bU:Boxed U b 9 (.string z):=by rw[←hU];exact b0.set _
 obtain⟨fn,tmps,assign,body,hy,hR⟩:=hY pre x U ag (by rw[aa];simp) ⟨_,by rw[aa,ZC];rfl⟩;have HU:=hy' hU;have HY:=hy' hy;clear hU ak hy;have HI:=hy' hi;have HP:=hy' aa;clear hi hidx aa hge
 gi_wp2_with (first|(refine⟨trivial,?_⟩;gi_at_call 171;refine (callsIn_wide.2 (zOK _ _)).mono ?_;rintro e w1 ⟨rfl,rfl⟩;rw[HI.o])|fail)
 gi_region
 gi_wp2
 rw[HU.o,HY.o]
 gi_wp2
 refine hR.mono ?_;rintro e W3 (⟨rfl,ai,ah⟩|⟨rfl,ae⟩)
 · have k0:=Q.kept ah bU (by simp)
   gi_wp2
   go_roundw
   case rel=>exact⟨pre++[x],z,by rw[HP.o];simp,k0,ai,by omega⟩
   rw[zE1 k0,zE1 b0];omega
 gi_wp2
 refine YH (QO rfl _ _ _) rfl ?_;exact⟨⟨_,rfl⟩,.inr ⟨pre++[x],⟨_,by rw[HP.o,ZC];rfl⟩,ae⟩⟩
theorem zLh (s:ByteArray) (w:World) :
 Calls prog 143 #[.string s] w fun e w'=>e=.returned (.func (.func 170) #[] #[.pointer (some ⟨w.heap.size,0,none⟩)])∧w'=w.alloc (.cells #[.string s] 9):=by
 go_enter func143,ntmps143;go_wp2;go_ret;exact⟨rfl,rfl⟩
attribute [local go_sem] Oper.semAt_some
theorem Rw.infoStr:(prog.info? 9).map (fun i=>(i.zero,i.size,i.bytes))=some (some (.string ByteArray.empty),1,16):=by kernel_rfl
theorem Rw.plain_any (s:ByteArray) (hs:s.size≤1000000000) (hp:zCg s.data.toList=true) (w:World) :
 Calls prog 145 #[.string s] w fun e w'=>e=.returned (.bool true)∧w'=w:=by
 have hb:∀k (h:k<s.size),32≤s[k].toNat∧s[k].toNat≤126:=by
  intro k h;unfold zCg at hp;rw[Yi]at hp
  have:=hp s[k] (by
   rw[show s[k]=s.data.toList[k]'(by simpa using h) from rfl];exact Qt _)
  rw[Zy,Zp,Zp]at this;exact this
 go_enter func145,ntmps145;go_wp2;go_loop [6] (fun i=>∃k:Nat,k≤s.size∧i=.int .i64 k) (fun i=>s.size-(intOf i).toNat)
 case atStart=>exact⟨0,ZG _,rfl⟩
 obtain⟨k,hk,rfl⟩:=hrel
 by_cases hlt:k<s.size
 · obtain⟨h1,h2⟩:=hb k hlt;have ae:¬((s[k].toNat:Int)<32):=by omega
   have aa:¬((126:Int)<(s[k].toNat:Int)):=by omega
   go_wp2;exact⟨⟨k+1,by omega,by go_num⟩,by simp[intOf];omega⟩
 go_wp2;go_ret;exact⟨rfl,rfl⟩
def zG6 (x:ByteArray):ByteArray:=⟨(zDD x.data.toList).toArray⟩
def zG7 (l:List ByteArray):List Value:=l.map fun x=>Value.string (zG6 x)
def zJj (L:List (List UInt8)) (w:World) (e:Ending) (w':World):Prop :=
 ∃A c,e=.returned (.tuple #[.slice A L.length c,.nilIface])∧Sl w' w'.heap.size A (L.map fun x=>Value.string ⟨x.toArray⟩)∧Below w.heap.size w w'
def zSd (L:List ByteArray) (w:World) (e:Ending) (w':World):Prop :=
 ∃A c,e=.returned (.tuple #[.slice A L.length c,.nilIface])∧Sl w' w'.heap.size A (zG7 L)∧Below w.heap.size w w'
theorem zPK (x:List UInt8):Lib.trimSuffix x [10]=zDD x:=by
 unfold Lib.trimSuffix Lib.hasSuffix zDD;rcases YY x with rfl|⟨m,b,rfl⟩
 · simp
 rw[YZ];simp only[QD,List.getLast?_singleton,Jy,Option.or_some,Zh,QR,Zd,YA,Qa,QS]
 by_cases hb:b=10
 · subst hb;simp
 have h:¬([10] <:+ m++[b]):=by
  rintro⟨t,ht⟩;have:=Yb List.getLast? ht;simp at this;exact hb this.symm
 simp[hb,h]
theorem zO2 (x:ByteArray) (hx:x.size≤1000000000) (w:World):Calls prog 144 #[.string x,.string ⟨#[10]⟩] w fun e w'=>e=.returned (.string (zG6 x))∧w'=w:=by
 have h:=Tryz.strings_TrimSuffix x ⟨#[10]⟩ w (by omega);rw[show (⟨#[10]⟩:ByteArray).data.toList=[10] from rfl,zPK]at h;exact h
theorem zHj:∀(l w:List UInt8),∀x∈zDC w l,x.length≤w.length+l.length
 | [],w,x,h=>by
   unfold zDC at h;split at h
   · cases h
   rw[Zw]at h;subst h;simp
 | b::r,w,x,h=>by
   unfold zDC at h;split at h
   · rcases List.mem_cons.1 h with rfl|h
     · simp
     have:=zHj r [] x h;simp at this ⊢;omega
   have:=zHj r _ x h;simp at this ⊢;omega
theorem zMI (s:ByteArray) (x:ByteArray) (h:x∈zB0 s):x.size≤s.size:=by
 unfold zB0 at h;obtain⟨y,hy,rfl⟩:=List.mem_map.1 h;have:=zHj s.data.toList [] y hy;have e:s.data.toList.length=s.size:=by simp
 show y.toArray.size≤s.size;simp at this ⊢;exact this
theorem zO3 (s:ByteArray):(zB0 s).length≤s.size+1:=by
 have h1:=Yb List.length (zEx s.data.toList [] (by simp));have h2:=zHg s.data.toList [];have e:s.data.toList.length=s.size:=by simp
 unfold zB0;rw[Ze]at h1 ⊢;omega
theorem zLi (s:ByteArray) (hs:s.size≤1000000) (aj:∀x∈zB0 s,(zG6 x).size≤1000∧zCg (zG6 x).data.toList=true) (w:World) :
 Calls prog 118 #[.string s] w (zSd (zB0 s) w):=by
 obtain⟨i0,hi,av,a8,a1⟩:=Z7 Rw.infoStr;have ah:=zMI s;have ak:=zO3 s;refine (callsIn_wide (n:=5)).1 ?_;refine callsIn_of_wp_marks func118 rfl trivial ?_ rfl;simp only[ntmps118,Ql,ZE,Z2,Nat.reduceAdd,Nat.reduceSub,XT,XU,Qm,XY,ZH,Zx]
 gi_wp2_with (refine⟨trivial,?_⟩;gi_at_call 143;refine (callsIn_wide.2 (zLh s _)).mono ?_;rintro e w1 ⟨rfl,ae⟩;have HW:=hy' ae;clear ae)
 have ae:=HW.o;have bb:w1.heap.size=w.heap.size+4:=by rw[ae];simp
 have q2:Boxed w1 w.heap.size 55 (.slice none 0 0):=by
  rw[ae];exact (((Boxed.new w 55 (.slice none 0 0)).alloc _).alloc _).alloc _
 have q3:Boxed w1 (w.heap.size+1) 117 (.nilIface):=by
  have h:=Boxed.new (w.alloc (.cells #[.slice none 0 0] 55)) 117 (.nilIface);rw[ZL]at h;rw[ae];exact (h.alloc _).alloc _
 have q4:Boxed w1 (w.heap.size+1+1) 55 (.slice none 0 0):=by
  have h:=Boxed.new ((w.alloc (.cells #[.slice none 0 0] 55)).alloc (.cells #[.nilIface] 117)) 55 (.slice none 0 0);rw[ZL,ZL]at h;rw[ae];exact h.alloc _
 have q5:Boxed w1 (w.heap.size+1+1+1) 9 (.string s):=by
  have h:=Boxed.new (((w.alloc (.cells #[.slice none 0 0] 55)).alloc (.cells #[.nilIface] 117)).alloc (.cells #[.slice none 0 0] 55)) 9 (.string s);rw[ZL,ZL,ZL]at h;rw[ae];exact h
 have ax:Below w.heap.size w w1:=by
  rw[ae];exact ((((Zc _ w).alloc (by simp) _).alloc (by simp) _).alloc (by simp;omega) _).alloc (by simp;omega) _
 clear ae HW;obtain⟨L,hL⟩:∃L,zB0 s=L:=⟨_,rfl⟩;obtain⟨D,hD⟩:∃D,w1.heap.size=D:=⟨_,rfl⟩;have ai:=fun (W:World) (hW:Below w1.heap.size w1 W)=>zMH s (by omega) (5-1) (w.heap.size+1+1+1) (by omega) W ((hW.block _ (by omega)).trans q5)
 rw[hL]at ai ah ak aj ⊢
 refine R.range (n:=5) (by omega) (gf:=170) (lb := #[.pointer (some ⟨w.heap.size+1+1+1,0,none⟩)]) rfl (enters_of func170 (by kernel_rfl) rfl)
  (b:=w.heap.size+1+1+1) (by omega) (ks:=[w.heap.size+1+1+1]) (by simp;omega) ai (fun _=>rfl)
  (fun pre W=>(∃v,Boxed W (w.heap.size+1+1) 55 v∧W.ownsRow D 9 1 v pre.length (zG7 pre))∧Boxed W w.heap.size 55 (.slice none 0 0)∧Boxed W (w.heap.size+1) 117 (.nilIface)∧Below w.heap.size w W∧D≤W.heap.size)
  (fun c pre W=>False)
  (by
    rintro pre X Y row ⟨⟨v,a2,a3⟩,a4,a5,a6,a7⟩ hg hr;exact⟨⟨v,zC7 a2 hg hr (by omega),zKv a3 hg hr (by omega)⟩,zC7 a4 hg hr (by omega),zC7 a5 hg hr (by omega),zEY a6 a6.size hg hr (by omega) (by omega),Zi a7 hg.size⟩)
  (fun c pre X Y row h _ _=>h)
  ⟨⟨_,q4,ZI _ _ _ _⟩,q2,q3,ax,by omega⟩
  (fun x=>{ tmps := #[.string s,undef,.pointer (some ⟨w.heap.size,0,none⟩),.pointer (some ⟨w.heap.size+1,0,none⟩),.pointer (some ⟨w.heap.size+1+1,0,none⟩),.string x,undef,.string s,
    .func (.func 170) #[] #[.pointer (some ⟨w.heap.size+1+1+1,0,none⟩)],.string x,undef,undef,undef,undef,undef,undef,undef,undef,undef,undef,undef,undef,undef,undef,undef,undef,undef,undef,undef,undef,undef,undef],defers:=[] }) ?assign ?body ?done ?stop
 case assign =>
  intro l x W K hK
  gi_wp2
  exact hK
 case done =>
  rintro E ys W hE rfl ⟨⟨v,hv,aa⟩,h2,h3,hB,ap⟩ hK;have hc:=hv.cell;have c2:=h2.cell;have f2:=h2.frozen;have c3:=h3.cell;have f3:=h3.frozen;obtain⟨A,cp,rfl⟩:=zA2 aa
  gi_wp2
  have r1:=aa.kept (grownBy_setCell' W w.heap.size (.slice A ys.length cp)) (.inr (h2.not_row (by decide) aa).symm);have aq:=h3.other (show w.heap.size+1≠w.heap.size by omega) (.slice A ys.length cp);have r2:=r1.kept (grownBy_setCell' _ (w.heap.size+1) (.nilIface)) (.inr (aq.not_row (by decide) r1).symm);have b2:=(h2.set (.slice A ys.length cp)).other (show w.heap.size≠w.heap.size+1 by omega) (.nilIface);have b3:=aq.set (.nilIface)
  have hK':((W.setCell ⟨w.heap.size,0,none⟩ (.slice A ys.length cp)).setCell ⟨w.heap.size+1,0,none⟩ (.nilIface)).heap[E]?=some (.deferred (some [])) :=
   (Yn _ _ _ E (by show E≠w.heap.size+1;omega)).trans ((Yn _ _ _ E (by show E≠w.heap.size;omega)).trans hK)
  have k1:=(hB.setCell (p:=⟨w.heap.size,0,none⟩) (Za _) (.slice A ys.length cp)).setCell (p:=⟨w.heap.size+1,0,none⟩) (by show w.heap.size≤w.heap.size+1;omega) (.nilIface);obtain⟨X,hX⟩:∃X,(W.setCell ⟨w.heap.size,0,none⟩ (.slice A ys.length cp)).setCell ⟨w.heap.size+1,0,none⟩ (.nilIface)=X:=⟨_,rfl⟩;rw[hX]at r2 b2 b3 hK' k1 ⊢;have e2:=cell_kept b2.cell (grownBy_putObj' X E (.deferred none)) (fun r e=>by cases e;exact⟨_,hK',rfl⟩);have e3:=cell_kept b3.cell (grownBy_putObj' X E (.deferred none)) (fun r e=>by cases e;exact⟨_,hK',rfl⟩);refine⟨by simp,.inl ⟨_,_,rfl,run_takeDeferred hK',?_⟩⟩;refine⟨.tuple #[.slice A ys.length cp,.nilIface],?_,?_⟩
  · simp[results,Tryz.f118,go_sem,e2,e3]
  rw[hL];exact⟨A,cp,rfl,Sl.of_own (ownsRow_putObj r2 _ hK' rfl),k1.trans (belowK_b (w:=w) (Za _) X E _ _ (by omega) hK' rfl rfl)⟩
 case stop =>
  rintro E c pre W hE ba h hK;exact h.elim
 rintro l pre x W ⟨⟨v,hv,aa⟩,h2,h3,hB,ap⟩ hlen az;rw[hD]
 have ar:x∈L:=by
  obtain⟨t,rfl⟩:=az;simp
 obtain⟨au,ao⟩:=aj x ar;have bh:=ah x ar;have hT:=zO2 x (by omega);obtain⟨y,hy⟩:∃y,zG6 x=y:=⟨_,rfl⟩;rw[hy]at au ao;simp only[hy]at hT;have hP:=Rw.plain_any y (by omega) ao;have hc:=hv.cell;have bg:¬(1000:Int)<(y.size:Int):=by omega
 have HY:=hy' hy;clear hy ao
 gi_wp2_with first
  | (refine⟨trivial,?_⟩;gi_at_call 144;refine (CallsIn.inRound l (callsIn_wide.2 (hT _))).mono ?_;rintro e w2 ⟨rfl,aw⟩;subst w2)
  | (refine⟨trivial,?_⟩;gi_at_call 145;refine (CallsIn.inRound l (callsIn_wide.2 (hP _))).mono ?_;rintro e w2 ⟨rfl,aw⟩;subst w2)
  | (gi_at_builtin;refine wpListIn_append_own _ rfl _ _ 55 rfl D 9 i0 (.string ByteArray.empty) 1 16 underlying55 hi av a8 a1 rfl (by decide) _ _ _ rfl (aa.alloc _) ⟨W.heap.size,0,none⟩ 1 1 [.string y] rfl rfl (J0 _ _ _) (by simp[Value.oneCell']) (by simp only[maxLen];omega) (by omega) (by simp;omega) ?_;intro v' w3 af ag _;obtain⟨g',ay,rfl⟩:=ownsRow_succ af;obtain⟨g1,g2,g3,g4,g5,g6,g7⟩:=R.appended (n₀:=w.heap.size) (ks:=[w.heap.size+1+1+1]) hv (by decide) aa ap (by omega) (by omega) (by simp;omega) af ag;have bf:=g1.cell;have bc:=g1.frozen)
  | fail
 exact⟨g4,g5,⟨_,g2,by rw[Zd,show zG7 (pre++[x])=zG7 pre++[Value.string y] by simp[zG7,HY.o]];exact g3⟩,g7 _ _ _ (by omega) (by omega) h2,g7 _ _ _ (by omega) (by omega) h3,hB.trans g6,Zi ap g4.size⟩
theorem zHX (s:ByteArray) (hs:s.size≤1000000) (af:(zAS [] s.data.toList).all zCh=true) (w:World) :
 Calls prog 118 #[.string s] w (zJj (zAS [] s.data.toList) w):=by
 have ag:=zEx s.data.toList [] (by simp)
 have ae:∀x∈zB0 s,(zG6 x).size≤1000∧zCg (zG6 x).data.toList=true:=by
  intro x hx;unfold zB0 at hx;obtain⟨y,hy,rfl⟩:=List.mem_map.1 hx;have hm:zDD y∈zAS [] s.data.toList:=by rw[←ag];exact List.mem_map_of_mem hy
  rw[Yi]at af;have:=af _ hm;unfold zCh at this;rw[Zy,Zp]at this;exact⟨by show (zDD y).toArray.size≤1000;simpa using this.1,this.2⟩
 have aa:(zAS [] s.data.toList).map (fun x=>Value.string ⟨x.toArray⟩)=zG7 (zB0 s)∧(zAS [] s.data.toList).length=(zB0 s).length:=by
  rw[←ag];unfold zG7 zB0;rw[Xg,Xg];exact⟨rfl,by simp⟩
 refine (zLi s hs ae w).mono ?_;rintro e w' ⟨A,c,rfl,h1,h2⟩;exact⟨A,c,by rw[aa.2],by rw[aa.1];exact h1,h2⟩
attribute [local go_sem] Oper.semAt_some
theorem zJL (s:ByteArray) (w:World) :
 Calls prog 241 #[.string s,.string ⟨#[32]⟩] w fun e w'=>e=.returned (.func (.func 274) #[] #[.pointer (some ⟨w.heap.size+1,0,none⟩),.pointer (some ⟨w.heap.size,0,none⟩),.pointer (some ⟨w.heap.size+2,0,none⟩)]) ∧
  w'=((w.alloc (.cells #[.string s] 9)).alloc (.cells #[.string ⟨#[32]⟩] 9)).alloc (.cells #[.int .i64 0] 3):=by
 have inner:∀w:World,Calls prog 263 #[.string s,.string ⟨#[32]⟩,.int .i64 0] w fun e w'=>e=.returned (.func (.func 274) #[] #[.pointer (some ⟨w.heap.size+1,0,none⟩),.pointer (some ⟨w.heap.size,0,none⟩),.pointer (some ⟨w.heap.size+2,0,none⟩)]) ∧
  w'=((w.alloc (.cells #[.string s] 9)).alloc (.cells #[.string ⟨#[32]⟩] 9)).alloc (.cells #[.int .i64 0] 3):=by
  intro w;go_enter func263,ntmps263;go_wp2;go_ret;exact⟨rfl,rfl⟩
 go_enter func241,ntmps241;go_wp2_with (refine (inner _).mono ?_;rintro e w1 ⟨rfl,rfl⟩);go_ret;exact⟨rfl,rfl⟩
def Q.ok (x:ByteArray):Bool:=(zAH x.data.toList).isSome
def Q.val (x:ByteArray):Int:=(zAH x.data.toList).getD 0
def zJk (l:List ByteArray):List Value:=l.map fun x=>Value.int .i32 (Q.val x)
def zEy (L:List ByteArray) (w:World) (e:Ending) (w':World):Prop :=
 if L.all Q.ok then ∃A c,e=.returned (.tuple #[.slice A L.length c,.bool true])∧Slt w' 21 A (zJk L)∧Below w.heap.size w w'
 else e=.returned (.tuple #[.slice none 0 0,.bool false])∧Below w.heap.size w w'
theorem zMJ (s:ByteArray) (hs:s.size≤1000000) (w:World) :
 Calls prog 212 #[.string s] w (zEy (zEt (zAi 32 [] s.data.toList)) w):=by
 obtain⟨i0,hi,aq,ax,aw⟩:=Z7 zCw;refine (callsIn_wide (n:=5)).1 ?_;refine callsIn_of_wp_marks func212 rfl trivial ?_ rfl;simp only[ntmps212,Ql,ZE,Z2,Nat.reduceAdd,Nat.reduceSub,XT,XU,Qm,XY,ZH,Zx]
 gi_wp2_with (refine⟨trivial,?_⟩;gi_at_call 241;refine (callsIn_wide.2 (zJL s _)).mono ?_;rintro e w1 ⟨rfl,ae⟩;have HW:=hy' ae;clear ae)
 have ae:=HW.o;have ay:w1.heap.size=w.heap.size+6:=by rw[ae];simp
 have q2:Boxed w1 w.heap.size 70 (.slice none 0 0):=by
  rw[ae];exact (((((Boxed.new w 70 (.slice none 0 0)).alloc _).alloc _).alloc _).alloc _).alloc _
 have q3:Boxed w1 (w.heap.size+1) 4 (.bool false):=by
  have h:=Boxed.new (w.alloc (.cells #[.slice none 0 0] 70)) 4 (.bool false);rw[ZL]at h;rw[ae];exact (((h.alloc _).alloc _).alloc _).alloc _
 have q4:Boxed w1 (w.heap.size+1+1) 70 (.slice none 0 0):=by
  have h:=Boxed.new ((w.alloc (.cells #[.slice none 0 0] 70)).alloc (.cells #[.bool false] 4)) 70 (.slice none 0 0);rw[ZL,ZL]at h;rw[ae];exact ((h.alloc _).alloc _).alloc _
 have q5:Boxed w1 (w.heap.size+1+1+1) 9 (.string s):=by
  have h:=Boxed.new (((w.alloc (.cells #[.slice none 0 0] 70)).alloc (.cells #[.bool false] 4)).alloc (.cells #[.slice none 0 0] 70)) 9 (.string s);rw[ZL,ZL,ZL]at h;rw[ae];exact (h.alloc _).alloc _
 have q6:Boxed w1 (w.heap.size+1+1+1+1) 9 (.string ⟨#[32]⟩):=by
  have h:=Boxed.new ((((w.alloc (.cells #[.slice none 0 0] 70)).alloc (.cells #[.bool false] 4)).alloc (.cells #[.slice none 0 0] 70)).alloc (.cells #[.string s] 9)) 9 (.string ⟨#[32]⟩);rw[ZL,ZL,ZL,ZL]at h;rw[ae];exact h.alloc _
 have q7:Boxed w1 (w.heap.size+1+1+1+2) 3 (.int .i64 0):=by
  have h:=Boxed.new (((((w.alloc (.cells #[.slice none 0 0] 70)).alloc (.cells #[.bool false] 4)).alloc (.cells #[.slice none 0 0] 70)).alloc (.cells #[.string s] 9)).alloc (.cells #[.string ⟨#[32]⟩] 9)) 3 (.int .i64 0);rw[ZL,ZL,ZL,ZL,ZL]at h;rw[ae];exact h
 have au:Below w.heap.size w w1:=by
  rw[ae];exact ((((((Zc _ w).alloc (by simp) _).alloc (by simp) _).alloc (by simp;omega) _).alloc (by simp;omega) _).alloc (by simp;omega) _).alloc (by simp;omega) _
 clear ae HW;obtain⟨L,hL⟩:∃L,zEt (zAi 32 [] s.data.toList)=L:=⟨_,rfl⟩
 have a8:L.length≤1000001:=by
  rw[←hL];unfold zEt;rw[Ze];have:=zHf 32 s.data.toList [];have e:s.data.toList.length=s.size:=by simp
  omega
 obtain⟨D,hD⟩:∃D,w1.heap.size=D:=⟨_,rfl⟩;have ai:=fun (W:World) (hW:Below w1.heap.size w1 W)=>zNX s hs (5-1) (w.heap.size+1+1+1) (by omega) W ((hW.block _ (by omega)).trans q5) ((hW.block _ (by omega)).trans q6) ((hW.block _ (by omega)).trans q7)
 rw[hL]at ai ⊢
 refine R.range (n:=5) (by omega) (gf:=274) (lb := #[.pointer (some ⟨w.heap.size+1+1+1+1,0,none⟩),.pointer (some ⟨w.heap.size+1+1+1,0,none⟩),.pointer (some ⟨w.heap.size+1+1+1+2,0,none⟩)]) rfl (enters_of func274 (by kernel_rfl) rfl)
  (b:=w.heap.size+1+1+1) (by omega) (ks:=[w.heap.size+1+1+1,w.heap.size+1+1+1+1,w.heap.size+1+1+1+2]) (by simp;omega) ai (fun _=>rfl)
  (fun pre W=>pre.all Q.ok=true∧(∃v,Boxed W (w.heap.size+1+1) 70 v∧W.ownsRow D 21 1 v pre.length (zJk pre))∧Boxed W w.heap.size 70 (.slice none 0 0)∧Boxed W (w.heap.size+1) 4 (.bool false)∧Below w.heap.size w W∧D≤W.heap.size)
  (fun c pre W=>c=.ret∧pre.all Q.ok=false∧Boxed W w.heap.size 70 (.slice none 0 0)∧Boxed W (w.heap.size+1) 4 (.bool false)∧Below w.heap.size w W)
  (by
    rintro pre X Y row ⟨a1,⟨v,a2,a3⟩,a4,a5,a6,a7⟩ hg hr;exact⟨a1,⟨v,zC7 a2 hg hr (by omega),zKv a3 hg hr (by omega)⟩,zC7 a4 hg hr (by omega),zC7 a5 hg hr (by omega),zEY a6 a6.size hg hr (by omega) (by omega),Zi a7 hg.size⟩)
  (by
    rintro c pre X Y row ⟨a1,a2,a4,a5,a6⟩ hg hr;exact⟨a1,a2,zC7 a4 hg hr (by omega),zC7 a5 hg hr (by omega),zEY a6 a6.size hg hr (by omega) (by omega)⟩)
  ⟨rfl,⟨_,q4,ZI _ _ _ _⟩,q2,q3,au,by omega⟩
  (fun x=>{ tmps := #[.string s,undef,.pointer (some ⟨w.heap.size,0,none⟩),.pointer (some ⟨w.heap.size+1,0,none⟩),.pointer (some ⟨w.heap.size+1+1,0,none⟩),.string x,undef,undef,.string s,
    .func (.func 274) #[] #[.pointer (some ⟨w.heap.size+1+1+1+1,0,none⟩),.pointer (some ⟨w.heap.size+1+1+1,0,none⟩),.pointer (some ⟨w.heap.size+1+1+1+2,0,none⟩)],.string x,undef,undef,undef,undef,undef,undef,undef,undef,undef,undef,undef,undef],defers:=[] }) ?assign ?body ?done ?stop
 case assign =>
  intro l x W K hK
  gi_wp2
  exact hK
 case done =>
  rintro E ys W hE rfl ⟨af,⟨v,hv,aa⟩,h2,h3,hB,ak⟩ hK;have hc:=hv.cell;have c2:=h2.cell;have f2:=h2.frozen;have c3:=h3.cell;have f3:=h3.frozen;obtain⟨A,cp,rfl⟩:=zA2 aa
  gi_wp2
  have r1:=aa.kept (grownBy_setCell' W w.heap.size (.slice A ys.length cp)) (.inr (h2.not_row (by decide) aa).symm);have ap:=h3.other (show w.heap.size+1≠w.heap.size by omega) (.slice A ys.length cp);have r2:=r1.kept (grownBy_setCell' _ (w.heap.size+1) (.bool true)) (.inr (ap.not_row (by decide) r1).symm);have b2:=(h2.set (.slice A ys.length cp)).other (show w.heap.size≠w.heap.size+1 by omega) (.bool true);have b3:=ap.set (.bool true)
  have hK':((W.setCell ⟨w.heap.size,0,none⟩ (.slice A ys.length cp)).setCell ⟨w.heap.size+1,0,none⟩ (.bool true)).heap[E]?=some (.deferred (some [])) :=
   (Yn _ _ _ E (by show E≠w.heap.size+1;omega)).trans ((Yn _ _ _ E (by show E≠w.heap.size;omega)).trans hK)
  have k1:=(hB.setCell (p:=⟨w.heap.size,0,none⟩) (Za _) (.slice A ys.length cp)).setCell (p:=⟨w.heap.size+1,0,none⟩) (by show w.heap.size≤w.heap.size+1;omega) (.bool true);obtain⟨X,hX⟩:∃X,(W.setCell ⟨w.heap.size,0,none⟩ (.slice A ys.length cp)).setCell ⟨w.heap.size+1,0,none⟩ (.bool true)=X:=⟨_,rfl⟩;rw[hX]at r2 b2 b3 hK' k1 ⊢;have e2:=cell_kept b2.cell (grownBy_putObj' X E (.deferred none)) (fun r e=>by cases e;exact⟨_,hK',rfl⟩);have e3:=cell_kept b3.cell (grownBy_putObj' X E (.deferred none)) (fun r e=>by cases e;exact⟨_,hK',rfl⟩);refine⟨by simp,.inl ⟨_,_,rfl,run_takeDeferred hK',?_⟩⟩;refine⟨.tuple #[.slice A ys.length cp,.bool true],?_,?_⟩
  · simp[results,Tryz.f212,go_sem,e2,e3]
  rw[hL];unfold zEy;rw[Zo af];exact⟨A,cp,rfl,Slt.of_own (ownsRow_putObj r2 _ hK' rfl),k1.trans (belowK_b (w:=w) (Za _) X E _ _ (by omega) hK' rfl rfl)⟩
 case stop =>
  rintro E c pre W hE ao ⟨rfl,aj,h2,h3,hB⟩ hK
  gi_wp2
  have e2:=cell_kept h2.cell (grownBy_putObj' W E (.deferred none)) (fun r e=>by cases e;exact⟨_,hK,rfl⟩);have e3:=cell_kept h3.cell (grownBy_putObj' W E (.deferred none)) (fun r e=>by cases e;exact⟨_,hK,rfl⟩);refine⟨by simp,.inl ⟨_,_,rfl,run_takeDeferred hK,?_⟩⟩;refine⟨.tuple #[.slice none 0 0,.bool false],?_,?_⟩
  · simp[results,Tryz.f212,go_sem,e2,e3]
  have hn:L.all Q.ok=false:=by
   obtain⟨t,rfl⟩:=ao;rw[Km,aj,Xx]
  unfold zEy;rw[Zl (by rw[hn];decide)];exact⟨rfl,hB.trans (belowK_b (w:=w) (Za _) W E _ _ (by omega) hK rfl rfl)⟩
 rintro l pre x W ⟨af,⟨v,hv,aa⟩,h2,h3,hB,ak⟩ hlen _;rw[hD];have hc:=hv.cell;have c2:=h2.cell;have f2:=h2.frozen;have c3:=h3.cell;have f3:=h3.frozen
 by_cases hx:Q.ok x=true
 · have hH:∀W:World,Calls prog 152 #[.string x] W fun e w'=>e=.returned (.tuple #[.int .i32 (Q.val x),.bool true])∧w'=W:=fun W=>(zFu x W).mono fun e w' h=>⟨by
    have:=h.1;unfold zBe at this;rw[this,show (zAH x.data.toList).isSome=true from hx];rfl,h.2⟩
   gi_wp2_with first
    | (refine⟨trivial,?_⟩;gi_at_call 152;refine (CallsIn.inRound l (callsIn_wide.2 (hH _))).mono ?_;rintro e w2 ⟨rfl,ar⟩;subst w2)
    | (gi_at_builtin;refine wpListIn_append_own _ rfl _ _ 70 rfl D 21 i0 (.int .i32 0) 1 4 underlying70 hi aq ax aw rfl (by decide) _ _ _ rfl (aa.alloc _) ⟨W.heap.size,0,none⟩ 1 1 [.int .i32 (Q.val x)] rfl rfl (J0 _ _ _) (by simp[Value.oneCell']) (by simp only[maxLen];omega) (by omega) (by simp;omega) ?_;intro v' w3 ag ah _;obtain⟨g',av,rfl⟩:=ownsRow_succ ag;obtain⟨g1,g2,g3,g4,g5,g6,g7⟩:=R.appended (n₀:=w.heap.size) (ks:=[w.heap.size+1+1+1,w.heap.size+1+1+1+1,w.heap.size+1+1+1+2]) hv (by decide) aa ak (by omega) (by omega) (by simp;omega) ag ah;have ba:=g1.cell;have az:=g1.frozen)
    | fail
   exact⟨g4,g5,by rw[List.all_append,af];simpa using hx,⟨_,g2,by rw[List.length_append,show zJk (pre++[x])=zJk pre++[Value.int .i32 (Q.val x)] by simp[zJk]];exact g3⟩,g7 _ _ _ (by omega) (by omega) h2,g7 _ _ _ (by omega) (by omega) h3,hB.trans g6,Nat.le_trans ak g4.size⟩
 have hH:∀W:World,Calls prog 152 #[.string x] W fun e w'=>e=.returned (.tuple #[.int .i32 (Q.val x),.bool false])∧w'=W:=fun W=>(zFu x W).mono fun e w' h=>⟨by
  have:=h.1;unfold zBe at this;rw[this,show (zAH x.data.toList).isSome=false from by simpa [Q.ok] using hx];rfl,h.2⟩
 gi_wp2_with first
  | (refine⟨trivial,?_⟩;gi_at_call 152;refine (CallsIn.inRound l (callsIn_wide.2 (hH _))).mono ?_;rintro e w2 ⟨rfl,ar⟩;subst w2)
  | fail
 have k1:Below w.heap.size W ((W.setCell ⟨w.heap.size,0,none⟩ (.slice none 0 0)).setCell ⟨w.heap.size+1,0,none⟩ (.bool false)) :=
  ((Zc w.heap.size W).setCell (p:=⟨w.heap.size,0,none⟩) (Za _) _).setCell (p:=⟨w.heap.size+1,0,none⟩) (by show w.heap.size≤w.heap.size+1;omega) _
 exact⟨((KeepsOthers.setCell _ _ _).trans (KeepsOthers.setCell _ _ _)).from _,rfl,by rw[List.all_append,af];simpa using hx,(h2.set _).other (by omega) _,(h3.other (by omega) _).set _,hB.trans k1⟩
end
section
open Go.RowKit Go.Stop
def Fi.LaidN (w:World):Prop:=Lib.TabIs prog w "internal/strconv.uint64pow10" .u64 Lib.pow10Tab∧(∃tp p,w.var? prog "strconv.ErrSyntax" = some #[.iface tp p])∧∃tp p,w.var? prog "strconv.ErrRange" = some #[.iface tp p]
theorem zJl {w w':World} {n:String} {g:Nat} {cs:Array Value} (hg:prog.globalNamed n=some g) (hv:w.var? prog n=some cs) (hb:Below w.heap.size w w'):w'.var? prog n=some cs:=by
 refine var?_below hb hg ?_ hv;rcases ZY g w.heap.size with h|h
 · exact h
 unfold World.var? at hv;simp[hg,YU h]at hv
theorem zSe:prog.globalNamed "strconv.ErrSyntax" = some 6:=by kernel_rfl
theorem zSf:prog.globalNamed "strconv.ErrRange" = some 7:=by kernel_rfl
theorem Fi.LaidN.next {w w':World} (h:Fi.LaidN w) (hb:Below w.heap.size w w'):Fi.LaidN w':=by
 obtain⟨h1,⟨tp,p,h2⟩,aa,p',h3⟩:=h;exact⟨Lib.tabBelow_of_tabIs h1 w' hb,⟨tp,p,zJl zSe h2 hb⟩,aa,p',zJl zSf h3 hb⟩
theorem zO4 (s:ByteArray) (hs:s.size≤100000) (w:World) (hL:Fi.LaidN w) :
 Calls prog 211 #[.string s] w fun e w'=>Below w.heap.size w w' ∧
  ((∃v,Lib.atoiAll s.data.toList=.ok v ∧ -9223372036854775808≤v∧v≤9223372036854775807∧e=.returned (.tuple #[.int .i64 v,.nilIface])) ∨
   ((∀v,Lib.atoiAll s.data.toList≠.ok v)∧∃v T p,e=.returned (.tuple #[.int .i64 v,.iface T p]))):=by
 obtain⟨_,⟨tp,p,h1⟩,aa,p',h2⟩:=hL;rcases hh:Lib.atoiAll s.data.toList with v|_|_
 · refine (Tryz.strconv_Atoi_ok s (by omega) v hh w).mono ?_;rintro e w' ⟨rfl,hw⟩;have hb:=Lib.atoiAll_bounds hh;refine⟨?_,.inl ⟨v,rfl,hb.1,hb.2,rfl⟩⟩;rcases hw with rfl|⟨t,rfl⟩
   · exact Zc _ _
   exact Lib.bytesWorld_below _ _ _
 · refine (Any.strconv_Atoi_syntax_var Tryz.laysC172 s (by omega) hh tp p w h1).mono ?_;rintro e w' ⟨N,rfl,_,_,hb⟩;exact⟨hb,.inr ⟨(fun v h=>by cases h),_,_,_,rfl⟩⟩
 refine (Any.strconv_Atoi_range_var Tryz.laysC172 s (by omega) hh aa p' w h2).mono ?_;rintro e w' ⟨N,rfl,_,_,hb⟩;exact⟨hb,.inr ⟨(fun v h=>by cases h),_,_,_,rfl⟩⟩
theorem zJm (n:Int) (h0 : -9223372036854775808≤n) (h1:n≤9223372036854775807) (w:World) (hL:Fi.LaidN w) :
 Calls prog 133 #[.int .i64 n] w fun e w'=>e=.returned (.string ⟨(Lib.itoa n).toArray⟩)∧Below w.heap.size w w':=by
 refine (Tryz.strconv_Itoa n h0 h1 w hL.1).mono ?_;rintro e w' ⟨he,k,os,rfl⟩;refine⟨he,rfl,rfl,rfl,by simp[Sort.grow],fun i hi=>?_⟩;simp only[Sort.grow,Qw];rw[Array.getElem?_append_left hi]
def zDk (l:List UInt8) (aa:Int) (e:Ending):Prop:=e=.returned (.tuple #[.int .i64 ((zDi l aa).getD 0),.bool (zDi l aa).isSome])
theorem zPL (s:ByteArray) (hs:s.size≤100000) (aa:Int) (hm:aa≤1000000000) (w:World) (hL:Fi.LaidN w) :
 Calls prog 174 #[.string s,.int .i64 aa] w fun e w'=>zDk s.data.toList aa e∧Below w.heap.size w w':=by
 have af:(∀v:Int,0≤v→v≤aa→Lib.atoiAll s.data.toList≠.ok v)→zDi s.data.toList aa=none:=fun h =>
  zFI fun u hu he=>h u (by omega) hu (by rw[he];exact zJh u (by omega))
 go_enter func174,ntmps174;go_wp2_with fail;refine (zO4 s hs _ hL).mono ?_;rintro e w1 ⟨ae,(⟨v,hv,v0,v1,rfl⟩|⟨hv,v,T,p,rfl⟩)⟩
 rotate_left
 · have hN:=af (fun u _ _ h=>hv u h);clear hv af;go_wp2_with fail;go_ret2;exact⟨by unfold zDk;rw[hN];rfl,ae⟩
 rcases Jf v 0 with ao|hpos
 · have hN:=af (fun u hu _ h=>by rw[hv]at h;cases h;omega);clear hv af;go_wp2_with fail;go_ret2;exact⟨by unfold zDk;rw[hN];rfl,ae⟩
 have aj:¬v<0:=by omega
 by_cases hbig:v > aa
 · have hN:=af (fun u hu ap h=>by rw[hv]at h;cases h;omega);clear hv af;go_wp2_with fail;go_ret2;exact⟨by unfold zDk;rw[hN];rfl,ae⟩
 have L1:Fi.LaidN w1:=hL.next ae;have hit:Lib.itoa v=Lib.decDigits v.toNat:=by unfold Lib.itoa;rw[if_neg (by omega)]
 have ai:(Lib.itoa v).length≤11:=by rw[hit];have:=zD2 9 v.toNat (by rw[show (10:Nat) ^ (9+1)=10000000000 from by decide];omega);omega
 obtain⟨t,ht⟩:∃t:ByteArray,(⟨(Lib.itoa v).toArray⟩:ByteArray)=t:=⟨_,rfl⟩;have ag:t.data.toList=Lib.decDigits v.toNat:=by rw[←ht];exact hit
 have hI:=zJm v v0 v1 w1 L1;rw[ht]at hI
 by_cases heq:t=s
 · have hN:zDi s.data.toList aa=some v:=by
    rw[←heq,ag,zHS _ _ (by omega)];congr 1;omega
   have HN:=hy' hN;clear hv af hit ai ht ag hN;go_wp2_with fail;refine hI.mono ?_;rintro e w2 ⟨rfl,ah⟩;subst heq;go_wp2_with fail;go_ret2;exact⟨by unfold zDk;rw[HN.o];rfl,ae.trans (ah.mono ae.size)⟩
 have hN:zDi s.data.toList aa=none:=zFI fun u hu he=>heq (by
  have h1:=zJh u (by omega);rw[←he,hv]at h1;cases h1
  rw[←Lib.mk_data t,ag,←Lib.mk_data s,he];simp)
 have HN:=hy' hN
 have ak:(t.toList == s.toList)=false:=by
  rw[Xr,YC,YC];exact fun h=>heq (by rw[←Lib.mk_data t,h,Lib.mk_data])
 clear hv af hit ai ht ag hN;go_wp2_with fail;refine hI.mono ?_;rintro e w2 ⟨rfl,ah⟩;go_wp2_with fail;go_ret2;exact⟨by unfold zDk;rw[HN.o];rfl,ae.trans (ah.mono ae.size)⟩
end
end Go.Proofs.YtddbccflcekdpaaGreatDoor
