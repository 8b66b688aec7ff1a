/- strings.Lines, strings.TrimSuffix at a line's end: their contracts, by walking their texts. -/
import Derived.Test.YthngjlllojiacaaGreatDoorRwPlain
import Derived.Test.YthngjlllojiacaaGreatDoorMdTable
import Derived.Lib.AppendIntMem
set_option maxRecDepth 100000
set_option maxHeartbeats 4000000
set_option linter.unusedVariables false
set_option linter.unusedSimpArgs false
namespace Go.Proofs.YthngjlllojiacaaGreatDoor
open Go.Proofs.Tryz
section
open Go.RowKit
attribute [local go_sem] Oper.semAt_some
def zDo:List UInt8→List UInt8→List (List UInt8)
 | w,[]=>if w=[] then [] else [w]
 | w,b::r=>if b=10 then (w++[10])::zDo [] r else zDo (w++[b]) r
def zDp (x:List UInt8):List UInt8:=if x.getLast?=some 10 then x.dropLast else x
theorem zGV:∀(a w r:List UInt8),(10:UInt8)∉a→zDo w (a++r)=zDo (w++a) r
 | [],w,r,_=>by simp
 | b::a,w,r,h=>by
   have hb:b≠10:=fun e=>h (by rw[e];exact Zq)
   rw[Zo,zDo,Zj hb,zGV a _ r (fun h'=>h (Zv _ h')),Zz];rfl
theorem zEf:∀(l w:List UInt8),(10:UInt8)∉w→(zDo w l).map zDp=zAM w l
 | [],w,h=>by
   unfold zDo zAM;split
   · rfl
   rw[XC];unfold zDp;rw[Zj];intro hl;exact h (Qq hl)
 | b::r,w,h=>by
   unfold zDo zAM;split
   · rw[ZX,zEf r [] (by simp)];congr 1;unfold zDp;simp
   rename_i hb
   exact zEf r _ fun hm=>by
    rcases List.mem_append.1 hm with h1|h1
    · exact h h1
    rw[Zp]at h1;exact hb h1.symm
def zAV (s:ByteArray):List ByteArray:=(zDo [] s.data.toList).map fun x=>⟨x.toArray⟩
theorem zNu {r:ByteArray} {i:Nat} (h:Lib.indexByte r.data.toList 10=i):zAV r=r.extract 0 (i+1)::zAV (r.extract (i+1) r.size):=by
 obtain⟨h1,h2⟩:=zCi 10 _ i h;have hd:(r.extract (i+1) r.size).data.toList=r.data.toList.drop (i+1):=by rw[Lib.extract_data,Zi (by simp)]
 have hl:i<r.data.toList.length:=by
  have:=ZT List.length h1;rw[Zd,ZF,Zr,ZM]at this;omega
 have hg:r.data.toList[i]=10:=by
  have e:=ZT (·[i]?) h1;simp only[Zb hl]at e;rw[ZJ (by rw[Zr];omega),Zr,Q6 (by omega),Ye]at e;simpa using e
 have ht:(r.extract 0 (i+1)).data.toList=r.data.toList.take i++[10]:=by
  rw[Lib.extract_data,Jg,JW,YK hl,hg]
 unfold zAV;rw[hd]
 conv=>lhs;rw[h1]
 rw[zGV _ _ _ h2,ZH,zDo,Zl rfl,ZX,←ht,Lib.mk_data]
theorem zMa {r:ByteArray} (h:Lib.indexByte r.data.toList 10 = -1) (h0:0<r.size):zAV r=[r]:=by
 have hne:r.data.toList≠[]:=fun e=>by
  have:r.data.toList.length=r.size:=by simp
  rw[e,Z0]at this;omega
 have:=zGV r.data.toList [] [] (zCh 10 _ h);rw[Z3,ZH,zDo,Zj hne]at this;unfold zAV;rw[this,XC,Lib.mk_data]
theorem zHt {r:ByteArray} (h0:r.size=0):zAV r=[]:=by
 have:r.data.toList=[]:=List.eq_nil_of_length_eq_zero (by simpa using h0);unfold zAV;rw[this];rfl
theorem Rw.idx_lt {r:ByteArray} {c:UInt8} {i:Nat} (h:Lib.indexByte r.data.toList c=i):i<r.size:=by
 obtain⟨h1,_⟩:=zCi c _ i h;have:=ZT List.length h1;have hl:r.data.toList.length=r.size:=by simp
 rw[Zd,ZF,Zr,ZM,hl]at this;omega
theorem Rw.grown_drew {W W':World} {row:Option Nat} (h:W.grownBy W' row):W.grownBy W'.drew row:=⟨h.os,h.tape,h.output,h.size,h.block⟩
theorem zOh (r:ByteArray) (w:World):Calls prog 153 #[.string r,.int .u8 10] w fun e w'=>e=.returned (.int .i64 (Lib.indexByte r.data.toList 10))∧w'=w :=
 Tryz.strings_IndexByte r 10 w
theorem zMb (s:ByteArray) (hs:s.size≤1000000000) (n b:Nat) (hn:1≤n) (W:World) (h0:Boxed W b 9 (.string s)) :
 zRH n prog 152 #[.pointer (some ⟨b,0,none⟩)] (fun x:ByteArray => #[Value.string x]) b [b]
  (fun xs=>xs=zAV s) (fun pre=>pre <+: zAV s) (zAV s).length W:=fun l J Jx hJ ar hY hj0=>by
 obtain⟨L,hL⟩:∃L,zAV s=L:=⟨_,rfl⟩;rw[hL]at hY ⊢;have c1:=h0.cell;refine callsIn_of_wp func152 rfl trivial ?_ rfl;simp only[ntmps152,Qc,ZF,Z0,Nat.reduceAdd,Nat.reduceSub,XR,XS,Qd,XX,ZH,Zo]
 gi_wp2
 gi_loopw [3] (fun _ wr=>∃(pre:List ByteArray) (r:ByteArray),L=pre++zAV r∧Boxed wr b 9 (.string r)∧J pre wr∧r.size≤s.size)
  (fun _ wr=>Q.left b wr)
 case atStart=>exact⟨[],s,hL.symm,h0,hj0,Za _⟩
 obtain⟨pre,r,aa,b0,af,aq⟩:=hrel;have d0:=b0.cell;have ao:=b0.frozen
 by_cases hr0:r.size=0
 · rw[zHt hr0,Z3]at aa;have hz:¬(0:Int)<(r.size:Int):=by omega
   have HP:=hy' aa;clear aa hr0
   gi_wp2
   go_end0;refine⟨⟨_,rfl⟩,.inl ?_⟩;rw[HP.o]
   first|exact af|exact⟨pre,rfl,af⟩
 have hz:(0:Int)<(r.size:Int):=by omega
 by_cases hidx:Lib.indexByte r.data.toList 10 = -1
 · rw[zMa hidx (by omega)]at aa;have hm:¬(0:Int) ≤ -1:=by decide
   obtain⟨U,hU⟩:∃U,wr.setCell ⟨b,0,none⟩ (.string ⟨#[]⟩)=U:=⟨_,rfl⟩;have ah:J pre U:=by rw[←hU];exact hJ _ _ _ _ af (grownBy_setCell' wr b (.string ⟨#[]⟩)) (fun q e=>by cases e;rfl)
   have bU:Boxed U b 9 (.string ⟨#[]⟩):=by rw[←hU];exact b0.set _
   obtain⟨fn,tmps,assign,body,hy,hR⟩:=hY pre r U ah (by rw[aa];simp) (by rw[aa];exact Qm _);have HU:=hy' hU;have HP:=hy' aa;have HI:=hy' hidx;clear aa hU hidx
   gi_wp2_with (first|(refine⟨trivial,?_⟩;gi_at_call 153;refine (callsIn_wide.2 (zOh _ _)).mono ?_;rintro e w1 ⟨rfl,rfl⟩;rw[HI.o])|fail)
   rw[HU.o];rw[hy]
   gi_wp2
   refine hR.mono ?_;rintro e W3 (⟨rfl,ag,ai⟩|⟨rfl,ae⟩)
   · have k0:=Q.kept ai bU (by simp)
     gi_wp2
     go_roundw
     case rel=>exact⟨pre++[r],⟨#[]⟩,by rw[HP.o,zHt rfl,Z3],k0,ag,ZG _⟩
     rw[zDO k0,zDO b0];show (0:Nat)<r.size;omega
   gi_wp2
   refine YF (Qy rfl _ _ _) rfl ?_;exact⟨⟨_,rfl⟩,.inr ⟨pre++[r],by rw[HP.o];exact Qm _,ae⟩⟩
 have hge:=Lib.indexByte_ge r.data.toList 10;obtain⟨i,hi⟩:∃i:Nat,Lib.indexByte r.data.toList 10=i:=⟨(Lib.indexByte r.data.toList 10).toNat,by omega⟩;have ap:=Rw.idx_lt hi;rw[zNu hi]at aa;obtain⟨x,hx⟩:∃x,r.extract 0 (i+1)=x:=⟨_,rfl⟩;obtain⟨z,ak⟩:∃z,r.extract (i+1) r.size=z:=⟨_,rfl⟩;rw[hx,ak]at aa;have au:z.size=r.size-(i+1):=by rw[←ak,Q5];omega
 have i0:¬(i:Int)<0:=by omega
 have i1:(0:Int)≤(i:Int):=by omega
 have i2:(i:Int)≤r.size:=by omega
 have i3:(0:Int)≤(i:Int)+1:=by omega
 have i4:(i:Int)+1≤r.size:=by omega
 obtain⟨U,hU⟩:∃U,(wr.setCell ⟨b,0,none⟩ (.string z)).drew=U:=⟨_,rfl⟩;have aj:wr.grownBy U (some b):=by rw[←hU];exact Rw.grown_drew (grownBy_setCell' wr b (.string z))
 have ah:J pre U:=hJ _ _ _ _ af aj (fun q e=>by cases e;rfl);have bU:Boxed U b 9 (.string z):=by rw[←hU];exact b0.set _
 obtain⟨fn,tmps,assign,body,hy,hR⟩:=hY pre x U ah (by rw[aa];simp) ⟨_,by rw[aa,Zz];rfl⟩;have HU:=hy' hU;have HY:=hy' hy;clear hU aj hy;have HI:=hy' hi;have HP:=hy' aa;clear hi hidx aa hge
 gi_wp2_with (first|(refine⟨trivial,?_⟩;gi_at_call 153;refine (callsIn_wide.2 (zOh _ _)).mono ?_;rintro e w1 ⟨rfl,rfl⟩;rw[HI.o])|fail)
 gi_region
 gi_wp2
 rw[HU.o,HY.o]
 gi_wp2
 refine hR.mono ?_;rintro e W3 (⟨rfl,ag,ai⟩|⟨rfl,ae⟩)
 · have k0:=Q.kept ai bU (by simp)
   gi_wp2
   go_roundw
   case rel=>exact⟨pre++[x],z,by rw[HP.o];simp,k0,ag,by omega⟩
   rw[zDO k0,zDO b0];omega
 gi_wp2
 refine YF (Qy rfl _ _ _) rfl ?_;exact⟨⟨_,rfl⟩,.inr ⟨pre++[x],⟨_,by rw[HP.o,Zz];rfl⟩,ae⟩⟩
theorem zKN (s:ByteArray) (w:World) :
 Calls prog 117 #[.string s] w fun e w'=>e=.returned (.func (.func 152) #[] #[.pointer (some ⟨w.heap.size,0,none⟩)])∧w'=w.alloc (.cells #[.string s] 9):=by
 go_enter func117,ntmps117;go_wp2;go_ret;exact⟨rfl,rfl⟩
attribute [local go_sem] Oper.semAt_some
theorem Rw.infoStr:(prog.info? 9).map (fun i=>(i.zero,i.size,i.bytes))=some (some (.string ByteArray.empty),1,16):=by kernel_rfl
theorem zMc (s:ByteArray) (hs:s.size≤1000000000) (hp:zC7 s.data.toList=true) (w:World) :
 Calls prog 119 #[.string s] w fun e w'=>e=.returned (.bool true)∧w'=w:=by
 have hb:∀k (h:k<s.size),32≤s[k].toNat∧s[k].toNat≤126:=by
  intro k h;unfold zC7 at hp;rw[Yf]at hp
  have:=hp s[k] (by
   rw[show s[k]=s.data.toList[k]'(by simpa using h) from rfl];exact XT _)
  rw[Zs,Zm,Zm]at this;exact this
 go_enter func119,ntmps119;go_wp2;go_loop [6] (fun i=>∃k:Nat,k≤s.size∧i=.int .i64 k) (fun i=>s.size-(intOf i).toNat)
 case atStart=>exact⟨0,ZG _,rfl⟩
 obtain⟨k,hk,rfl⟩:=hrel
 by_cases hlt:k<s.size
 · obtain⟨h1,h2⟩:=hb k hlt;have aa:¬((s[k].toNat:Int)<32):=by omega
   have ae:¬((126:Int)<(s[k].toNat:Int)):=by omega
   go_wp2;exact⟨⟨k+1,by omega,by go_num⟩,by simp[intOf];omega⟩
 go_wp2;go_ret;exact⟨rfl,rfl⟩
def zFV (x:ByteArray):ByteArray:=⟨(zDp x.data.toList).toArray⟩
def zFW (l:List ByteArray):List Value:=l.map fun x=>Value.string (zFV x)
def zIO (L:List (List UInt8)) (w:World) (e:Ending) (w':World):Prop :=
 ∃A c,e=.returned (.tuple #[.slice A L.length c,.nilIface])∧Sl w' w'.heap.size A (L.map fun x=>Value.string ⟨x.toArray⟩)∧Below w.heap.size w w'
def zRI (L:List ByteArray) (w:World) (e:Ending) (w':World):Prop :=
 ∃A c,e=.returned (.tuple #[.slice A L.length c,.nilIface])∧Sl w' w'.heap.size A (zFW L)∧Below w.heap.size w w'
theorem zPj (x:List UInt8):Lib.trimSuffix x [10]=zDp x:=by
 unfold Lib.trimSuffix Lib.hasSuffix zDp;rcases YZ x with rfl|⟨m,b,rfl⟩
 · simp
 rw[Y0];simp only[Qp,List.getLast?_singleton,Jl,Option.or_some,Zg,QB,Zd,Ym,X5,Kf]
 by_cases hb:b=10
 · subst hb;simp
 have h:¬([10] <:+ m++[b]):=by
  rintro⟨t,ht⟩;have:=ZT List.getLast? ht;simp at this;exact hb this.symm
 simp[hb,h]
theorem zNv (x:ByteArray) (hx:x.size≤1000000000) (w:World):Calls prog 118 #[.string x,.string ⟨#[10]⟩] w fun e w'=>e=.returned (.string (zFV x))∧w'=w:=by
 have h:=Tryz.strings_TrimSuffix x ⟨#[10]⟩ w (by omega);rw[show (⟨#[10]⟩:ByteArray).data.toList=[10] from rfl,zPj]at h;exact h
theorem zGW:∀(l w:List UInt8),∀x∈zDo w l,x.length≤w.length+l.length
 | [],w,x,h=>by
   unfold zDo at h;split at h
   · cases h
   rw[Zp]at h;subst h;simp
 | b::r,w,x,h=>by
   unfold zDo at h;split at h
   · rcases List.mem_cons.1 h with rfl|h
     · simp
     have:=zGW r [] x h;simp at this ⊢;omega
   have:=zGW r _ x h;simp at this ⊢;omega
theorem zMd (s:ByteArray) (x:ByteArray) (h:x∈zAV s):x.size≤s.size:=by
 unfold zAV at h;obtain⟨y,hy,rfl⟩:=List.mem_map.1 h;have:=zGW s.data.toList [] y hy;have e:s.data.toList.length=s.size:=by simp
 show y.toArray.size≤s.size;simp at this ⊢;exact this
theorem zNw (s:ByteArray):(zAV s).length≤s.size+1:=by
 have h1:=ZT List.length (zEf s.data.toList [] (by simp));have h2:=zGT s.data.toList [];have e:s.data.toList.length=s.size:=by simp
 unfold zAV;rw[Ze]at h1 ⊢;omega
theorem zKO (s:ByteArray) (hs:s.size≤1000000) (ah:∀x∈zAV s,(zFV x).size≤1000∧zC7 (zFV x).data.toList=true) (w:World) :
 Calls prog 83 #[.string s] w (zRI (zAV s) w):=by
 obtain⟨i0,hi,a1,az,a8⟩:=Z7 Rw.infoStr;have ak:=zMd s;have ag:=zNw s;refine (callsIn_wide (n:=5)).1 ?_;refine callsIn_of_wp_marks func83 rfl trivial ?_ rfl;simp only[ntmps83,Qc,ZF,Z0,Nat.reduceAdd,Nat.reduceSub,XR,XS,Qd,XX,ZH,Zo]
 gi_wp2_with (refine⟨trivial,?_⟩;gi_at_call 117;refine (callsIn_wide.2 (zKN s _)).mono ?_;rintro e w1 ⟨rfl,ae⟩;have HW:=hy' ae;clear ae)
 have ae:=HW.o;have bg:w1.heap.size=w.heap.size+4:=by rw[ae];simp
 have q2:Boxed w1 w.heap.size 44 (.slice none 0 0):=by
  rw[ae];exact (((Boxed.new w 44 (.slice none 0 0)).alloc _).alloc _).alloc _
 have q3:Boxed w1 (w.heap.size+1) 60 (.nilIface):=by
  have h:=Boxed.new (w.alloc (.cells #[.slice none 0 0] 44)) 60 (.nilIface);rw[ZK]at h;rw[ae];exact (h.alloc _).alloc _
 have q4:Boxed w1 (w.heap.size+1+1) 44 (.slice none 0 0):=by
  have h:=Boxed.new ((w.alloc (.cells #[.slice none 0 0] 44)).alloc (.cells #[.nilIface] 60)) 44 (.slice none 0 0);rw[ZK,ZK]at h;rw[ae];exact h.alloc _
 have q5:Boxed w1 (w.heap.size+1+1+1) 9 (.string s):=by
  have h:=Boxed.new (((w.alloc (.cells #[.slice none 0 0] 44)).alloc (.cells #[.nilIface] 60)).alloc (.cells #[.slice none 0 0] 44)) 9 (.string s);rw[ZK,ZK,ZK]at h;rw[ae];exact h
 have ay:Below w.heap.size w w1:=by
  rw[ae];exact ((((Zc _ w).alloc (by simp) _).alloc (by simp) _).alloc (by simp;omega) _).alloc (by simp;omega) _
 clear ae HW;obtain⟨L,hL⟩:∃L,zAV s=L:=⟨_,rfl⟩;obtain⟨D,hD⟩:∃D,w1.heap.size=D:=⟨_,rfl⟩;have ai:=fun (W:World) (hW:Below w1.heap.size w1 W)=>zMb s (by omega) (5-1) (w.heap.size+1+1+1) (by omega) W ((hW.block _ (by omega)).trans q5)
 rw[hL]at ai ak ag ah ⊢
 refine R.range (n:=5) (by omega) (gf:=152) (lb := #[.pointer (some ⟨w.heap.size+1+1+1,0,none⟩)]) rfl (enters_of func152 (by kernel_rfl) rfl)
  (b:=w.heap.size+1+1+1) (by omega) (ks:=[w.heap.size+1+1+1]) (by simp;omega) ai (fun _=>rfl)
  (fun pre W=>(∃v,Boxed W (w.heap.size+1+1) 44 v∧W.ownsRow D 9 1 v pre.length (zFW pre))∧Boxed W w.heap.size 44 (.slice none 0 0)∧Boxed W (w.heap.size+1) 60 (.nilIface)∧Below w.heap.size w W∧D≤W.heap.size)
  (fun c pre W=>False)
  (by
    rintro pre X Y row ⟨⟨v,a2,a3⟩,a4,a5,a6,a7⟩ hg hr;exact⟨⟨v,zC2 a2 hg hr (by omega),zJW a3 hg hr (by omega)⟩,zC2 a4 hg hr (by omega),zC2 a5 hg hr (by omega),zEK a6 a6.size hg hr (by omega) (by omega),Zh a7 hg.size⟩)
  (fun c pre X Y row h _ _=>h)
  ⟨⟨_,q4,ZI _ _ _ _⟩,q2,q3,ay,by omega⟩
  (fun x=>{ tmps := #[.string s,undef,.pointer (some ⟨w.heap.size,0,none⟩),.pointer (some ⟨w.heap.size+1,0,none⟩),.pointer (some ⟨w.heap.size+1+1,0,none⟩),.string x,undef,.string s,
    .func (.func 152) #[] #[.pointer (some ⟨w.heap.size+1+1+1,0,none⟩)],.string x,undef,undef,undef,undef,undef,undef,undef,undef,undef,undef,undef,undef,undef,undef,undef,undef,undef,undef,undef,undef,undef,undef],defers:=[] }) ?assign ?body ?done ?stop
 case assign =>
  intro l x W K hK
  gi_wp2
  exact hK
 case done =>
  rintro E ys W hE rfl ⟨⟨v,hv,aa⟩,h2,h3,hB,ao⟩ hK;have hc:=hv.cell;have c2:=h2.cell;have f2:=h2.frozen;have c3:=h3.cell;have f3:=h3.frozen;obtain⟨A,cp,rfl⟩:=zA3 aa
  gi_wp2
  have r1:=aa.kept (grownBy_setCell' W w.heap.size (.slice A ys.length cp)) (.inr (h2.not_row (by decide) aa).symm);have aq:=h3.other (show w.heap.size+1≠w.heap.size by omega) (.slice A ys.length cp);have r2:=r1.kept (grownBy_setCell' _ (w.heap.size+1) (.nilIface)) (.inr (aq.not_row (by decide) r1).symm);have b2:=(h2.set (.slice A ys.length cp)).other (show w.heap.size≠w.heap.size+1 by omega) (.nilIface);have b3:=aq.set (.nilIface)
  have hK':((W.setCell ⟨w.heap.size,0,none⟩ (.slice A ys.length cp)).setCell ⟨w.heap.size+1,0,none⟩ (.nilIface)).heap[E]?=some (.deferred (some [])) :=
   (Yl _ _ _ E (by show E≠w.heap.size+1;omega)).trans ((Yl _ _ _ E (by show E≠w.heap.size;omega)).trans hK)
  have k1:=(hB.setCell (p:=⟨w.heap.size,0,none⟩) (Za _) (.slice A ys.length cp)).setCell (p:=⟨w.heap.size+1,0,none⟩) (by show w.heap.size≤w.heap.size+1;omega) (.nilIface);obtain⟨X,hX⟩:∃X,(W.setCell ⟨w.heap.size,0,none⟩ (.slice A ys.length cp)).setCell ⟨w.heap.size+1,0,none⟩ (.nilIface)=X:=⟨_,rfl⟩;rw[hX]at r2 b2 b3 hK' k1 ⊢;have e2:=cell_kept b2.cell (grownBy_putObj' X E (.deferred none)) (fun r e=>by cases e;exact⟨_,hK',rfl⟩);have e3:=cell_kept b3.cell (grownBy_putObj' X E (.deferred none)) (fun r e=>by cases e;exact⟨_,hK',rfl⟩);refine⟨by simp,.inl ⟨_,_,rfl,run_takeDeferred hK',?_⟩⟩;refine⟨.tuple #[.slice A ys.length cp,.nilIface],?_,?_⟩
  · simp[results,Tryz.f83,go_sem,e2,e3]
  rw[hL];exact⟨A,cp,rfl,Sl.of_own (ownsRow_putObj r2 _ hK' rfl),k1.trans (belowK_b (w:=w) (Za _) X E _ _ (by omega) hK' rfl rfl)⟩
 case stop =>
  rintro E c pre W hE ax h hK;exact h.elim
 rintro l pre x W ⟨⟨v,hv,aa⟩,h2,h3,hB,ao⟩ hlen av;rw[hD]
 have ar:x∈L:=by
  obtain⟨t,rfl⟩:=av;simp
 obtain⟨ba,ap⟩:=ah x ar;have bc:=ak x ar;have hT:=zNv x (by omega);obtain⟨y,hy⟩:∃y,zFV x=y:=⟨_,rfl⟩;rw[hy]at ba ap;simp only[hy]at hT;have hP:=zMc y (by omega) ap;have hc:=hv.cell;have bh:¬(1000:Int)<(y.size:Int):=by omega
 have HY:=hy' hy;clear hy ap
 gi_wp2_with first
  | (refine⟨trivial,?_⟩;gi_at_call 118;refine (CallsIn.inRound l (callsIn_wide.2 (hT _))).mono ?_;rintro e w2 ⟨rfl,aw⟩;subst w2)
  | (refine⟨trivial,?_⟩;gi_at_call 119;refine (CallsIn.inRound l (callsIn_wide.2 (hP _))).mono ?_;rintro e w2 ⟨rfl,aw⟩;subst w2)
  | (gi_at_builtin;refine wpListIn_append_own _ rfl _ _ 44 rfl D 9 i0 (.string ByteArray.empty) 1 16 underlying44 hi a1 az a8 rfl (by decide) _ _ _ rfl (aa.alloc _) ⟨W.heap.size,0,none⟩ 1 1 [.string y] rfl rfl (JN _ _ _) (by simp[Value.oneCell']) (by simp only[maxLen];omega) (by omega) (by simp;omega) ?_;intro v' w3 af aj _;obtain⟨g',au,rfl⟩:=ownsRow_succ af;obtain⟨g1,g2,g3,g4,g5,g6,g7⟩:=R.appended (n₀:=w.heap.size) (ks:=[w.heap.size+1+1+1]) hv (by decide) aa ao (by omega) (by omega) (by simp;omega) af aj;have bf:=g1.cell;have bb:=g1.frozen)
  | fail
 exact⟨g4,g5,⟨_,g2,by rw[Zd,show zFW (pre++[x])=zFW pre++[Value.string y] by simp[zFW,HY.o]];exact g3⟩,g7 _ _ _ (by omega) (by omega) h2,g7 _ _ _ (by omega) (by omega) h3,hB.trans g6,Zh ao g4.size⟩
theorem zHu (s:ByteArray) (hs:s.size≤1000000) (ag:(zAM [] s.data.toList).all zC8=true) (w:World) :
 Calls prog 83 #[.string s] w (zIO (zAM [] s.data.toList) w):=by
 have af:=zEf s.data.toList [] (by simp)
 have ae:∀x∈zAV s,(zFV x).size≤1000∧zC7 (zFV x).data.toList=true:=by
  intro x hx;unfold zAV at hx;obtain⟨y,hy,rfl⟩:=List.mem_map.1 hx;have hm:zDp y∈zAM [] s.data.toList:=by rw[←af];exact List.mem_map_of_mem hy
  rw[Yf]at ag;have:=ag _ hm;unfold zC8 at this;rw[Zs,Zm]at this;exact⟨by show (zDp y).toArray.size≤1000;simpa using this.1,this.2⟩
 have aa:(zAM [] s.data.toList).map (fun x=>Value.string ⟨x.toArray⟩)=zFW (zAV s)∧(zAM [] s.data.toList).length=(zAV s).length:=by
  rw[←af];unfold zFW zAV;rw[Xf,Xf];exact⟨rfl,by simp⟩
 refine (zKO s hs ae w).mono ?_;rintro e w' ⟨A,c,rfl,h1,h2⟩;exact⟨A,c,by rw[aa.2],by rw[aa.1];exact h1,h2⟩
attribute [local go_sem] Oper.semAt_some
theorem zJe (s:ByteArray) (w:World) :
 Calls prog 229 #[.string s,.string ⟨#[32]⟩] w fun e w'=>e=.returned (.func (.func 263) #[] #[.pointer (some ⟨w.heap.size+1,0,none⟩),.pointer (some ⟨w.heap.size,0,none⟩),.pointer (some ⟨w.heap.size+2,0,none⟩)]) ∧
  w'=((w.alloc (.cells #[.string s] 9)).alloc (.cells #[.string ⟨#[32]⟩] 9)).alloc (.cells #[.int .i64 0] 3):=by
 have inner:∀w:World,Calls prog 251 #[.string s,.string ⟨#[32]⟩,.int .i64 0] w fun e w'=>e=.returned (.func (.func 263) #[] #[.pointer (some ⟨w.heap.size+1,0,none⟩),.pointer (some ⟨w.heap.size,0,none⟩),.pointer (some ⟨w.heap.size+2,0,none⟩)]) ∧
  w'=((w.alloc (.cells #[.string s] 9)).alloc (.cells #[.string ⟨#[32]⟩] 9)).alloc (.cells #[.int .i64 0] 3):=by
  intro w;go_enter func251,ntmps251;go_wp2;go_ret;exact⟨rfl,rfl⟩
 go_enter func229,ntmps229;go_wp2_with (refine (inner _).mono ?_;rintro e w1 ⟨rfl,rfl⟩);go_ret;exact⟨rfl,rfl⟩
def Q.ok (x:ByteArray):Bool:=(zAE x.data.toList).isSome
def Q.val (x:ByteArray):Int:=(zAE x.data.toList).getD 0
def zIP (l:List ByteArray):List Value:=l.map fun x=>Value.int .i32 (Q.val x)
def zEg (L:List ByteArray) (w:World) (e:Ending) (w':World):Prop :=
 if L.all Q.ok then ∃A c,e=.returned (.tuple #[.slice A L.length c,.bool true])∧Slt w' 21 A (zIP L)∧Below w.heap.size w w'
 else e=.returned (.tuple #[.slice none 0 0,.bool false])∧Below w.heap.size w w'
theorem zMe (s:ByteArray) (hs:s.size≤1000000) (w:World) :
 Calls prog 199 #[.string s] w (zEg (zEb (zAh 32 [] s.data.toList)) w):=by
 obtain⟨i0,hi,aw,av,ax⟩:=Z7 zCl;refine (callsIn_wide (n:=5)).1 ?_;refine callsIn_of_wp_marks func199 rfl trivial ?_ rfl;simp only[ntmps199,Qc,ZF,Z0,Nat.reduceAdd,Nat.reduceSub,XR,XS,Qd,XX,ZH,Zo]
 gi_wp2_with (refine⟨trivial,?_⟩;gi_at_call 229;refine (callsIn_wide.2 (zJe s _)).mono ?_;rintro e w1 ⟨rfl,ae⟩;have HW:=hy' ae;clear ae)
 have ae:=HW.o;have a8:w1.heap.size=w.heap.size+6:=by rw[ae];simp
 have q2:Boxed w1 w.heap.size 80 (.slice none 0 0):=by
  rw[ae];exact (((((Boxed.new w 80 (.slice none 0 0)).alloc _).alloc _).alloc _).alloc _).alloc _
 have q3:Boxed w1 (w.heap.size+1) 4 (.bool false):=by
  have h:=Boxed.new (w.alloc (.cells #[.slice none 0 0] 80)) 4 (.bool false);rw[ZK]at h;rw[ae];exact (((h.alloc _).alloc _).alloc _).alloc _
 have q4:Boxed w1 (w.heap.size+1+1) 80 (.slice none 0 0):=by
  have h:=Boxed.new ((w.alloc (.cells #[.slice none 0 0] 80)).alloc (.cells #[.bool false] 4)) 80 (.slice none 0 0);rw[ZK,ZK]at h;rw[ae];exact ((h.alloc _).alloc _).alloc _
 have q5:Boxed w1 (w.heap.size+1+1+1) 9 (.string s):=by
  have h:=Boxed.new (((w.alloc (.cells #[.slice none 0 0] 80)).alloc (.cells #[.bool false] 4)).alloc (.cells #[.slice none 0 0] 80)) 9 (.string s);rw[ZK,ZK,ZK]at h;rw[ae];exact (h.alloc _).alloc _
 have q6:Boxed w1 (w.heap.size+1+1+1+1) 9 (.string ⟨#[32]⟩):=by
  have h:=Boxed.new ((((w.alloc (.cells #[.slice none 0 0] 80)).alloc (.cells #[.bool false] 4)).alloc (.cells #[.slice none 0 0] 80)).alloc (.cells #[.string s] 9)) 9 (.string ⟨#[32]⟩);rw[ZK,ZK,ZK,ZK]at h;rw[ae];exact h.alloc _
 have q7:Boxed w1 (w.heap.size+1+1+1+2) 3 (.int .i64 0):=by
  have h:=Boxed.new (((((w.alloc (.cells #[.slice none 0 0] 80)).alloc (.cells #[.bool false] 4)).alloc (.cells #[.slice none 0 0] 80)).alloc (.cells #[.string s] 9)).alloc (.cells #[.string ⟨#[32]⟩] 9)) 3 (.int .i64 0);rw[ZK,ZK,ZK,ZK,ZK]at h;rw[ae];exact h
 have au:Below w.heap.size w w1:=by
  rw[ae];exact ((((((Zc _ w).alloc (by simp) _).alloc (by simp) _).alloc (by simp;omega) _).alloc (by simp;omega) _).alloc (by simp;omega) _).alloc (by simp;omega) _
 clear ae HW;obtain⟨L,hL⟩:∃L,zEb (zAh 32 [] s.data.toList)=L:=⟨_,rfl⟩
 have ba:L.length≤1000001:=by
  rw[←hL];unfold zEb;rw[Ze];have:=zGS 32 s.data.toList [];have e:s.data.toList.length=s.size:=by simp
  omega
 obtain⟨D,hD⟩:∃D,w1.heap.size=D:=⟨_,rfl⟩;have ah:=fun (W:World) (hW:Below w1.heap.size w1 W)=>zNq s hs (5-1) (w.heap.size+1+1+1) (by omega) W ((hW.block _ (by omega)).trans q5) ((hW.block _ (by omega)).trans q6) ((hW.block _ (by omega)).trans q7)
 rw[hL]at ah ⊢
 refine R.range (n:=5) (by omega) (gf:=263) (lb := #[.pointer (some ⟨w.heap.size+1+1+1+1,0,none⟩),.pointer (some ⟨w.heap.size+1+1+1,0,none⟩),.pointer (some ⟨w.heap.size+1+1+1+2,0,none⟩)]) rfl (enters_of func263 (by kernel_rfl) rfl)
  (b:=w.heap.size+1+1+1) (by omega) (ks:=[w.heap.size+1+1+1,w.heap.size+1+1+1+1,w.heap.size+1+1+1+2]) (by simp;omega) ah (fun _=>rfl)
  (fun pre W=>pre.all Q.ok=true∧(∃v,Boxed W (w.heap.size+1+1) 80 v∧W.ownsRow D 21 1 v pre.length (zIP pre))∧Boxed W w.heap.size 80 (.slice none 0 0)∧Boxed W (w.heap.size+1) 4 (.bool false)∧Below w.heap.size w W∧D≤W.heap.size)
  (fun c pre W=>c=.ret∧pre.all Q.ok=false∧Boxed W w.heap.size 80 (.slice none 0 0)∧Boxed W (w.heap.size+1) 4 (.bool false)∧Below w.heap.size w W)
  (by
    rintro pre X Y row ⟨a1,⟨v,a2,a3⟩,a4,a5,a6,a7⟩ hg hr;exact⟨a1,⟨v,zC2 a2 hg hr (by omega),zJW a3 hg hr (by omega)⟩,zC2 a4 hg hr (by omega),zC2 a5 hg hr (by omega),zEK a6 a6.size hg hr (by omega) (by omega),Zh a7 hg.size⟩)
  (by
    rintro c pre X Y row ⟨a1,a2,a4,a5,a6⟩ hg hr;exact⟨a1,a2,zC2 a4 hg hr (by omega),zC2 a5 hg hr (by omega),zEK a6 a6.size hg hr (by omega) (by omega)⟩)
  ⟨rfl,⟨_,q4,ZI _ _ _ _⟩,q2,q3,au,by omega⟩
  (fun x=>{ tmps := #[.string s,undef,.pointer (some ⟨w.heap.size,0,none⟩),.pointer (some ⟨w.heap.size+1,0,none⟩),.pointer (some ⟨w.heap.size+1+1,0,none⟩),.string x,undef,undef,.string s,
    .func (.func 263) #[] #[.pointer (some ⟨w.heap.size+1+1+1+1,0,none⟩),.pointer (some ⟨w.heap.size+1+1+1,0,none⟩),.pointer (some ⟨w.heap.size+1+1+1+2,0,none⟩)],.string x,undef,undef,undef,undef,undef,undef,undef,undef,undef,undef,undef,undef],defers:=[] }) ?assign ?body ?done ?stop
 case assign =>
  intro l x W K hK
  gi_wp2
  exact hK
 case done =>
  rintro E ys W hE rfl ⟨af,⟨v,hv,aa⟩,h2,h3,hB,aj⟩ hK;have hc:=hv.cell;have c2:=h2.cell;have f2:=h2.frozen;have c3:=h3.cell;have f3:=h3.frozen;obtain⟨A,cp,rfl⟩:=zA3 aa
  gi_wp2
  have r1:=aa.kept (grownBy_setCell' W w.heap.size (.slice A ys.length cp)) (.inr (h2.not_row (by decide) aa).symm);have ap:=h3.other (show w.heap.size+1≠w.heap.size by omega) (.slice A ys.length cp);have r2:=r1.kept (grownBy_setCell' _ (w.heap.size+1) (.bool true)) (.inr (ap.not_row (by decide) r1).symm);have b2:=(h2.set (.slice A ys.length cp)).other (show w.heap.size≠w.heap.size+1 by omega) (.bool true);have b3:=ap.set (.bool true)
  have hK':((W.setCell ⟨w.heap.size,0,none⟩ (.slice A ys.length cp)).setCell ⟨w.heap.size+1,0,none⟩ (.bool true)).heap[E]?=some (.deferred (some [])) :=
   (Yl _ _ _ E (by show E≠w.heap.size+1;omega)).trans ((Yl _ _ _ E (by show E≠w.heap.size;omega)).trans hK)
  have k1:=(hB.setCell (p:=⟨w.heap.size,0,none⟩) (Za _) (.slice A ys.length cp)).setCell (p:=⟨w.heap.size+1,0,none⟩) (by show w.heap.size≤w.heap.size+1;omega) (.bool true);obtain⟨X,hX⟩:∃X,(W.setCell ⟨w.heap.size,0,none⟩ (.slice A ys.length cp)).setCell ⟨w.heap.size+1,0,none⟩ (.bool true)=X:=⟨_,rfl⟩;rw[hX]at r2 b2 b3 hK' k1 ⊢;have e2:=cell_kept b2.cell (grownBy_putObj' X E (.deferred none)) (fun r e=>by cases e;exact⟨_,hK',rfl⟩);have e3:=cell_kept b3.cell (grownBy_putObj' X E (.deferred none)) (fun r e=>by cases e;exact⟨_,hK',rfl⟩);refine⟨by simp,.inl ⟨_,_,rfl,run_takeDeferred hK',?_⟩⟩;refine⟨.tuple #[.slice A ys.length cp,.bool true],?_,?_⟩
  · simp[results,Tryz.f199,go_sem,e2,e3]
  rw[hL];unfold zEg;rw[Zl af];exact⟨A,cp,rfl,Slt.of_own (ownsRow_putObj r2 _ hK' rfl),k1.trans (belowK_b (w:=w) (Za _) X E _ _ (by omega) hK' rfl rfl)⟩
 case stop =>
  rintro E c pre W hE ak ⟨rfl,ao,h2,h3,hB⟩ hK
  gi_wp2
  have e2:=cell_kept h2.cell (grownBy_putObj' W E (.deferred none)) (fun r e=>by cases e;exact⟨_,hK,rfl⟩);have e3:=cell_kept h3.cell (grownBy_putObj' W E (.deferred none)) (fun r e=>by cases e;exact⟨_,hK,rfl⟩);refine⟨by simp,.inl ⟨_,_,rfl,run_takeDeferred hK,?_⟩⟩;refine⟨.tuple #[.slice none 0 0,.bool false],?_,?_⟩
  · simp[results,Tryz.f199,go_sem,e2,e3]
  have hn:L.all Q.ok=false:=by
   obtain⟨t,rfl⟩:=ak;rw[J7,ao,Xl]
  unfold zEg;rw[Zj (by rw[hn];decide)];exact⟨rfl,hB.trans (belowK_b (w:=w) (Za _) W E _ _ (by omega) hK rfl rfl)⟩
 rintro l pre x W ⟨af,⟨v,hv,aa⟩,h2,h3,hB,aj⟩ hlen _;rw[hD];have hc:=hv.cell;have c2:=h2.cell;have f2:=h2.frozen;have c3:=h3.cell;have f3:=h3.frozen
 by_cases hx:Q.ok x=true
 · have hH:∀W:World,Calls prog 126 #[.string x] W fun e w'=>e=.returned (.tuple #[.int .i32 (Q.val x),.bool true])∧w'=W:=fun W=>(zFf x W).mono fun e w' h=>⟨by
    have:=h.1;unfold zB8 at this;rw[this,show (zAE x.data.toList).isSome=true from hx];rfl,h.2⟩
   gi_wp2_with first
    | (refine⟨trivial,?_⟩;gi_at_call 126;refine (CallsIn.inRound l (callsIn_wide.2 (hH _))).mono ?_;rintro e w2 ⟨rfl,ar⟩;subst w2)
    | (gi_at_builtin;refine wpListIn_append_own _ rfl _ _ 80 rfl D 21 i0 (.int .i32 0) 1 4 underlying80 hi aw av ax rfl (by decide) _ _ _ rfl (aa.alloc _) ⟨W.heap.size,0,none⟩ 1 1 [.int .i32 (Q.val x)] rfl rfl (JN _ _ _) (by simp[Value.oneCell']) (by simp only[maxLen];omega) (by omega) (by simp;omega) ?_;intro v' w3 ag ai _;obtain⟨g',aq,rfl⟩:=ownsRow_succ ag;obtain⟨g1,g2,g3,g4,g5,g6,g7⟩:=R.appended (n₀:=w.heap.size) (ks:=[w.heap.size+1+1+1,w.heap.size+1+1+1+1,w.heap.size+1+1+1+2]) hv (by decide) aa aj (by omega) (by omega) (by simp;omega) ag ai;have az:=g1.cell;have ay:=g1.frozen)
    | fail
   exact⟨g4,g5,by rw[List.all_append,af];simpa using hx,⟨_,g2,by rw[List.length_append,show zIP (pre++[x])=zIP pre++[Value.int .i32 (Q.val x)] by simp[zIP]];exact g3⟩,g7 _ _ _ (by omega) (by omega) h2,g7 _ _ _ (by omega) (by omega) h3,hB.trans g6,Nat.le_trans aj g4.size⟩
 have hH:∀W:World,Calls prog 126 #[.string x] W fun e w'=>e=.returned (.tuple #[.int .i32 (Q.val x),.bool false])∧w'=W:=fun W=>(zFf x W).mono fun e w' h=>⟨by
  have:=h.1;unfold zB8 at this;rw[this,show (zAE x.data.toList).isSome=false from by simpa [Q.ok] using hx];rfl,h.2⟩
 gi_wp2_with first
  | (refine⟨trivial,?_⟩;gi_at_call 126;refine (CallsIn.inRound l (callsIn_wide.2 (hH _))).mono ?_;rintro e w2 ⟨rfl,ar⟩;subst w2)
  | fail
 have k1:Below w.heap.size W ((W.setCell ⟨w.heap.size,0,none⟩ (.slice none 0 0)).setCell ⟨w.heap.size+1,0,none⟩ (.bool false)) :=
  ((Zc w.heap.size W).setCell (p:=⟨w.heap.size,0,none⟩) (Za _) _).setCell (p:=⟨w.heap.size+1,0,none⟩) (by show w.heap.size≤w.heap.size+1;omega) _
 exact⟨((KeepsOthers.setCell _ _ _).trans (KeepsOthers.setCell _ _ _)).from _,rfl,by rw[List.all_append,af];simpa using hx,(h2.set _).other (by omega) _,(h3.other (by omega) _).set _,hB.trans k1⟩
end
section
open Go.RowKit Go.Stop
def Fi.LaidN (w:World):Prop:=Lib.TabIs prog w "internal/strconv.uint64pow10" .u64 Lib.pow10Tab∧(∃tp p,w.var? prog "strconv.ErrSyntax" = some #[.iface tp p])∧∃tp p,w.var? prog "strconv.ErrRange" = some #[.iface tp p]
theorem zIQ {w w':World} {n:String} {g:Nat} {cs:Array Value} (hg:prog.globalNamed n=some g) (hv:w.var? prog n=some cs) (hb:Below w.heap.size w w'):w'.var? prog n=some cs:=by
 refine var?_below hb hg ?_ hv;rcases ZZ g w.heap.size with h|h
 · exact h
 unfold World.var? at hv;simp[hg,YS h]at hv
theorem zRJ:prog.globalNamed "strconv.ErrSyntax" = some 6:=by kernel_rfl
theorem zRK:prog.globalNamed "strconv.ErrRange" = some 7:=by kernel_rfl
theorem Fi.LaidN.next {w w':World} (h:Fi.LaidN w) (hb:Below w.heap.size w w'):Fi.LaidN w':=by
 obtain⟨h1,⟨tp,p,h2⟩,aa,p',h3⟩:=h;exact⟨Lib.tabBelow_of_tabIs h1 w' hb,⟨tp,p,zIQ zRJ h2 hb⟩,aa,p',zIQ zRK h3 hb⟩
theorem zNx (s:ByteArray) (hs:s.size≤100000) (w:World) (hL:Fi.LaidN w) :
 Calls prog 198 #[.string s] w fun e w'=>Below w.heap.size w w' ∧
  ((∃v,Lib.atoiAll s.data.toList=.ok v ∧ -9223372036854775808≤v∧v≤9223372036854775807∧e=.returned (.tuple #[.int .i64 v,.nilIface])) ∨
   ((∀v,Lib.atoiAll s.data.toList≠.ok v)∧∃v T p,e=.returned (.tuple #[.int .i64 v,.iface T p]))):=by
 obtain⟨_,⟨tp,p,h1⟩,aa,p',h2⟩:=hL;rcases hh:Lib.atoiAll s.data.toList with v|_|_
 · refine (Tryz.strconv_Atoi_ok s (by omega) v hh w).mono ?_;rintro e w' ⟨rfl,hw⟩;have hb:=Lib.atoiAll_bounds hh;refine⟨?_,.inl ⟨v,rfl,hb.1,hb.2,rfl⟩⟩;rcases hw with rfl|⟨t,rfl⟩
   · exact Zc _ _
   exact Lib.bytesWorld_below _ _ _
 · refine (Any.strconv_Atoi_syntax_var Tryz.laysC172 s (by omega) hh tp p w h1).mono ?_;rintro e w' ⟨N,rfl,_,_,hb⟩;exact⟨hb,.inr ⟨(fun v h=>by cases h),_,_,_,rfl⟩⟩
 refine (Any.strconv_Atoi_range_var Tryz.laysC172 s (by omega) hh aa p' w h2).mono ?_;rintro e w' ⟨N,rfl,_,_,hb⟩;exact⟨hb,.inr ⟨(fun v h=>by cases h),_,_,_,rfl⟩⟩
theorem zIR (n:Int) (h0 : -9223372036854775808≤n) (h1:n≤9223372036854775807) (w:World) (hL:Fi.LaidN w) :
 Calls prog 95 #[.int .i64 n] w fun e w'=>e=.returned (.string ⟨(Lib.itoa n).toArray⟩)∧Below w.heap.size w w':=by
 refine (Tryz.strconv_Itoa n h0 h1 w hL.1).mono ?_;rintro e w' ⟨he,k,os,rfl⟩;refine⟨he,rfl,rfl,rfl,by simp[Sort.grow],fun i hi=>?_⟩;simp only[Sort.grow,Ql];rw[Array.getElem?_append_left hi]
def zD8 (l:List UInt8) (aa:Int) (e:Ending):Prop:=e=.returned (.tuple #[.int .i64 ((zD6 l aa).getD 0),.bool (zD6 l aa).isSome])
theorem zPk (s:ByteArray) (hs:s.size≤100000) (aa:Int) (hm:aa≤1000000000) (w:World) (hL:Fi.LaidN w) :
 Calls prog 156 #[.string s,.int .i64 aa] w fun e w'=>zD8 s.data.toList aa e∧Below w.heap.size w w':=by
 have af:(∀v:Int,0≤v→v≤aa→Lib.atoiAll s.data.toList≠.ok v)→zD6 s.data.toList aa=none:=fun h =>
  zFt fun u hu he=>h u (by omega) hu (by rw[he];exact zIM u (by omega))
 go_enter func156,ntmps156;go_wp2_with fail;refine (zNx s hs _ hL).mono ?_;rintro e w1 ⟨ae,(⟨v,hv,v0,v1,rfl⟩|⟨hv,v,T,p,rfl⟩)⟩
 rotate_left
 · have hN:=af (fun u _ _ h=>hv u h);clear hv af;go_wp2_with fail;go_ret2;exact⟨by unfold zD8;rw[hN];rfl,ae⟩
 rcases Q2 v 0 with ak|hpos
 · have hN:=af (fun u hu _ h=>by rw[hv]at h;cases h;omega);clear hv af;go_wp2_with fail;go_ret2;exact⟨by unfold zD8;rw[hN];rfl,ae⟩
 have ai:¬v<0:=by omega
 by_cases hbig:v > aa
 · have hN:=af (fun u hu ap h=>by rw[hv]at h;cases h;omega);clear hv af;go_wp2_with fail;go_ret2;exact⟨by unfold zD8;rw[hN];rfl,ae⟩
 have L1:Fi.LaidN w1:=hL.next ae;have hit:Lib.itoa v=Lib.decDigits v.toNat:=by unfold Lib.itoa;rw[if_neg (by omega)]
 have aj:(Lib.itoa v).length≤11:=by rw[hit];have:=zCQ 9 v.toNat (by rw[show (10:Nat) ^ (9+1)=10000000000 from by decide];omega);omega
 obtain⟨t,ht⟩:∃t:ByteArray,(⟨(Lib.itoa v).toArray⟩:ByteArray)=t:=⟨_,rfl⟩;have ag:t.data.toList=Lib.decDigits v.toNat:=by rw[←ht];exact hit
 have hI:=zIR v v0 v1 w1 L1;rw[ht]at hI
 by_cases heq:t=s
 · have hN:zD6 s.data.toList aa=some v:=by
    rw[←heq,ag,zHp _ _ (by omega)];congr 1;omega
   have HN:=hy' hN;clear hv af hit aj ht ag hN;go_wp2_with fail;refine hI.mono ?_;rintro e w2 ⟨rfl,ah⟩;subst heq;go_wp2_with fail;go_ret2;exact⟨by unfold zD8;rw[HN.o];rfl,ae.trans (ah.mono ae.size)⟩
 have hN:zD6 s.data.toList aa=none:=zFt fun u hu he=>heq (by
  have h1:=zIM u (by omega);rw[←he,hv]at h1;cases h1
  rw[←Lib.mk_data t,ag,←Lib.mk_data s,he];simp)
 have HN:=hy' hN
 have ao:(t.toList == s.toList)=false:=by
  rw[Xq,Yx,Yx];exact fun h=>heq (by rw[←Lib.mk_data t,h,Lib.mk_data])
 clear hv af hit aj ht ag hN;go_wp2_with fail;refine hI.mono ?_;rintro e w2 ⟨rfl,ah⟩;go_wp2_with fail;go_ret2;exact⟨by unfold zD8;rw[HN.o];rfl,ae.trans (ah.mono ae.size)⟩
end
end Go.Proofs.YthngjlllojiacaaGreatDoor
