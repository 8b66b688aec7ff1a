/- The layer rows: plain, mapping, row, ranged, by walking their texts. -/
import Derived.Test.YtddbccflcekdpaaGreatDoorFiNum
set_option maxRecDepth 100000
set_option maxHeartbeats 4000000
set_option linter.unusedVariables false
set_option linter.unusedSimpArgs false
namespace Go.Proofs.YtddbccflcekdpaaGreatDoor
open Go.Proofs.Tryz
section
open Go.RowKit
def Rw.val (c k:Int) (A:Option Addr) (n cp:Nat):Value:=.agg #[.int .i32 c,.int .i64 k,.slice A n cp]
theorem zHY (c k:Int) (A:Option Addr) (n cp:Nat) (w:World) :
 Calls prog 149 #[.agg #[.int .i32 c,.int .i64 k,.slice A n cp]] w fun e w'=>e=.returned (.bool (decide (k=0)&&decide (n=0)))∧Below w.heap.size w w':=by
 by_cases hk:k=0
 · subst hk;rcases Yy n with rfl|hn
   · go_enter func149,ntmps149;go_wp2;go_ret;exact⟨rfl,(Zc _ _).alloc (Za _) _⟩
   have h1:((n:Int) == 0)=false:=by simp;omega
   go_enter func149,ntmps149;go_wp2;go_ret;exact⟨by rw[Zu (show ¬n=0 by omega)];rfl,(Zc _ _).alloc (Za _) _⟩
 have h1:(k == 0)=false:=by simp[hk]
 go_enter func149,ntmps149;go_wp2;go_ret;exact⟨by rw[Zu hk];rfl,(Zc _ _).alloc (Za _) _⟩
theorem zO5 (s e:ByteArray) (hs:s.size≤1000000) (he:e.size≤1000) (w:World) :
 Calls prog 213 #[.string s,.string e] w fun x w'=>x=.returned (.tuple #[.string ⟨(zC1 s.data.toList e.data.toList).toArray⟩,.bool (zCK s.data.toList e.data.toList)])∧w'=w:=by
 have hH:=fun w=>Tryz.stringslite_HasSuffix s e w (by omega)
 have hE:Lib.hasSuffix s.data.toList e.data.toList=zCK s.data.toList e.data.toList:=by
  unfold Lib.hasSuffix zCK;rw[Z9,QR,Zy,Zp,YP,List.suffix_iff_eq_drop];constructor
  · intro h;refine⟨?_,h.symm⟩;have:=Yb List.length h;rw[ZO]at this;omega
  exact fun h=>h.2.symm
 obtain⟨b,hb⟩:∃b,zCK s.data.toList e.data.toList=b:=⟨_,rfl⟩;rw[hE]at hH;cases b
 · have hc:(⟨(zC1 s.data.toList e.data.toList).toArray⟩:ByteArray)=s:=by
    unfold zC1;rw[hb,Zl (by decide),Lib.mk_data]
   simp only[hb]at hH;rw[hc,hb];clear hc hb hE;go_enter func213,ntmps213;go_wp2_with (refine (hH _).mono ?_;rintro x w1 ⟨rfl,rfl⟩);go_ret2;exact⟨rfl,rfl⟩
 have hle:e.size≤s.size:=by
  have h1:=hb;unfold zCK at h1;rw[Zy,Zp]at h1;simpa using h1.1
 have hc:s.extract 0 (s.size-e.size)=⟨(zC1 s.data.toList e.data.toList).toArray⟩:=by
  unfold zC1;rw[hb,Zo rfl,←Lib.mk_data (s.extract 0 (s.size-e.size)),Lib.extract_data];simp
 simp only[hb]at hH;rw[hb,←hc];have h1:(e.size:Int)≤s.size:=by omega
 have h2:(0:Int)≤(s.size:Int)-e.size:=by omega
 have h3:(s.size:Int)-e.size≤s.size:=by omega
 clear hc hb hE;go_enter func213,ntmps213;go_wp2_with (refine (hH _).mono ?_;rintro x w1 ⟨rfl,rfl⟩);go_ret2;exact⟨rfl,rfl⟩
theorem Rw.cut_any (s e:ByteArray) (hs:s.size≤1000000) (he:e.size≤1000) (w:World) :
 Calls prog 176 #[.string s,.string e] w fun x w'=>x=.returned (.tuple #[.string ⟨(zC1 s.data.toList e.data.toList).toArray⟩,.bool (zCK s.data.toList e.data.toList)])∧w'=w:=by
 go_enter func176,ntmps176;go_wp2_with (refine (zO5 s e hs he _).mono ?_;rintro x w1 ⟨rfl,rfl⟩);go_ret2;exact⟨rfl,rfl⟩
theorem zRC {s:ByteArray} {b:UInt8} (h:s.data.toList.head?=some b):∃h:0<s.size,s[0]=b:=by
 have h1:0<s.size:=by
  rcases hl:s.data.toList with _|⟨c,r⟩
  · rw[hl]at h;cases h
  have:s.data.toList.length=s.size:=by simp
  rw[hl]at this;simp at this;omega
 rw[zG4 s h1]at h;exact⟨h1,by simpa using h⟩
theorem zRD {s:ByteArray} {b:UInt8} (hne:s.data.toList≠[]) (h:s.data.toList.head?≠some b):∃h:0<s.size,s[0]≠b:=by
 have h1:0<s.size:=by
  have:s.data.toList.length=s.size:=by simp
  rcases hl:s.data.toList with _|⟨c,r⟩
  · exact absurd hl hne
  rw[hl]at this;simp at this;omega
 rw[zG4 s h1]at h;exact⟨h1,by simpa using h⟩
def zQS (m:List Int) (w:World) (e:Ending) (w':World):Prop :=
 ∃A c,e=.returned (.tuple #[.slice A m.length c,.bool true])∧Slt w' 21 A (m.map (Value.int .i32))∧Below w.heap.size w w'
theorem zJM (s:ByteArray) (hs:s.size≤1000000) (m:List Int) (hm:Rw.mp s.data.toList=some m) (w:World) :
 Calls prog 175 #[.string s] w (zQS m w):=by
 unfold Rw.mp at hm;split at hm
 · rename_i h0;simp only[Zh]at hm;subst hm;rcases h0 with h0|h0
   · have he:s.toList.isEmpty=true:=by rw[YC s,h0];rfl
     clear h0;go_enter func175,ntmps175;go_wp2;go_ret2;exact⟨none,0,rfl,Slt.nil _ _ _,Zc _ _⟩
   obtain⟨h1,h2⟩:=zRC h0
   have he:s.toList.isEmpty=false:=by
    rw[YC s];rcases hl:s.data.toList with _|⟨b,r⟩
    · rw[hl]at h0;cases h0
    rfl
   have h3:(s[0].toNat:Int)=60:=by rw[h2];rfl
   have h4:(0:Int)<s.size:=by omega
   clear h0 h2;go_enter func175,ntmps175;go_wp2;go_ret2;exact⟨none,0,rfl,Slt.nil _ _ _,Zc _ _⟩
 rename_i h0;split at hm
 rotate_left
 · cases hm
 rename_i h5;obtain⟨h5,h6⟩:=h5;simp only[Zh]at hm;have hne:s.data.toList≠[]:=fun e=>h0 (.inl e)
 obtain⟨h1,h2⟩:=zRD hne fun e=>h0 (.inr e)
 have he:s.toList.isEmpty=false:=by
  rw[YC s];rcases hl:s.data.toList with _|⟨b,r⟩
  · exact absurd hl hne
  rfl
 have h3:((s[0].toNat:Int) == 60)=false:=by
  have:s[0].toNat≠60:=fun e=>h2 (UInt8.toNat_inj.1 e)
  simp;omega
 have h4:(0:Int)<s.size:=by omega
 have hH:=zMJ s hs
 have ae:(zEt (zAi 32 [] s.data.toList)).all Q.ok=true:=by
  unfold zEt;rw[List.all_map];exact h5
 have hlen:(zEt (zAi 32 [] s.data.toList)).length=m.length:=by
  unfold zEt;rw[Ze,←hm,Ze]
 have aa:zJk (zEt (zAi 32 [] s.data.toList))=m.map (Value.int .i32):=by
  rw[←hm];unfold zJk zEt Q.val;rw[Xg,Xg];rfl
 unfold zEy at hH;simp only[ae,Yt,hlen,aa]at hH;have af:m.length≤2:=by rw[←hm,Ze];exact h6
 have h7:(m.length:Int)≤2:=by omega
 clear h0 h5 h6 hm hne h2 ae hlen aa;go_enter func175,ntmps175;go_wp2_with fail;refine (hH _).mono ?_;rintro e w1 ⟨A,c,rfl,hS,hb⟩;have HS:=hy' hS;have HB:=hy' hb;clear hS hb hH;go_wp2_with fail;go_ret2;exact⟨A,c,rfl,HS.o,HB.o⟩
def zQT (r:Rw.Row) (w:World) (e:Ending) (w':World):Prop :=
 ∃A c,e=.returned (.tuple #[.agg #[.int .i32 r.1,.int .i64 r.2.1,.slice A r.2.2.length c],.string ⟨#[]⟩])∧Slt w' 21 A (r.2.2.map (Value.int .i32))∧Below w.heap.size w w'
theorem zJn {F:List (List UInt8)} {r:Rw.Row} (h:Rw.row F=some r):∃f0 f1 f3 f5,F.length=15∧F[0]?=some f0∧F[1]?=some f1∧F[3]?=some f3∧F[5]?=some f5∧f1≠[]∧zAH f0=some r.1∧zDi f3 254=some r.2.1∧Rw.mp f5=some r.2.2:=by
 unfold Rw.row at h;split at h
 rotate_left
 · cases h
 rename_i h0;obtain⟨h0,h1⟩:=h0
 have g:∀i,i<15→F[i]?=some (F.getD i []):=fun i hi=>by
  rw[Zb (by omega),YR,Zb (by omega)];rfl
 rcases hc:zAH (F.getD 0 []) with _|c
 · rw[hc]at h;cases h
 rcases hk:zDi (F.getD 3 []) 254 with _|k
 · rw[hc,hk]at h;cases h
 rcases hm:Rw.mp (F.getD 5 []) with _|m
 · rw[hc,hk,hm]at h;cases h
 rw[hc,hk,hm]at h;simp only[ZD,ZA,Zh]at h;subst h;exact⟨_,_,_,_,h0,g 0 (by omega),g 1 (by omega),g 3 (by omega),g 5 (by omega),h1,hc,hk,hm⟩
theorem Rw.row_any (A:Option Addr) (n cp B:Nat) (F:List (List UInt8)) (r:Rw.Row) (w:World) (hF:Rw.row F=some r) (hn:F.length=n) (hB:B≤w.heap.size) (hA:Sl w B A (F.map fun x=>Value.string ⟨x.toArray⟩))
 (ap:∀x∈F,x.length≤100000) (hL:Fi.LaidN w):Calls prog 147 #[.slice A n cp] w (zQT r w):=by
 obtain⟨f0,f1,f3,f5,ax,i0,i1,i3,i5,hne,af,ah,aw⟩:=zJn hF;obtain rfl:n=15:=by omega
 obtain⟨b,o,rfl,hb,hc⟩:=hA (by rw[Ze];omega);have aj:=hc 0 (by rw[Ze];omega);have aq:=hc 1 (by rw[Ze];omega);have av:=hc 3 (by rw[Ze];omega);have ao:=hc 5 (by rw[Ze];omega);rw[Zs,i0,ZA]at aj;rw[Zs,i1,ZA]at aq;rw[Zs,i3,ZA]at av;rw[Zs,i5,ZA]at ao;have s3:=ap f3 (Zn i3);have s5:=ap f5 (Zn i5);obtain⟨b0,ar⟩:∃x:ByteArray,⟨f0.toArray⟩=x:=⟨_,rfl⟩;obtain⟨b1,au⟩:∃x:ByteArray,⟨f1.toArray⟩=x:=⟨_,rfl⟩;obtain⟨b3,ae⟩:∃x:ByteArray,⟨f3.toArray⟩=x:=⟨_,rfl⟩;obtain⟨b5,ai⟩:∃x:ByteArray,⟨f5.toArray⟩=x:=⟨_,rfl⟩
 have H1:∀W:World,Calls prog 152 #[.string b0] W fun e w'=>e=.returned (.tuple #[.int .i32 r.1,.bool true])∧w'=W:=fun W=>(zFu b0 W).mono fun e w' h=>⟨by
  have:=h.1;unfold zBe at this;rw[this,←ar,show (⟨f0.toArray⟩:ByteArray).data.toList=f0 from rfl,af];rfl,h.2⟩
 have H2:∀W:World,Fi.LaidN W→Calls prog 174 #[.string b3,.int .i64 254] W fun e w'=>e=.returned (.tuple #[.int .i64 r.2.1,.bool true])∧Below W.heap.size W w':=fun W hW=>(zPL b3 (by rw[←ae];show f3.toArray.size≤_;simpa using s3) 254 (by decide) W hW).mono fun e w' h=>⟨by
  have:=h.1;unfold zDk at this;rw[this,←ae,show (⟨f3.toArray⟩:ByteArray).data.toList=f3 from rfl,ah];rfl,h.2⟩
 have H3:=zJM b5 (by rw[←ai];show f5.toArray.size≤_;simp;omega) r.2.2 (by rw[←ai];exact aw)
 have e1:b1.toList.isEmpty=false:=by
  rw[←au,YC];rcases hl:f1 with _|⟨x,t⟩
  · exact absurd hl hne
  rfl
 rw[ar]at aj;rw[au]at aq;rw[ae]at av;rw[ai]at ao;rw[YV]at aj;obtain⟨c,k,m⟩:=r;simp only at H1 H2 H3;have ay:b<w.heap.size:=by omega
 clear hc hA hF ax i0 i1 i3 i5 hne af ah aw ar au ae ai ap s3 s5 hn;go_enter func147,ntmps147;go_wp2_with fail;refine (H1 _).mono ?_;rintro e w1 ⟨rfl,rfl⟩;go_wp2_with fail;refine (H2 _ (hL.next (((Zc _ _).alloc (Za _) _).alloc (by simp) _))).mono ?_;rintro e w2 ⟨rfl,ak⟩;have k1:Rw.At w2 w.heap.size 163 [.int .i32 0,.int .i64 0,.slice none 0 0]:=((Rw.At.new w 163 [.int .i32 0,.int .i64 0,.slice none 0 0]).alloc _).below ak
 have k2:Rw.At w2 (w.heap.size+1) 163 [.int .i32 c,.int .i64 0,.slice none 0 0]:=by
  have h:=Rw.At.new (w.alloc (.cells #[.int .i32 0,.int .i64 0,.slice none 0 0] 163)) 163 [.int .i32 c,.int .i64 0,.slice none 0 0];rw[ZL]at h;exact h.below ak
 have aa:Below w.heap.size w w2:=(((Zc w.heap.size w).alloc (Za _) _).alloc (by simp) _).trans (ak.mono (by simp;omega));obtain⟨d1,d2,d3,d4,d5,d6⟩:=k2.three;have c5:=((zAI aa).1 _ _ ay).trans ao;clear aj aq av ao ak;go_wp2_with fail;refine (H3 _).mono ?_;rintro e w3 ⟨Am,cm,rfl,hS,ae⟩;have k3:=(k1.other (show w.heap.size≠w.heap.size+1 by omega) (.int .i64 k) (i:=1)).below ae;have k4:=(k2.set 1 (.int .i64 k)).below ae;simp only[Zk,Zj]at k4;have ag:Below w.heap.size w w3:=(aa.setCell (p:=⟨w.heap.size+1,1,none⟩) (ZX _) (.int .i64 k)).trans (ae.mono (Zi aa.size (KeepsWalks.setCell w2 _ (.int .i64 k)).size));obtain⟨g1,g2,g3,g4,g5,g6⟩:=k3.three;obtain⟨m1,m2,m3,m4,m5,m6⟩:=k4.three;have HS:=hy' hS;have HB:=hy' ag;clear hS ae ag aa k1 k2 d1 d2 d3 d4 d5 d6 c5;go_wp2_with fail;have j1:=k4.set 2 (.slice Am m.length cm);have j2:=k3.other (show w.heap.size≠w.heap.size+1 by omega) (.slice Am m.length cm) (i:=2);have j3:=j2.set 0 (.int .i32 c);have j4:=j3.set 1 (.int .i64 k);have j5:=j4.set 2 (.slice Am m.length cm);refine YH (zEc rfl _ _ w.heap.size _ _ _ _ rfl j5 underlying163 rfl (by kernel_rfl)) rfl ⟨Am,cm,rfl,?_,?_⟩
 · exact ((((HS.o.setAt k4 (by decide) 2 _).setAt j2 (by decide) 0 _).setAt j3 (by decide) 1 _).setAt j4 (by decide) 2 _)
 exact (((HB.o.setCell (p:=⟨w.heap.size+1,2,none⟩) (ZX _) _).setCell (p:=⟨w.heap.size,0,none⟩) (Za _) _).setCell (p:=⟨w.heap.size,1,none⟩) (Za _) _).setCell (p:=⟨w.heap.size,2,none⟩) (Za _) _
def zJo:ByteArray:=⟨#[44,32,70,105,114,115,116,62]⟩
def zLj:ByteArray:=⟨#[44,32,76,97,115,116,62]⟩
def zO6 (b:Nat) (vo:Value) (code:Int) (o:List UInt8) (w:World) (e:Ending) (w':World):Prop :=
 e=.returned (.bool true)∧Rw.At w' b 187 [vo,.int .i32 code,.string ⟨o.toArray⟩]∧w.grownBy w' (some b)
theorem zF3 (s:ByteArray):s.toList.isEmpty=s.data.toList.isEmpty:=by rw[YC s]
theorem zLk (b:Nat) (vo:Value) (code:Int) (was name:ByteArray) (c k:Int) (A:Option Addr) (n cp:Nat) (o:List UInt8) (w:World) (hv:vo.oneCell'=true)
 (aa:Rw.At w b 187 [vo,.int .i32 code,.string was]) (hs:name.size≤1000000) (hr:zBK was.data.toList name.data.toList (decide (k=0)&&decide (n=0))=some o) :
 Calls prog 148 #[.pointer (some ⟨b,0,none⟩),.string name,.agg #[.int .i32 c,.int .i64 k,.slice A n cp]] w (zO6 b vo code o w):=by
 have c1:=Rw.cut_any name zJo hs (by decide);have c2:=Rw.cut_any name zLj hs (by decide);rw[show zJo.data.toList=Rw.first from rfl]at c1;rw[show zLj.data.toList=Rw.last from rfl]at c2;have hQ:=zHY c k A n cp;have av:=aa.lt;obtain⟨d1,d2,d3,d4,d5,d6⟩:=aa.three;unfold zBK at hr;obtain⟨x1,ae⟩:∃x:ByteArray,⟨(zC1 name.data.toList Rw.first).toArray⟩=x:=⟨_,rfl⟩;obtain⟨x2,af⟩:∃x:ByteArray,⟨(zC1 name.data.toList Rw.last).toArray⟩=x:=⟨_,rfl⟩
 have au:x1.size≤1000000:=by
  rw[←ae];show (zC1 name.data.toList Rw.first).toArray.size≤1000000;unfold zC1;split <;> simp <;> omega
 have aq:x2.size≤1000000:=by
  rw[←af];show (zC1 name.data.toList Rw.last).toArray.size≤1000000;unfold zC1;split <;> simp <;> omega
 obtain⟨b1,ah⟩:∃x,zCK name.data.toList Rw.first=x:=⟨_,rfl⟩;obtain⟨b2,ag⟩:∃x,zCK name.data.toList Rw.last=x:=⟨_,rfl⟩;rw[ae,ah]at c1;rw[af,ag]at c2;rw[ah,ag]at hr;unfold zJo at c1;unfold zLj at c2;split at hr
 · split at hr
   rotate_left
   · cases hr
   rename_i h1 h2;obtain⟨rfl,h2,h3⟩:=h2;simp only[Zh]at hr;subst hr;rw[h3]at hQ
   have hw:x2++(⟨#[44,32,70,105,114,115,116,62]⟩:ByteArray)=was:=by
    rw[←af,show (⟨#[44,32,70,105,114,115,116,62]⟩:ByteArray)=⟨Rw.first.toArray⟩ from rfl,zAN,h2,Lib.mk_data]
   have ao:was.toList.isEmpty=false:=by
    rw[zF3,←h2];simp[Rw.first]
   subst hw
   have ap:¬9223372036854775807<x2.size+(⟨#[44,32,70,105,114,115,116,62]⟩:ByteArray).size:=by
    have:(⟨#[44,32,70,105,114,115,116,62]⟩:ByteArray).size=8:=rfl;omega
   clear h1 h2 h3 ae af ah ag;go_enter func148,ntmps148;go_wp2_with fail;refine (c1 _).mono ?_;rintro e w1 ⟨rfl,rfl⟩;go_wp2_with fail;refine (c2 _).mono ?_;rintro e w2 ⟨rfl,rfl⟩;go_wp2_with fail;refine (hQ _).mono ?_;rintro e w3 ⟨rfl,ai⟩;have HB:=hy' ai;clear ai;go_wp2_with fail;go_ret;exact⟨rfl,((aa.set 2 (.string ⟨#[]⟩)).alloc _).below HB.o,zA0 (zA0 (Rw.grown_set b 2 _) (Ys _ _ _)) (zDs HB.o)⟩
 split at hr
 rotate_left
 · rename_i h1 h2;simp only[Zh]at hr;subst hr
   obtain⟨aj,ak⟩:was.data.toList=[]∧b2=false:=by
    refine⟨?_,?_⟩
    · rcases hl:was.data.toList with _|⟨x,r⟩
      · rfl
      exact absurd (.inl (by rw[hl];simp)) h1
    cases b2
    · rfl
    exact absurd (.inr rfl) h1
   have ar:b1=false:=by simpa using h2
   have ao:was.toList.isEmpty=true:=by rw[zF3,aj];rfl
   subst ak ar;clear h1 h2 ae af ah ag aj;go_enter func148,ntmps148;go_wp2_with fail;refine (c1 _).mono ?_;rintro e w1 ⟨rfl,rfl⟩;go_wp2_with fail;refine (c2 _).mono ?_;rintro e w2 ⟨rfl,rfl⟩;go_wp2_with fail;go_ret;exact⟨rfl,(aa.set 2 (.string ⟨#[]⟩)).alloc _,zA0 (Rw.grown_set b 2 _) (Ys _ _ _)⟩
 rename_i h1 h2;subst h2;split at hr
 rotate_left
 · cases hr
 rename_i h3;simp only[Zh]at hr;subst hr;rw[h3]at hQ
 have hw:x1++(⟨#[44,32,70,105,114,115,116,62]⟩:ByteArray)=⟨(zC1 name.data.toList Rw.first++Rw.first).toArray⟩:=by
  rw[←ae,show (⟨#[44,32,70,105,114,115,116,62]⟩:ByteArray)=⟨Rw.first.toArray⟩ from rfl,zAN]
 obtain⟨aj,ak⟩:was.data.toList=[]∧b2=false:=by
  refine⟨?_,?_⟩
  · rcases hl:was.data.toList with _|⟨x,r⟩
    · rfl
    exact absurd (.inl (by rw[hl];simp)) h1
  cases b2
  · rfl
  exact absurd (.inr rfl) h1
 have ao:was.toList.isEmpty=true:=by rw[zF3,aj];rfl
 have ap:¬9223372036854775807<x1.size+(⟨#[44,32,70,105,114,115,116,62]⟩:ByteArray).size:=by
  have:(⟨#[44,32,70,105,114,115,116,62]⟩:ByteArray).size=8:=rfl;omega
 subst ak;have HW:=hy' hw;clear hw h1 h3 ae af ah ag aj;go_enter func148,ntmps148;go_wp2_with fail;refine (c1 _).mono ?_;rintro e w1 ⟨rfl,rfl⟩;go_wp2_with fail;refine (c2 _).mono ?_;rintro e w2 ⟨rfl,rfl⟩;go_wp2_with fail;refine (hQ _).mono ?_;rintro e w3 ⟨rfl,ai⟩;have HB:=hy' ai;clear ai;go_wp2_with fail;go_ret;refine⟨rfl,?_,zA0 ?_ (zDs HB.o)⟩
 · rw[←HW.o]
   first|exact (((aa.set 2 _).set 2 _).alloc _).below HB.o|exact ((aa.set 2 _).alloc _).below HB.o|exact (((aa.set 2 _).alloc _).set 2 _).below HB.o
 first|exact zA0 (zA0 (Rw.grown_set b 2 _) (Rw.grown_set b 2 _)) (Ys _ _ _)|exact zA0 (Rw.grown_set b 2 _) (Ys _ _ _)|exact zA0 (zA0 (Rw.grown_set b 2 _) (Ys _ _ _)) (Rw.grown_set b 2 _)
end
section
open Go.RowKit Go.Stop
theorem zLl (w:World) (d:Int) :
 (convert 98 9 (.slice (some ⟨w.heap.size,0,none⟩) 1 1)).run prog (w.alloc (.cells #[.int .u8 d] 5))=.ok (.string ⟨#[UInt8.ofNat d.toNat]⟩) (w.alloc (.cells #[.int .u8 d] 5)):=by
 exact Qq _ 98 5 underlying98 underlying5 w.heap.size 0 1 1 [d] rfl (fun i hi=>by
  obtain rfl:i=0:=by omega
  simp) 9 underlying9
theorem Fi.rtext_any (c:Nat) (hc:c<16777216) (w:World) :
 Calls prog 98 #[.int .i64 c] w fun e w'=>e=.returned (.string ⟨(Fi.text c).toArray⟩)∧Below w.heap.size w w':=by
 have a1:zBh c≤6:=zBV 5 c (by rw[show (16:Nat) ^ (5+1)=16777216 from by decide];exact hc);go_enter func98,ntmps98;go_wp2;go_loopw [0,3,4] (fun vx vs vi wr=>∃i x:Nat,vx=.int .i64 x∧vs=.string ⟨((Fi.low i c).map zBU).toArray⟩∧vi=.int .i64 i∧i≤max 4 (zBh c)∧x=c/16 ^ i∧Below w.heap.size w wr) (fun _ _ vi _=>7-(intOf vi).toNat)
 case atStart=>exact⟨0,c,rfl,rfl,rfl,by omega,by simp,Zc _ _⟩
 obtain⟨i,x,rfl,rfl,rfl,hi,hx,aa⟩:=hrel;obtain⟨w1,rfl⟩:∃w1:World,w1=wr:=⟨_,rfl⟩;have ao:=aa.size
 have a6:x<16777216:=by
  have:=Ko c (16 ^ i);omega
 have ay:=hy' aa;obtain⟨s,hs⟩:∃s:ByteArray,(⟨((Fi.low i c).map zBU).toArray⟩:ByteArray)=s:=⟨_,rfl⟩
 have az:s.size=i:=by
  rw[←hs];show ((Fi.low i c).map zBU).toArray.size=i;simp[zD1]
 by_cases hgo:i<4∨0<x
 rotate_left
 · have ai:¬(i:Int)<4:=by omega
   have aw:x=0:=by omega
   subst aw
   have ag:max 4 (zBh c)=i:=by
    have h1:c<16 ^ i:=by
     rcases ZY c (16 ^ i) with h|h
     · exact h
     have:=Nat.div_pos h (JH (by decide));omega
    have:=zBV (i-1) c (by rw[show i-1+1=i by omega];exact h1);omega
   have hT:s=⟨(Fi.text c).toArray⟩:=by rw[←hs];unfold Fi.text;rw[ag]
   have HT:=hy' hT;rw[hs];clear hgo hx ag hs hT;go_wp2;go_ret;exact⟨by rw[HT.o];rfl,ay.o⟩
 have ak:i+1≤max 4 (zBh c):=by
  rcases hgo with h|h
  · omega
  have h1:16 ^ i≤c:=by
   rcases ZY c (16 ^ i) with h2|h2
   · rw[Kd h2]at hx;omega
   exact h2
  have:=zOI c i h1;omega
 have aq:x/16=c/16 ^ (i+1):=by rw[hx,Qj,←Xb]
 have ap:∀dg:UInt8,dg=zBU (x%16)→(⟨#[dg]⟩:ByteArray)++s=⟨((Fi.low (i+1) c).map zBU).toArray⟩:=by
  rintro dg rfl;rw[←hs,zCq,←hx];exact zAN [zBU (x%16)] _
 have HI:=hy' ak;have aj:=hy' aq;have ae:=hy' ap;have av:¬9223372036854775807<1+s.size:=by omega
 rw[hs];clear ap aq hx hs ak;have ar:(x:Int)%16=((x%16:Nat):Int):=by omega
 obtain⟨d,hd⟩:∃d,x%16=d:=⟨_,rfl⟩;rw[hd]at ar ae;have ax:d<16:=by omega
 clear hd
 by_cases h10:(d:Int)<10
 · have hC:=zLl w1 (48+(d:Int));have ah:=hy' (aa.alloc ao (.cells #[.int .u8 (48+(d:Int))] 5))
   have af:UInt8.ofNat (48+(d:Int)).toNat=zBU d:=by
    unfold zBU;rw[Zo (by omega),show (48+(d:Int)).toNat=48+d by omega]
   rw[af]at hC;have HR:=hy' (ae.o _ rfl);clear af aa ae;rcases ZY i 4 with h4|h4
   · have ai:(i:Int)<4:=by omega
     clear hgo;go_wp2;exact⟨⟨i+1,x/16,by go_num,by first|exact Yb Value.string HR.o|(congr 1;exact HR.o),by go_num,HI.o,aj.o,ah.o⟩,by simp[intOf];omega⟩
   have ai:¬(i:Int)<4:=by omega
   have au:(x:Int) > 0:=by omega
   clear hgo;go_wp2;exact⟨⟨i+1,x/16,by go_num,by first|exact Yb Value.string HR.o|(congr 1;exact HR.o),by go_num,HI.o,aj.o,ah.o⟩,by simp[intOf];omega⟩
 have hC:=zLl w1 (55+(d:Int));have ah:=hy' (aa.alloc ao (.cells #[.int .u8 (55+(d:Int))] 5))
 have af:UInt8.ofNat (55+(d:Int)).toNat=zBU d:=by
  unfold zBU;rw[Zl (by omega),show (55+(d:Int)).toNat=55+d by omega]
 rw[af]at hC;have HR:=hy' (ae.o _ rfl);clear af aa ae;rcases ZY i 4 with h4|h4
 · have ai:(i:Int)<4:=by omega
   clear hgo;go_wp2;exact⟨⟨i+1,x/16,by go_num,by first|exact Yb Value.string HR.o|(congr 1;exact HR.o),by go_num,HI.o,aj.o,ah.o⟩,by simp[intOf];omega⟩
 have ai:¬(i:Int)<4:=by omega
 have au:(x:Int) > 0:=by omega
 clear hgo;go_wp2;exact⟨⟨i+1,x/16,by go_num,by first|exact Yb Value.string HR.o|(congr 1;exact HR.o),by go_num,HI.o,aj.o,ah.o⟩,by simp[intOf];omega⟩
theorem Fi.infoStr:(prog.info? 9).map (fun i=>(i.zero,i.size,i.bytes))=some (some (.string ByteArray.empty),1,16):=by kernel_rfl
def Fi.vs (l:List (List UInt8)):List Value:=l.map fun x=>Value.string ⟨x.toArray⟩
theorem Fi.own_empty (w:World) (e:TypeId) (size:Nat):(w.alloc (.cells #[] e)).ownsRow w.heap.size e size (.slice (some ⟨w.heap.size,0,none⟩) 0 0) 0 [] :=
 ⟨by simp,.inr ⟨w.heap.size,0,#[],rfl,Za _,ZS w _,Za _,by simp,by simp,by simp⟩⟩
theorem Fi.split_any (s:ByteArray) (hs:s.size≤1000000000) (w:World) (hL:Fi.Laid w) :
 Calls prog 146 #[.string s] w (zPG w (zAi 59 [] s.data.toList)):=by
 obtain⟨m,hm⟩:=hL.1;have h1:=Tryz.strings_Split s ⟨#[59]⟩ m w (by omega) hm (Za 1);have hlen:=Lib.splitB_all ⟨#[59]⟩ (Za 1) 0 _ s rfl;have aa:=zNU 59 _ s (Za _);obtain⟨L,ag⟩:∃L,Lib.splitB ⟨#[59]⟩ 0 (Lib.countB s ⟨#[59]⟩) s=L:=⟨_,rfl⟩;obtain⟨n,hn⟩:∃n,Lib.countB s ⟨#[59]⟩+1=n:=⟨_,rfl⟩;rw[ag]at h1 hlen aa;rw[hn]at h1 hlen
 have af:L.map Value.string=Fi.vs (zAi 59 [] s.data.toList):=by
  rw[←aa];unfold Fi.vs;rw[Xg];exact YW fun x _=>by show Value.string x=Value.string ⟨x.data.toList.toArray⟩;rw[Lib.mk_data]
 rw[af]at h1;have ae:(zAi 59 [] s.data.toList).length=n:=by rw[←aa,Ze,hlen]
 have ah:=hy' ae;clear af aa hlen ag hn hm hL ae;obtain⟨V,hV⟩:∃V,Fi.vs (zAi 59 [] s.data.toList)=V:=⟨_,rfl⟩;have HV:=hy' hV;rw[hV]at h1;clear hV;go_enter func146,ntmps146;go_wp2_with fail;refine h1.mono ?_;rintro e w1 ⟨rfl,rfl⟩;go_wp2_with fail;go_ret;refine⟨some ⟨w.heap.size,0,none⟩,n,n,rfl,ah.o,?_,(Zc _ _).alloc (Za _) _⟩;intro _;refine⟨w.heap.size,0,rfl,by simp,fun j hj=>?_⟩;rw[ZU,Jt,show (zAi 59 [] s.data.toList).map (fun x=>Value.string ⟨x.toArray⟩)=V from HV.o];simp
end
section
open Go.RowKit
def Rw.Laid (w:World):Prop:=Fi.Laid w∧Fi.LaidN w
theorem Rw.Laid.next {w w':World} (h:Rw.Laid w) (hb:Below w.heap.size w w'):Rw.Laid w':=⟨h.1.below hb,h.2.next hb⟩
theorem zPM:(prog.info? 163).map (fun i=>(i.zero,i.size,i.bytes))=some (some (.agg #[.int .i32 0,.int .i64 0,.slice none 0 0]),3,40):=by kernel_rfl
def zO7 (w:World) (b:Nat) (st:Rw.St):Prop :=
 ∃v ads,Rw.At w b 187 [v,.int .i32 st.2.1,.string ⟨st.2.2.toArray⟩]∧w.ownsRow (b+1) 163 3 v st.1.length (Rw.fl st.1 ads)∧ads.length=st.1.length∧Rw.Maps w st.1 ads
def zPN (b:Nat) (st:Rw.St) (w:World) (e:Ending) (w':World):Prop:=e=.returned (.string ⟨#[]⟩)∧zO7 w' b st∧Below b w w'
theorem zHZ {st st':Rw.St} {l:List UInt8} (h:Rw.step st l=some st'):∃r o,Rw.row (zAi 59 [] l)=some r∧st.2.1<r.1∧zBK st.2.2 ((zAi 59 [] l).getD 1 []) (Rw.quiet r)=some o∧(C.isC r.1=true∨Rw.quiet r=true) ∧
 st'=(if Rw.quiet r then st.1 else st.1++[r],r.1,o):=by
 unfold Rw.step at h;rcases hr:Rw.row (zAi 59 [] l) with _|r
 · rw[hr]at h;cases h
 rw[hr,ZD]at h;split at h
 · rename_i h1;rcases ho:zBK st.2.2 ((zAi 59 [] l).getD 1 []) (Rw.quiet r) with _|o
   · rw[ho]at h;cases h
   rw[ho,ZD]at h;split at h
   · rename_i h2;simp only[Zh]at h;exact⟨r,o,rfl,h1,ho,h2,h.symm⟩
   cases h
 cases h
theorem Rw.line_any (b:Nat) (st st':Rw.St) (l:ByteArray) (w0 w:World) (hL:Rw.Laid w0) (h0:w0.heap.size≤b) (ep:Below w0.heap.size w0 w) (hI:zO7 w b st) (hl:l.size≤1000) (hn:st.1.length≤100000)
 (dt:Rw.step st l.data.toList=some st'):Calls prog 120 #[.pointer (some ⟨b,0,none⟩),.string l] w (zPN b st' w):=by
 obtain⟨r,o,a7,dl,bw,hq,rfl⟩:=zHZ dt;obtain⟨out,code,was⟩:=st;obtain⟨v,ads,bm,bs,has,ar⟩:=hI;obtain⟨c,k,m⟩:=r;simp only at dl bw hq bm bs has ar hn ⊢;have dw:=hL.next ep;have hS:=Fi.split_any l (by omega) w dw.1;obtain⟨f0,f1,f3,f5,dn,i0,i1,i3,i5,hne,cw,dk,ew⟩:=zJn a7
 have ak:∀x∈zAi 59 [] l.data.toList,x.length≤1000:=fun x hx=>by
  have:=zEZ 59 l.data.toList [] x hx;simp at this;omega
 have e0:f1.length≤1000:=ak f1 (Zn i1);have dx:(zAi 59 [] l.data.toList).getD 1 []=f1:=by rw[YR,i1];rfl
 rw[dx]at bw;obtain⟨F,hF⟩:∃F,zAi 59 [] l.data.toList=F:=⟨_,rfl⟩;rw[hF]at a7 dn i1 ak hS;obtain⟨j0,hj0,ei,eu,dz⟩:=Z7 zPM;obtain⟨nm,ck⟩:∃nm:ByteArray,⟨f1.toArray⟩=nm:=⟨_,rfl⟩;have c7:nm.size≤1000000:=by rw[←ck];show f1.toArray.size≤_;simp;omega
 have b5:nm.data.toList=f1:=by rw[←ck]
 obtain⟨wb,di⟩:∃wb:ByteArray,⟨was.toArray⟩=wb:=⟨_,rfl⟩;have cc:wb.data.toList=was:=by rw[←di]
 rw[←b5,←cc]at bw;rw[di]at bm;have ey:decide (c≤code)=false:=Zu (by omega);have ea:=zHY c k;obtain⟨bc,cz⟩:∃x,C.isC c=x:=⟨_,rfl⟩;obtain⟨bq,cn⟩:∃x,Rw.quiet (c,k,m)=x:=⟨_,rfl⟩;have b2:(decide (k=0)&&decide (m.length=0))=bq:=cn;rw[cz,cn]at hq;rw[cn]at bw ⊢;obtain⟨out',aq⟩:∃x,(if bq=true then out else out++[(c,k,m)])=x:=⟨_,rfl⟩;rw[aq];have HO:=hy' aq;have dr:=hy' b2;have hU:=zBu c;rw[cz]at hU;have HQ:=hy' hq;clear cz cn b2 hq aq;have c1:=hy' a7;have ed:=hy' bw;have b9:=hy' ak;clear dt cw dk ew i0 i3 i5 a7 bw ak hne dx hF b5 cc di dl;go_enter func120,ntmps120;go_wp2_with fail;refine hS.mono ?_;rintro e w1 ⟨A,n,cp,rfl,eo,hA,dh⟩;obtain rfl:n=15:=by omega
 have hR:=Rw.row_any A 15 cp w1.heap.size F (c,k,m) w1 c1.o dn (Za _) hA (fun x hx=>by have:=b9.o x hx;omega) (dw.next dh).2;obtain⟨ab,ao,rfl,bt,dm⟩:=hA (by rw[Ze];omega);have dc:=dm 1 (by rw[Ze];omega);rw[Zs,i1,ZA,ck]at dc;clear dm hS i1 eo ck;have cd:=hy' dh;clear dh;go_wp2_with fail;refine hR.mono ?_;rintro e w2 ⟨Am,cm,rfl,c8,cr⟩;clear hR;simp only at c8;have ch:=((zAI cr).1 _ _ bt).trans dc;have bb:ab<w2.heap.size:=Zg bt cr.size;have az:Below w.heap.size w w2:=cd.out.trans (cr.mono cd.out.size);have bo:=bm.below az;have bf:=zA4 bs az (Za _);have ap:=ar.below az;obtain⟨d1,d2,d3,d4,d5,d6⟩:=bo.three;have et:b<w2.heap.size:=bo.lt;have en:b<w.heap.size:=bm.lt;clear dc bt cr bm bs ar;have dv:=hy' az;have cg:=hy' bf;have b4:=hy' ap;have ej:=hy' c8;clear az bf ap c8;go_wp2_with fail;go_quiet (fail);go_wp2_with fail;obtain⟨w3,cj⟩:∃w3,(w2.alloc (.cells #[.int .i32 c,.int .i64 k,.slice Am m.length cm] 163)).drewN nq=w3:=⟨_,rfl⟩;have bk:Below w2.heap.size w2 w3:=by rw[←cj];exact ((Zc w2.heap.size w2).alloc (Za _) _).trans ((zDI _ _).mono (by simp))
 have cx:Rw.At w3 w2.heap.size 163 [.int .i32 c,.int .i64 k,.slice Am m.length cm]:=by rw[←cj];exact (Rw.At.new w2 163 [.int .i32 c,.int .i64 k,.slice Am m.length cm]).below (zDI _ _)
 have ct:=bo.below bk;obtain⟨m1,m2,m3,m4,m5,m6⟩:=cx.three;have eh:=((zAI bk).1 _ _ bb).trans ch;have eg:w2.heap.size<w3.heap.size:=cx.lt;have hG:=fun W bm=>zLk b v code wb nm c k Am m.length cm o W (zP2 cg.o) bm c7 (by rw[dr.o];exact ed.o)
 have a1:Rw.At w3.drew b 187 [v,.int .i32 code,.string wb]:=ct;rw[cj];clear cj d1 d2 d3 d4 d5 d6 ch bb;go_region_with (go_at_call 148;refine (hG _ a1).mono ?_;rintro e w4 ⟨rfl,ah,bx⟩)
 all_goals
  have cq:Rw.At w4 w2.heap.size 163 [.int .i32 c,.int .i64 k,.slice Am m.length cm]:=(show Rw.At w3.drew _ _ _ from cx).grown bx (by simp;omega);have bh:Below w.heap.size w w3.drew:=dv.o.trans ((show Below w2.heap.size w2 w3.drew from bk.drew).mono dv.o.size);have bi:=zA8 (zA4 cg.o (show Below w2.heap.size w2 w3.drew from bk.drew) (Za _)) (ZP b) bx;have a6:=(b4.o.below (show Below w2.heap.size w2 w3.drew from bk.drew)).grown bx (by intro q hq;cases hq;exact a1.not (by decide));have b7:=(ej.o.below (show Below w2.heap.size w2 w3.drew from bk.drew)).grown bx (by intro q hq;cases hq;exact a1.not (by decide));have cf:Below b w w4:=(bh.mono (Z8 en)).trans (zAf bx (by show b≤w3.drew.heap.size;have:=bk.size;simp;omega) (by intro q hq;cases hq;exact Za _));have ec:w2.heap.size<w4.heap.size:=cq.lt;have b1:=ea Am m.length cm;rw[dr.o]at b1;obtain⟨p1,p2,p3,p4,p5,p6⟩:=ah.three;obtain⟨r1,r2,r3,r4,r5,r6⟩:=cq.three;have av:=hy' bi;have aj:=hy' a6;have cy:=hy' b7;have bp:=hy' cf;clear bi a6 b7 cf bh bx m1 m2 m3 m4 m5 m6 eh;rcases bq with _|_
  · obtain rfl:bc=true:=by
     rcases HQ.o with h|h
     · exact h
     cases h
    go_wp2_with (first|(go_at_call 61;refine (hU _).mono ?_;rintro e w5 ⟨rfl,rfl⟩)|fail);refine (b1 _).mono ?_;rintro e w5 ⟨rfl,ag⟩;have af:=(ah.set 1 (.int .i32 c)).below ag;simp only[Zk,Zj]at af;have dp:=(cq.other (show w2.heap.size≠b by omega) (.int .i32 c) (i:=1)).below ag;have ae:=zA4 (zA8 av.o (ZP b) (Rw.grown_set b 1 (.int .i32 c))) ag (Za _);have aa:=(aj.o.grown (Rw.grown_set b 1 (.int .i32 c)) (by intro q hq;cases hq;exact ah.not (by decide))).below ag;have cb:=(cy.o.grown (Rw.grown_set b 1 (.int .i32 c)) (by intro q hq;cases hq;exact ah.not (by decide))).below ag;have ez:w4.heap.size≤w5.heap.size:=Zi (KeepsWalks.setCell w4 ⟨b,1,none⟩ (.int .i32 c)).size ag.size;have ai:Below b w w5:=(bp.o.setCell (p:=⟨b,1,none⟩) (Za _) (.int .i32 c)).trans (ag.mono (by have:=(KeepsWalks.setCell w4 ⟨b,1,none⟩ (.int .i32 c)).size;omega));obtain⟨s1,s2,s3,s4,s5,s6⟩:=af.three;obtain⟨t1,t2,t3,t4,t5,t6⟩:=dp.three;have ee:w2.heap.size<w5.heap.size:=dp.lt;have df:b<w5.heap.size:=af.lt;have bg:=(ae.alloc (.cells #[.int .i32 c,.int .i64 k,.slice Am m.length cm] 163)).drew;have cv:=hy' (zCj (w:=(w5.alloc (.cells #[.int .i32 c,.int .i64 k,.slice Am m.length cm] 163)).drew) (A:=some ⟨w5.heap.size,0,none⟩) (xs:=[.int .i32 c,.int .i64 k,.slice Am m.length cm]) rfl 163 (0,0) (ZS w5 _));have hne:=zBm ae b (ZP b);have ef:b+1≤(w5.alloc (.cells #[.int .i32 c,.int .i64 k,.slice Am m.length cm] 163)).drew.heap.size:=by simp;omega
    have b3:Rw.At (w5.alloc (.cells #[.int .i32 c,.int .i64 k,.slice Am m.length cm] 163)).drew b 187 [v,.int .i32 c,.string ⟨o.toArray⟩]:=af.alloc _;have ax:=hy' bg;have bn:=hy' aa;have cu:=hy' cb;have aw:=hy' ai;have eb:=hy' hne;clear ae bg aa cb ai ag p1 p2 p3 p4 p5 p6 r1 r2 r3 r4 r5 r6 hne;go_wp2_with fail;go_region_law ((refine zGj _ (by rfl) _ _ _ (by rfl) (b+1) 163 j0 _ 3 40 underlying87 hj0 ei eu dz rfl (by omega) _ out.length _ (by rfl) ax.o _ (some ⟨w5.heap.size,0,none⟩) 1 1 [.int .i32 c,.int .i64 k,.slice Am m.length cm] (by rfl) (by rfl) cv.out (by simp[Value.oneCell']) (by simp only[maxLen];omega) (by omega) ef ?_;intro v1 w6 bj ek ay;have ba:=b3.grown ay eb.o;obtain⟨z1,z2,z3,z4,z5,z6⟩:=ba.three;obtain⟨A6,c6,rfl⟩:=zA2 bj))
    all_goals
     go_wp2_with fail;go_ret;have ho:=HO.o;simp only[ZN,Yg]at ho;subst ho;have bz:Below w5.heap.size w5 (w5.alloc (.cells #[.int .i32 c,.int .i64 k,.slice Am m.length cm] 163)).drew:=((Zc _ _).alloc (Za _) _).drew;have e1:=((bn.o.below bz).grown ay (zAC ax.o (by decide))).grown (Rw.grown_set b 0 (.slice A6 (out.length+1) c6)) (by intro q hq;cases hq;exact ba.not (by decide));have e2:=((cu.o.below bz).grown ay (zAC ax.o (by decide))).grown (Rw.grown_set b 0 (.slice A6 (out.length+1) c6)) (by intro q hq;cases hq;exact ba.not (by decide));have e3:=zA8 bj (ZP b) (Rw.grown_set b 0 (.slice A6 (out.length+1) c6));refine⟨rfl,⟨.slice A6 (out.length+1) c6,ads++[(Am,cm)],ba.set 0 _,?_,by simp[has],e1.app has e2⟩,?_⟩
     · show World.ownsRow _ _ _ _ _ (out++[(c,k,m)]).length (Rw.fl (out++[(c,k,m)]) (ads++[(Am,cm)]));rw[Rw.fl_app out ads (c,k,m) (Am,cm) has,Zd];exact e3
     exact ((aw.o.trans (bz.mono (Z8 df))).trans (ek.mono (ZX b))).setCell (p:=⟨b,0,none⟩) (Za _) _
  have ho:=HO.o;simp only[Yt]at ho;subst ho;have HT:=HQ.o;rcases bc with _|_
  · go_wp2_with (first|(go_at_call 61;refine (hU _).mono ?_;rintro e w5 ⟨rfl,rfl⟩)|fail);refine (b1 _).mono ?_;rintro e dy ⟨rfl,bu⟩;have au:=ah.below bu;have b8:=cq.below bu;have br:=hy' (zA4 av.o bu (Za _));have a8:=hy' (aj.o.below bu);have b6:=hy' (bp.o.trans (bu.mono (Z8 ah.lt)));have du:w2.heap.size<dy.heap.size:=b8.lt;clear p1 p2 p3 p4 p5 p6 r1 r2 r3 r4 r5 r6 bu;obtain⟨p1,p2,p3,p4,p5,p6⟩:=au.three;obtain⟨r1,r2,r3,r4,r5,r6⟩:=b8.three;go_wp2_with fail;refine (b1 _).mono ?_;rintro e w5 ⟨rfl,ag⟩;have af:=(au.set 1 (.int .i32 c)).below ag;simp only[Zk,Zj]at af;have ae:=zA4 (zA8 br.o (ZP b) (Rw.grown_set b 1 (.int .i32 c))) ag (Za _);have aa:=(a8.o.grown (Rw.grown_set b 1 (.int .i32 c)) (by intro q hq;cases hq;exact au.not (by decide))).below ag;have ai:Below b w w5:=(b6.o.setCell (p:=⟨b,1,none⟩) (Za _) (.int .i32 c)).trans (ag.mono (by have:=(KeepsWalks.setCell dy ⟨b,1,none⟩ (.int .i32 c)).size;omega));have bl:=hy' (show zO7 w5 b (out,c,o) from ⟨v,ads,af,ae,has,aa⟩);have aw:=hy' ai;clear af ae aa ai ag;go_wp2_with fail;go_ret;exact⟨rfl,bl.o,aw.o⟩
  go_wp2_with (first|(go_at_call 61;refine (hU _).mono ?_;rintro e w5 ⟨rfl,rfl⟩)|fail);refine (b1 _).mono ?_;rintro e w5 ⟨rfl,ag⟩;have af:=(ah.set 1 (.int .i32 c)).below ag;simp only[Zk,Zj]at af;have ae:=zA4 (zA8 av.o (ZP b) (Rw.grown_set b 1 (.int .i32 c))) ag (Za _);have aa:=(aj.o.grown (Rw.grown_set b 1 (.int .i32 c)) (by intro q hq;cases hq;exact ah.not (by decide))).below ag;have ai:Below b w w5:=(bp.o.setCell (p:=⟨b,1,none⟩) (Za _) (.int .i32 c)).trans (ag.mono (by have:=(KeepsWalks.setCell w4 ⟨b,1,none⟩ (.int .i32 c)).size;omega));have bl:=hy' (show zO7 w5 b (out,c,o) from ⟨v,ads,af,ae,has,aa⟩);have aw:=hy' ai;clear af ae aa ai ag;go_wp2_with fail;go_ret;exact⟨rfl,bl.o,aw.o⟩
theorem Rw.steps_take {aa ae st:Rw.St} {L:List (List UInt8)} {k:Nat} {x:List UInt8} (h:Rw.steps aa L=some ae) (hx:L[k]?=some x) (hs:Rw.steps aa (L.take k)=some st) :
 ∃st',Rw.step st x=some st'∧Rw.steps aa (L.take (k+1))=some st':=by
 have hk:=(List.getElem?_eq_some_iff.1 hx).1
 have e:L.take k++x::L.drop (k+1)=L:=by
  have:=ZF k L;rw[ZM hk]at this;rw[Zb hk,Zh]at hx;rw[hx]at this;exact this
 rw[←e,Rw.steps_app,hs,ZD,Rw.steps]at h;rcases hst:Rw.step st x with _|st'
 · rw[hst]at h;cases h
 refine⟨st',rfl,?_⟩;rw[ZB,hx,Rw.steps_app,hs];show Rw.steps st [x]=some st';rw[Rw.steps,hst];rfl
theorem Rw.step_len {st st':Rw.St} {x:List UInt8} (h:Rw.step st x=some st'):st'.1.length≤st.1.length+1:=by
 obtain⟨r,o,_,_,_,_,rfl⟩:=zHZ h;show (if Rw.quiet r=true then st.1 else st.1++[r]).length≤_;split
 · omega
 simp
theorem Rw.steps_len:∀(L:List (List UInt8)) {st st':Rw.St},Rw.steps st L=some st'→st'.1.length≤st.1.length+L.length
 | [],st,st',h=>by
   rw[Rw.steps,Zh]at h;subst h;simp
 | x::L,st,st',h=>by
   rw[Rw.steps]at h;rcases hs:Rw.step st x with _|s
   · rw[hs]at h;cases h
   rw[hs,ZD]at h;have h1:=Rw.step_len hs;have h2:=Rw.steps_len L h;simp;omega
def zPO (b:Nat) (st:Rw.St) (w:World) (e:Ending) (w':World):Prop:=e=.returned (.tuple #[.int .i64 0,.string ⟨#[]⟩])∧zO7 w' b st∧Below b w w'
def Rw.Inv (w:World) (b:Nat) (aa:Rw.St) (L:List (List UInt8)) (k:Nat) (wr:World):Prop:=∃st,Rw.steps aa (L.take k)=some st∧zO7 wr b st∧Below b w wr
theorem zO8 (b:Nat) (af aj:Rw.St) (L:List (List UInt8)) (A:Option Addr) (n cp:Nat) (w0 w:World) (hL:Rw.Laid w0) (h0:w0.heap.size≤b) (ay:Below w0.heap.size w0 w) (hI:zO7 w b af) (hlen:af.1.length=0)
 (a1:L.length=n) (hn:n≤100000) (hl:∀x∈L,x.length≤1000) (hA:Sl w b A (L.map fun x=>Value.string ⟨x.toArray⟩)) (ba:b<w.heap.size)
 (ax:Rw.steps af L=some aj):Calls prog 119 #[.slice A n cp,.func (.func 120) #[.pointer (some ⟨b,0,none⟩)] #[]] w (zPO b aj w):=by
 have HL:=hy' hl;have HN:=hy' a1;have aq:=hy' ax;have HB:=hy' ay;have H0:=hy' hlen;have HA:=hy' hA;clear hl a1 ax ay hlen hA;go_enter func119,ntmps119;go_wp2_with fail;go_loopw [6,7,8,11] (fun _ _ _ i wr=>∃k:Nat,k≤n∧i=.int .i64 k∧Rw.Inv w b af L k wr) (fun _ _ _ i _=>n-(intOf i).toNat)
 case atStart=>exact⟨0,ZG _,rfl,af,rfl,hI,Zc _ _⟩
 obtain⟨k,hk,rfl,st,hs,hR,aa⟩:=hrel
 by_cases hlt:k<n
 · obtain⟨x,hx⟩:∃x,L[k]?=some x:=⟨_,Zb (by rw[HN.o];exact hlt)⟩;obtain⟨st',h1,h2⟩:=Rw.steps_take aq.o hx hs;obtain⟨ab,ao,rfl,a7,au⟩:=HA.o (by rw[Ze,HN.o];omega);have hc:=au k (by rw[Ze,HN.o];exact hlt);rw[Zs,hx,ZA,←(zAI aa).1 _ _ a7]at hc;have az:=HL.o x (Zn hx);obtain⟨bx,ag⟩:∃bx:ByteArray,⟨x.toArray⟩=bx:=⟨_,rfl⟩;rw[ag]at hc;have av:=Rw.steps_len _ hs;rw[H0.o,Zq]at av;have ae:=fun W (e:W=wr)=>Rw.line_any b st st' bx w0 W hL h0 (by rw[e];exact HB.o.trans (aa.mono h0)) (by rw[e];exact hR) (by rw[←ag];show x.toArray.size≤_;simpa using az) (by omega) (by rw[←ag];exact h1)
   have HX:=hy' h2;have ah:=hy' aa;have a6:(k:Int)<n:=by omega
   clear au hx hs hR h1 h2 aa ag av az;go_wp2_with fail;refine (ae _ rfl).mono ?_;rintro e w2 ⟨rfl,ar,aw⟩;have ai:=hy' ar;have ak:=hy' aw;clear ar aw ae;go_wp2_with fail;exact⟨⟨k+1,by omega,by go_num,st',HX.o,ai.o,ah.o.trans ak.o⟩,by simp[intOf];omega⟩
 obtain rfl:k=n:=by omega
 have a8:¬(k:Int)<k:=by omega
 have ap:st=aj:=by
  rw[Zm (by rw[HN.o];exact Za _),aq.o,Zh]at hs;exact hs.symm
 subst ap;have ai:=hy' hR;have ak:=hy' aa;clear hs hR aa;go_wp2_with fail;go_ret2;exact⟨rfl,ai.o,ak.o⟩
def Rw.RetParse (rs:List Rw.Row) (w:World) (e:Ending) (w':World):Prop :=
 ∃A c,e=.returned (.tuple #[.slice A rs.length c,.nilIface])∧Rw.Tab w' A rs∧Below w.heap.size w w'
theorem zLm {s:List UInt8} {rs:List Rw.Row} (h:Rw.parse s=some rs):(zAS [] s).all zCh=true∧(zAS [] s).length≤40000∧∃c,Rw.steps ([],-1,[]) (zAS [] s)=some (rs,c,[]):=by
 unfold Rw.parse at h;split at h
 · rename_i h0;obtain⟨h0,h1⟩:=h0;refine⟨h0,h1,?_⟩;rcases hs:Rw.steps ([],-1,[]) (zAS [] s) with _|⟨aa,c,o⟩
   · rw[hs]at h;cases h
   rw[hs,ZD]at h;split at h
   · rename_i ho;simp only at ho;subst ho;simp only[Zh]at h;subst h;exact⟨c,rfl⟩
   cases h
 cases h
theorem Rw.parse_any (s:ByteArray) (hs:s.size≤1000000) (rs:List Rw.Row) (hp:Rw.parse s.data.toList=some rs) (w:World) (hL:Rw.Laid w) :
 Calls prog 94 #[.string s] w (Rw.RetParse rs w):=by
 obtain⟨ai,ak,cN,ah⟩:=zLm hp;have ap:=zHX s hs ai
 have hl:∀x∈zAS [] s.data.toList,x.length≤1000:=fun x hx=>by
  rw[Yi]at ai;have:=ai x hx;unfold zCh at this;rw[Zy,Zp]at this;exact this.1
 obtain⟨L,au⟩:∃L,zAS [] s.data.toList=L:=⟨_,rfl⟩;rw[au]at ah ap ak hl;have ay:=Rw.steps_len _ ah;simp only[Z2,ZU]at ay;have aw:=hy' ah;have a1:=hy' hl;clear ai hp au ah hl;go_enter func94,ntmps94;go_wp2_with fail;refine (ap _).mono ?_;rintro e w1 ⟨A,c,rfl,hA,aj⟩;have ax:=hL.next aj;have hmx:¬(40000:Int)<(L.length:Int):=by omega
 have af:=Rw.At.new w1 187 [.slice none 0 0,.int .i32 (-1),.string ⟨#[]⟩]
 have aq:=fun W (e:W=w1.alloc (.cells #[.slice none 0 0,.int .i32 (-1),.string ⟨#[]⟩] 187))=>zO8 w1.heap.size ([],-1,[]) (rs,cN,[]) L A L.length c w1 W ax (Za _)
  (by rw[e];exact (Zc _ _).alloc (Za _) _) (by rw[e];exact⟨.slice none 0 0,[],af,ZI _ _ _ _,rfl,fun i r a h=>by simp at h⟩) rfl rfl (by omega) a1.o (by rw[e];exact hA.below ((Zc _ _).alloc (Za _) _) (Za _)) (by rw[e];simp) aw.o
 have av:=hy' aj;clear hA aj ap af;go_wp2_with fail;refine (aq _ rfl).mono ?_;rintro e w2 ⟨rfl,⟨v,ads,af,ae,has,aa⟩,ar⟩;simp only at af ae has aa;obtain⟨Av,cv,rfl⟩:=zA2 ae;obtain⟨d1,d2,d3,d4,d5,d6⟩:=af.three;have ao:=hy' ae;have ag:=hy' aa;have az:=hy' ar;clear ae aa ar aq;go_wp2_with fail;go_ret2;exact⟨Av,cv,rfl,⟨ads,has,Slt.of_own ao.o,ag.o⟩,av.o.trans ((((Zc w1.heap.size w1).alloc (Za _) _).trans az.o).mono av.o.size)⟩
end
section
open Go.RowKit Go.Stop
def Ex.line (seen:List Int) (l:List UInt8):Option (List Int) :=
 if zBx l=[] then some seen else (zAH (zBx l)).bind fun c=>if C.isC c=true∧c∉seen then some (seen++[c]) else none
def Ex.steps:List Int→List (List UInt8)→Option (List Int)
 | seen,[]=>some seen
 | seen,l::r=>(Ex.line seen l).bind fun s=>Ex.steps s r
def Ex.parse (s:List UInt8):Option (List Int):=if (zAS [] s).all zCh=true∧(zAS [] s).length≤100000 then Ex.steps [] (zAS [] s) else none
theorem Ex.steps_app:∀(a b:List (List UInt8)) (s:List Int),Ex.steps s (a++b)=(Ex.steps s a).bind fun s'=>Ex.steps s' b
 | [],b,s=>rfl
 | l::a,b,s=>by
   rw[Zx,Ex.steps,Ex.steps];rcases Ex.line s l with _|s'
   · rfl
   exact Ex.steps_app a b s'
theorem Ex.steps_take {s0 sf s:List Int} {L:List (List UInt8)} {k:Nat} {x:List UInt8} (h:Ex.steps s0 L=some sf) (hx:L[k]?=some x) (hs:Ex.steps s0 (L.take k)=some s) :
 ∃s',Ex.line s x=some s'∧Ex.steps s0 (L.take (k+1))=some s':=by
 have hk:=(List.getElem?_eq_some_iff.1 hx).1
 have e:L.take k++x::L.drop (k+1)=L:=by
  have:=ZF k L;rw[ZM hk]at this;rw[Zb hk,Zh]at hx;rw[hx]at this;exact this
 rw[←e,Ex.steps_app,hs,ZD,Ex.steps]at h;rcases hst:Ex.line s x with _|s'
 · rw[hst]at h;cases h
 refine⟨s',rfl,?_⟩;rw[ZB,hx,Ex.steps_app,hs];show Ex.steps s [x]=some s';rw[Ex.steps,hst];rfl
theorem zI0 {s s':List Int} {l:List UInt8} (h:Ex.line s l=some s'):(zBx l=[]∧s'=s)∨∃c,zBx l≠[]∧zAH (zBx l)=some c∧C.isC c=true∧c∉s∧s'=s++[c]:=by
 unfold Ex.line at h;split at h
 · rename_i h0;simp only[Zh]at h;exact .inl ⟨h0,h.symm⟩
 rename_i h0;rcases hc:zAH (zBx l) with _|c
 · rw[hc]at h;cases h
 rw[hc,ZD]at h;split at h
 · rename_i h1;simp only[Zh]at h;exact .inr ⟨c,h0,rfl,h1.1,h1.2,h.symm⟩
 cases h
theorem Ex.steps_len:∀(L:List (List UInt8)) {s s':List Int},Ex.steps s L=some s'→s'.length≤s.length+L.length
 | [],s,s',h=>by
   rw[Ex.steps,Zh]at h;subst h;simp
 | x::L,s,s',h=>by
   rw[Ex.steps]at h;rcases hs:Ex.line s x with _|q
   · rw[hs]at h;cases h
   rw[hs,ZD]at h;have h2:=Ex.steps_len L h;rcases zI0 hs with ⟨_,rfl⟩|⟨c,_,_,_,_,rfl⟩
   · simp;omega
   simp at h2 ⊢;omega
theorem zO9 (a:List UInt8) (h:(35:UInt8)∉a):(Lib.cut a [35]).1=a:=by
 have:=zNV 35 a;rw[zCr 35 a h,Kp,Zh]at this;exact this.symm
theorem zOa (i:Nat) (t:List UInt8) (x y:UInt8) (m:List UInt8) (ht:t=x::m) (hx:x≠32) (hy:t.getLast?=some y) (aa:y≠32):∀j,Lib.trimB (List.replicate i 32++(t++List.replicate j 32)) 32=t:=by
 intro j;rw[zF0]
 have h1:Lib.trimLeftB (List.replicate i 32++(t++List.replicate j 32)) 32=t++List.replicate j 32:=by
  unfold Lib.trimLeftB
  induction i with
  | zero=>rw[ht];simp[YD,hx]
  | succ i ih=>rw[List.replicate_succ,List.cons_append,List.dropWhile_cons];simpa using ih
 rw[h1]
 induction j with
 | zero =>
   rcases YY t with h|⟨q,z,h⟩
   · rw[h]at hy;cases hy
   rw[YZ]at h;rw[h,QD]at hy;simp at hy;subst hy;rw[JL,Z4,h];exact zLd 32 q z aa
 | succ j ih =>
   rw[List.replicate_succ',←ZC,zLc]
   exact ih (by
    unfold Lib.trimLeftB;clear h1 ih
    induction i with
    | zero=>rw[ht];simp[YD,hx]
    | succ i ih=>rw[List.replicate_succ,List.cons_append,List.dropWhile_cons];simpa using ih)
theorem zMK (n:Nat):∃x m y,Fi.text n=x::m∧x≠32∧(Fi.text n).getLast?=some y∧y≠32:=by
 rcases h:Fi.text n with _|⟨x,m⟩
 · exact absurd h (zHh n)
 have hb:=zCi n;rw[h]at hb;obtain⟨y,hy⟩:∃y,(x::m).getLast?=some y:=⟨_,List.getLast?_eq_some_getLast (by simp)⟩;refine⟨x,m,y,rfl,?_,hy,?_⟩
 · rintro rfl;have:=(hb 32 Zt).1;exact absurd this (by decide)
 rintro rfl;have:=(hb 32 (QE hy)).1;exact absurd this (by decide)
theorem zML (n:Nat):(35:UInt8)∉Fi.text n:=zFv n 35 (.inl (by decide))
def Ex.ln (p:List UInt8) (i:Nat) (c:Int):List UInt8:=(if i%2=0 then [32,32] else [])++(Fi.text c.toNat++([32,32,35]++p))
def Ex.body (p:List UInt8):Nat→List Int→List (List UInt8)
 | _,[]=>[]
 | i,c::r=>Ex.ln p i c::[32,32,32]::Ex.body p (i+1) r
def Ex.all (p:List UInt8) (l:List Int):List (List UInt8):=([35,32]++p)::[]::Ex.body p 0 l
theorem zRE {x:List UInt8} (h1:x.length≤1000) (h2:∀b∈x,32≤b.toNat∧b.toNat≤126):zCh x=true:=by
 unfold zCh zCg;rw[Zy,Zp,Yi];refine⟨h1,fun b hb=>?_⟩;rw[Zy,Zp,Zp];exact h2 b hb
theorem zOL {x:List UInt8} (h:zCh x=true):(10:UInt8)∉x:=fun hm=>by
 unfold zCh zCg at h;rw[Zy,Yi]at h;exact absurd (h.2 10 hm) (by decide)
end
end Go.Proofs.YtddbccflcekdpaaGreatDoor
