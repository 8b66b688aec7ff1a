/- The layer rows: plain, mapping, row, ranged, by walking their texts. -/
import Derived.Test.YthngjlllojiacaaGreatDoorFiNum
import Derived.Test.YthngjlllojiacaaGreatDoorFaCh
set_option maxRecDepth 100000
set_option maxHeartbeats 4000000
set_option linter.unusedVariables false
set_option linter.unusedSimpArgs false
namespace Go.Proofs.YthngjlllojiacaaGreatDoor
open Go.Proofs.Tryz
section
open Go.RowKit
theorem zHv (c k:Int) (A:Option Addr) (n cp:Nat) (w:World) :
 Calls prog 123 #[.agg #[.int .i32 c,.int .i64 k,.slice A n cp]] w fun e w'=>e=.returned (.bool (decide (k=0)&&decide (n=0)))∧Below w.heap.size w w':=by
 by_cases hk:k=0
 · subst hk;rcases YP n with rfl|hn
   · go_enter func123,ntmps123;go_wp2;go_ret;exact⟨rfl,(Zc _ _).alloc (Za _) _⟩
   have h1:((n:Int) == 0)=false:=by simp;omega
   go_enter func123,ntmps123;go_wp2;go_ret;exact⟨by rw[Zt (show ¬n=0 by omega)];rfl,(Zc _ _).alloc (Za _) _⟩
 have h1:(k == 0)=false:=by simp[hk]
 go_enter func123,ntmps123;go_wp2;go_ret;exact⟨by rw[Zt hk];rfl,(Zc _ _).alloc (Za _) _⟩
theorem zNy (s e:ByteArray) (hs:s.size≤1000000) (he:e.size≤1000) (w:World) :
 Calls prog 200 #[.string s,.string e] w fun x w'=>x=.returned (.tuple #[.string ⟨(zBV s.data.toList e.data.toList).toArray⟩,.bool (zCz s.data.toList e.data.toList)])∧w'=w:=by
 have hH:=fun w=>Tryz.stringslite_HasSuffix s e w (by omega)
 have hE:Lib.hasSuffix s.data.toList e.data.toList=zCz s.data.toList e.data.toList:=by
  unfold Lib.hasSuffix zCz;rw[Yg,QB,Zs,Zm,YU,List.suffix_iff_eq_drop];constructor
  · intro h;refine⟨?_,h.symm⟩;have:=ZT List.length h;rw[ZM]at this;omega
  exact fun h=>h.2.symm
 obtain⟨b,hb⟩:∃b,zCz s.data.toList e.data.toList=b:=⟨_,rfl⟩;rw[hE]at hH;cases b
 · have hc:(⟨(zBV s.data.toList e.data.toList).toArray⟩:ByteArray)=s:=by
    unfold zBV;rw[hb,Zj (by decide),Lib.mk_data]
   simp only[hb]at hH;rw[hc,hb];clear hc hb hE;go_enter func200,ntmps200;go_wp2_with (refine (hH _).mono ?_;rintro x w1 ⟨rfl,rfl⟩);go_ret2;exact⟨rfl,rfl⟩
 have hle:e.size≤s.size:=by
  have h1:=hb;unfold zCz at h1;rw[Zs,Zm]at h1;simpa using h1.1
 have hc:s.extract 0 (s.size-e.size)=⟨(zBV s.data.toList e.data.toList).toArray⟩:=by
  unfold zBV;rw[hb,Zl rfl,←Lib.mk_data (s.extract 0 (s.size-e.size)),Lib.extract_data];simp
 simp only[hb]at hH;rw[hb,←hc];have h1:(e.size:Int)≤s.size:=by omega
 have h2:(0:Int)≤(s.size:Int)-e.size:=by omega
 have h3:(s.size:Int)-e.size≤s.size:=by omega
 clear hc hb hE;go_enter func200,ntmps200;go_wp2_with (refine (hH _).mono ?_;rintro x w1 ⟨rfl,rfl⟩);go_ret2;exact⟨rfl,rfl⟩
theorem Rw.cut_any (s e:ByteArray) (hs:s.size≤1000000) (he:e.size≤1000) (w:World) :
 Calls prog 158 #[.string s,.string e] w fun x w'=>x=.returned (.tuple #[.string ⟨(zBV s.data.toList e.data.toList).toArray⟩,.bool (zCz s.data.toList e.data.toList)])∧w'=w:=by
 go_enter func158,ntmps158;go_wp2_with (refine (zNy s e hs he _).mono ?_;rintro x w1 ⟨rfl,rfl⟩);go_ret2;exact⟨rfl,rfl⟩
theorem zR2 {s:ByteArray} {b:UInt8} (h:s.data.toList.head?=some b):∃h:0<s.size,s[0]=b:=by
 have h1:0<s.size:=by
  rcases hl:s.data.toList with _|⟨c,r⟩
  · rw[hl]at h;cases h
  have:s.data.toList.length=s.size:=by simp
  rw[hl]at this;simp at this;omega
 rw[zFT s h1]at h;exact⟨h1,by simpa using h⟩
theorem zR3 {s:ByteArray} {b:UInt8} (hne:s.data.toList≠[]) (h:s.data.toList.head?≠some b):∃h:0<s.size,s[0]≠b:=by
 have h1:0<s.size:=by
  have:s.data.toList.length=s.size:=by simp
  rcases hl:s.data.toList with _|⟨c,r⟩
  · exact absurd hl hne
  rw[hl]at this;simp at this;omega
 rw[zFT s h1]at h;exact⟨h1,by simpa using h⟩
def zQn (m:List Int) (w:World) (e:Ending) (w':World):Prop :=
 ∃A c,e=.returned (.tuple #[.slice A m.length c,.bool true])∧Slt w' 21 A (m.map (Value.int .i32))∧Below w.heap.size w w'
theorem zJf (s:ByteArray) (hs:s.size≤1000000) (m:List Int) (hm:Rw.mp s.data.toList=some m) (w:World) :
 Calls prog 157 #[.string s] w (zQn m w):=by
 unfold Rw.mp at hm;split at hm
 · rename_i h0;simp only[Zg]at hm;subst hm;rcases h0 with h0|h0
   · have he:s.toList.isEmpty=true:=by rw[Yx s,h0];rfl
     clear h0;go_enter func157,ntmps157;go_wp2;go_ret2;exact⟨none,0,rfl,Slt.nil _ _ _,Zc _ _⟩
   obtain⟨h1,h2⟩:=zR2 h0
   have he:s.toList.isEmpty=false:=by
    rw[Yx s];rcases hl:s.data.toList with _|⟨b,r⟩
    · rw[hl]at h0;cases h0
    rfl
   have h3:(s[0].toNat:Int)=60:=by rw[h2];rfl
   have h4:(0:Int)<s.size:=by omega
   clear h0 h2;go_enter func157,ntmps157;go_wp2;go_ret2;exact⟨none,0,rfl,Slt.nil _ _ _,Zc _ _⟩
 rename_i h0;split at hm
 rotate_left
 · cases hm
 rename_i h5;obtain⟨h5,h6⟩:=h5;simp only[Zg]at hm;have hne:s.data.toList≠[]:=fun e=>h0 (.inl e)
 obtain⟨h1,h2⟩:=zR3 hne fun e=>h0 (.inr e)
 have he:s.toList.isEmpty=false:=by
  rw[Yx s];rcases hl:s.data.toList with _|⟨b,r⟩
  · exact absurd hl hne
  rfl
 have h3:((s[0].toNat:Int) == 60)=false:=by
  have:s[0].toNat≠60:=fun e=>h2 (UInt8.toNat_inj.1 e)
  simp;omega
 have h4:(0:Int)<s.size:=by omega
 have hH:=zMe s hs
 have ae:(zEb (zAh 32 [] s.data.toList)).all Q.ok=true:=by
  unfold zEb;rw[List.all_map];exact h5
 have hlen:(zEb (zAh 32 [] s.data.toList)).length=m.length:=by
  unfold zEb;rw[Ze,←hm,Ze]
 have aa:zIP (zEb (zAh 32 [] s.data.toList))=m.map (Value.int .i32):=by
  rw[←hm];unfold zIP zEb Q.val;rw[Xf,Xf];rfl
 unfold zEg at hH;simp only[ae,Yv,hlen,aa]at hH;have af:m.length≤2:=by rw[←hm,Ze];exact h6
 have h7:(m.length:Int)≤2:=by omega
 clear h0 h5 h6 hm hne h2 ae hlen aa;go_enter func157,ntmps157;go_wp2_with fail;refine (hH _).mono ?_;rintro e w1 ⟨A,c,rfl,hS,hb⟩;have HS:=hy' hS;have HB:=hy' hb;clear hS hb hH;go_wp2_with fail;go_ret2;exact⟨A,c,rfl,HS.o,HB.o⟩
def zQo (r:Rw.Row) (w:World) (e:Ending) (w':World):Prop :=
 ∃A c,e=.returned (.tuple #[.agg #[.int .i32 r.1,.int .i64 r.2.1,.slice A r.2.2.length c],.string ⟨#[]⟩])∧Slt w' 21 A (r.2.2.map (Value.int .i32))∧Below w.heap.size w w'
theorem zIS {F:List (List UInt8)} {r:Rw.Row} (h:Rw.row F=some r):∃f0 f1 f3 f5,F.length=15∧F[0]?=some f0∧F[1]?=some f1∧F[3]?=some f3∧F[5]?=some f5∧f1≠[]∧zAE f0=some r.1∧zD6 f3 254=some r.2.1∧Rw.mp f5=some r.2.2:=by
 unfold Rw.row at h;split at h
 rotate_left
 · cases h
 rename_i h0;obtain⟨h0,h1⟩:=h0
 have g:∀i,i<15→F[i]?=some (F.getD i []):=fun i hi=>by
  rw[Zb (by omega),YA,Zb (by omega)];rfl
 rcases hc:zAE (F.getD 0 []) with _|c
 · rw[hc]at h;cases h
 rcases hk:zD6 (F.getD 3 []) 254 with _|k
 · rw[hc,hk]at h;cases h
 rcases hm:Rw.mp (F.getD 5 []) with _|m
 · rw[hc,hk,hm]at h;cases h
 rw[hc,hk,hm]at h;simp only[Zy,Zx,Zg]at h;subst h;exact⟨_,_,_,_,h0,g 0 (by omega),g 1 (by omega),g 3 (by omega),g 5 (by omega),h1,hc,hk,hm⟩
theorem Rw.row_any (A:Option Addr) (n cp B:Nat) (F:List (List UInt8)) (r:Rw.Row) (w:World) (hF:Rw.row F=some r) (hn:F.length=n) (hB:B≤w.heap.size) (hA:Sl w B A (F.map fun x=>Value.string ⟨x.toArray⟩))
 (au:∀x∈F,x.length≤100000) (hL:Fi.LaidN w):Calls prog 121 #[.slice A n cp] w (zQo r w):=by
 obtain⟨f0,f1,f3,f5,ay,i0,i1,i3,i5,hne,ah,ag,aw⟩:=zIS hF;obtain rfl:n=15:=by omega
 obtain⟨b,o,rfl,hb,hc⟩:=hA (by rw[Ze];omega);have aj:=hc 0 (by rw[Ze];omega);have ar:=hc 1 (by rw[Ze];omega);have ap:=hc 3 (by rw[Ze];omega);have ak:=hc 5 (by rw[Ze];omega);rw[Zw,i0,Zx]at aj;rw[Zw,i1,Zx]at ar;rw[Zw,i3,Zx]at ap;rw[Zw,i5,Zx]at ak;have s3:=au f3 (Zk i3);have s5:=au f5 (Zk i5);obtain⟨b0,av⟩:∃x:ByteArray,⟨f0.toArray⟩=x:=⟨_,rfl⟩;obtain⟨b1,aq⟩:∃x:ByteArray,⟨f1.toArray⟩=x:=⟨_,rfl⟩;obtain⟨b3,aa⟩:∃x:ByteArray,⟨f3.toArray⟩=x:=⟨_,rfl⟩;obtain⟨b5,ao⟩:∃x:ByteArray,⟨f5.toArray⟩=x:=⟨_,rfl⟩
 have H1:∀W:World,Calls prog 126 #[.string b0] W fun e w'=>e=.returned (.tuple #[.int .i32 r.1,.bool true])∧w'=W:=fun W=>(zFf b0 W).mono fun e w' h=>⟨by
  have:=h.1;unfold zB8 at this;rw[this,←av,show (⟨f0.toArray⟩:ByteArray).data.toList=f0 from rfl,ah];rfl,h.2⟩
 have H2:∀W:World,Fi.LaidN W→Calls prog 156 #[.string b3,.int .i64 254] W fun e w'=>e=.returned (.tuple #[.int .i64 r.2.1,.bool true])∧Below W.heap.size W w':=fun W hW=>(zPk b3 (by rw[←aa];show f3.toArray.size≤_;simpa using s3) 254 (by decide) W hW).mono fun e w' h=>⟨by
  have:=h.1;unfold zD8 at this;rw[this,←aa,show (⟨f3.toArray⟩:ByteArray).data.toList=f3 from rfl,ag];rfl,h.2⟩
 have H3:=zJf b5 (by rw[←ao];show f5.toArray.size≤_;simp;omega) r.2.2 (by rw[←ao];exact aw)
 have e1:b1.toList.isEmpty=false:=by
  rw[←aq,Yx];rcases hl:f1 with _|⟨x,t⟩
  · exact absurd hl hne
  rfl
 rw[av]at aj;rw[aq]at ar;rw[aa]at ap;rw[ao]at ak;rw[YT]at aj;obtain⟨c,k,m⟩:=r;simp only at H1 H2 H3;have ax:b<w.heap.size:=by omega
 clear hc hA hF ay i0 i1 i3 i5 hne ah ag aw av aq aa ao au s3 s5 hn;go_enter func121,ntmps121;go_wp2_with fail;refine (H1 _).mono ?_;rintro e w1 ⟨rfl,rfl⟩;go_wp2_with fail;refine (H2 _ (hL.next (((Zc _ _).alloc (Za _) _).alloc (by simp) _))).mono ?_;rintro e w2 ⟨rfl,ai⟩;have k1:Rw.At w2 w.heap.size 109 [.int .i32 0,.int .i64 0,.slice none 0 0]:=((Rw.At.new w 109 [.int .i32 0,.int .i64 0,.slice none 0 0]).alloc _).below ai
 have k2:Rw.At w2 (w.heap.size+1) 109 [.int .i32 c,.int .i64 0,.slice none 0 0]:=by
  have h:=Rw.At.new (w.alloc (.cells #[.int .i32 0,.int .i64 0,.slice none 0 0] 109)) 109 [.int .i32 c,.int .i64 0,.slice none 0 0];rw[ZK]at h;exact h.below ai
 have ae:Below w.heap.size w w2:=(((Zc w.heap.size w).alloc (Za _) _).alloc (by simp) _).trans (ai.mono (by simp;omega));obtain⟨d1,d2,d3,d4,d5,d6⟩:=k2.three;have c5:=((zAP ae).1 _ _ ax).trans ak;clear aj ar ap ak ai;go_wp2_with fail;refine (H3 _).mono ?_;rintro e w3 ⟨Am,cm,rfl,hS,aa⟩;have k3:=(k1.other (show w.heap.size≠w.heap.size+1 by omega) (.int .i64 k) (i:=1)).below aa;have k4:=(k2.set 1 (.int .i64 k)).below aa;simp only[ZC,ZB]at k4;have af:Below w.heap.size w w3:=(ae.setCell (p:=⟨w.heap.size+1,1,none⟩) (ZW _) (.int .i64 k)).trans (aa.mono (Zh ae.size (KeepsWalks.setCell w2 _ (.int .i64 k)).size));obtain⟨g1,g2,g3,g4,g5,g6⟩:=k3.three;obtain⟨m1,m2,m3,m4,m5,m6⟩:=k4.three;have HS:=hy' hS;have HB:=hy' af;clear hS aa af ae k1 k2 d1 d2 d3 d4 d5 d6 c5;go_wp2_with fail;have j1:=k4.set 2 (.slice Am m.length cm);have j2:=k3.other (show w.heap.size≠w.heap.size+1 by omega) (.slice Am m.length cm) (i:=2);have j3:=j2.set 0 (.int .i32 c);have j4:=j3.set 1 (.int .i64 k);have j5:=j4.set 2 (.slice Am m.length cm);refine YF (zE0 rfl _ _ w.heap.size _ _ _ _ rfl j5 underlying109 rfl (by kernel_rfl)) rfl ⟨Am,cm,rfl,?_,?_⟩
 · exact ((((HS.o.setAt k4 (by decide) 2 _).setAt j2 (by decide) 0 _).setAt j3 (by decide) 1 _).setAt j4 (by decide) 2 _)
 exact (((HB.o.setCell (p:=⟨w.heap.size+1,2,none⟩) (ZW _) _).setCell (p:=⟨w.heap.size,0,none⟩) (Za _) _).setCell (p:=⟨w.heap.size,1,none⟩) (Za _) _).setCell (p:=⟨w.heap.size,2,none⟩) (Za _) _
def zIT:ByteArray:=⟨#[44,32,70,105,114,115,116,62]⟩
def zKP:ByteArray:=⟨#[44,32,76,97,115,116,62]⟩
def zNz (b:Nat) (vo:Value) (code:Int) (o:List UInt8) (w:World) (e:Ending) (w':World):Prop :=
 e=.returned (.bool true)∧Rw.At w' b 158 [vo,.int .i32 code,.string ⟨o.toArray⟩]∧w.grownBy w' (some b)
theorem zEP (s:ByteArray):s.toList.isEmpty=s.data.toList.isEmpty:=by rw[Yx s]
theorem zKQ (b:Nat) (vo:Value) (code:Int) (was name:ByteArray) (c k:Int) (A:Option Addr) (n cp:Nat) (o:List UInt8) (w:World) (hv:vo.oneCell'=true)
 (aa:Rw.At w b 158 [vo,.int .i32 code,.string was]) (hs:name.size≤1000000) (hr:zBH was.data.toList name.data.toList (decide (k=0)&&decide (n=0))=some o) :
 Calls prog 122 #[.pointer (some ⟨b,0,none⟩),.string name,.agg #[.int .i32 c,.int .i64 k,.slice A n cp]] w (zNz b vo code o w):=by
 have c1:=Rw.cut_any name zIT hs (by decide);have c2:=Rw.cut_any name zKP hs (by decide);rw[show zIT.data.toList=Rw.first from rfl]at c1;rw[show zKP.data.toList=Rw.last from rfl]at c2;have hQ:=zHv c k A n cp;have av:=aa.lt;obtain⟨d1,d2,d3,d4,d5,d6⟩:=aa.three;unfold zBH at hr;obtain⟨x1,af⟩:∃x:ByteArray,⟨(zBV name.data.toList Rw.first).toArray⟩=x:=⟨_,rfl⟩;obtain⟨x2,ae⟩:∃x:ByteArray,⟨(zBV name.data.toList Rw.last).toArray⟩=x:=⟨_,rfl⟩
 have au:x1.size≤1000000:=by
  rw[←af];show (zBV name.data.toList Rw.first).toArray.size≤1000000;unfold zBV;split <;> simp <;> omega
 have ap:x2.size≤1000000:=by
  rw[←ae];show (zBV name.data.toList Rw.last).toArray.size≤1000000;unfold zBV;split <;> simp <;> omega
 obtain⟨b1,aj⟩:∃x,zCz name.data.toList Rw.first=x:=⟨_,rfl⟩;obtain⟨b2,ai⟩:∃x,zCz name.data.toList Rw.last=x:=⟨_,rfl⟩;rw[af,aj]at c1;rw[ae,ai]at c2;rw[aj,ai]at hr;unfold zIT at c1;unfold zKP at c2;split at hr
 · split at hr
   rotate_left
   · cases hr
   rename_i h1 h2;obtain⟨rfl,h2,h3⟩:=h2;simp only[Zg]at hr;subst hr;rw[h3]at hQ
   have hw:x2++(⟨#[44,32,70,105,114,115,116,62]⟩:ByteArray)=was:=by
    rw[←ae,show (⟨#[44,32,70,105,114,115,116,62]⟩:ByteArray)=⟨Rw.first.toArray⟩ from rfl,zAI,h2,Lib.mk_data]
   have ao:was.toList.isEmpty=false:=by
    rw[zEP,←h2];simp[Rw.first]
   subst hw
   have ar:¬9223372036854775807<x2.size+(⟨#[44,32,70,105,114,115,116,62]⟩:ByteArray).size:=by
    have:(⟨#[44,32,70,105,114,115,116,62]⟩:ByteArray).size=8:=rfl;omega
   clear h1 h2 h3 af ae aj ai;go_enter func122,ntmps122;go_wp2_with fail;refine (c1 _).mono ?_;rintro e w1 ⟨rfl,rfl⟩;go_wp2_with fail;refine (c2 _).mono ?_;rintro e w2 ⟨rfl,rfl⟩;go_wp2_with fail;refine (hQ _).mono ?_;rintro e w3 ⟨rfl,ah⟩;have HB:=hy' ah;clear ah;go_wp2_with fail;go_ret;exact⟨rfl,((aa.set 2 (.string ⟨#[]⟩)).alloc _).below HB.o,zA0 (zA0 (Rw.grown_set b 2 _) (YW _ _ _)) (zDh HB.o)⟩
 split at hr
 rotate_left
 · rename_i h1 h2;simp only[Zg]at hr;subst hr
   obtain⟨ag,ak⟩:was.data.toList=[]∧b2=false:=by
    refine⟨?_,?_⟩
    · rcases hl:was.data.toList with _|⟨x,r⟩
      · rfl
      exact absurd (.inl (by rw[hl];simp)) h1
    cases b2
    · rfl
    exact absurd (.inr rfl) h1
   have aq:b1=false:=by simpa using h2
   have ao:was.toList.isEmpty=true:=by rw[zEP,ag];rfl
   subst ak aq;clear h1 h2 af ae aj ai ag;go_enter func122,ntmps122;go_wp2_with fail;refine (c1 _).mono ?_;rintro e w1 ⟨rfl,rfl⟩;go_wp2_with fail;refine (c2 _).mono ?_;rintro e w2 ⟨rfl,rfl⟩;go_wp2_with fail;go_ret;exact⟨rfl,(aa.set 2 (.string ⟨#[]⟩)).alloc _,zA0 (Rw.grown_set b 2 _) (YW _ _ _)⟩
 rename_i h1 h2;subst h2;split at hr
 rotate_left
 · cases hr
 rename_i h3;simp only[Zg]at hr;subst hr;rw[h3]at hQ
 have hw:x1++(⟨#[44,32,70,105,114,115,116,62]⟩:ByteArray)=⟨(zBV name.data.toList Rw.first++Rw.first).toArray⟩:=by
  rw[←af,show (⟨#[44,32,70,105,114,115,116,62]⟩:ByteArray)=⟨Rw.first.toArray⟩ from rfl,zAI]
 obtain⟨ag,ak⟩:was.data.toList=[]∧b2=false:=by
  refine⟨?_,?_⟩
  · rcases hl:was.data.toList with _|⟨x,r⟩
    · rfl
    exact absurd (.inl (by rw[hl];simp)) h1
  cases b2
  · rfl
  exact absurd (.inr rfl) h1
 have ao:was.toList.isEmpty=true:=by rw[zEP,ag];rfl
 have ar:¬9223372036854775807<x1.size+(⟨#[44,32,70,105,114,115,116,62]⟩:ByteArray).size:=by
  have:(⟨#[44,32,70,105,114,115,116,62]⟩:ByteArray).size=8:=rfl;omega
 subst ak;have HW:=hy' hw;clear hw h1 h3 af ae aj ai ag;go_enter func122,ntmps122;go_wp2_with fail;refine (c1 _).mono ?_;rintro e w1 ⟨rfl,rfl⟩;go_wp2_with fail;refine (c2 _).mono ?_;rintro e w2 ⟨rfl,rfl⟩;go_wp2_with fail;refine (hQ _).mono ?_;rintro e w3 ⟨rfl,ah⟩;have HB:=hy' ah;clear ah;go_wp2_with fail;go_ret;refine⟨rfl,?_,zA0 ?_ (zDh HB.o)⟩
 · rw[←HW.o]
   first|exact (((aa.set 2 _).set 2 _).alloc _).below HB.o|exact ((aa.set 2 _).alloc _).below HB.o|exact (((aa.set 2 _).alloc _).set 2 _).below HB.o
 first|exact zA0 (zA0 (Rw.grown_set b 2 _) (Rw.grown_set b 2 _)) (YW _ _ _)|exact zA0 (Rw.grown_set b 2 _) (YW _ _ _)|exact zA0 (zA0 (Rw.grown_set b 2 _) (YW _ _ _)) (Rw.grown_set b 2 _)
end
section
open Go.RowKit Go.Stop
theorem zKR (w:World) (d:Int) :
 (convert 30 9 (.slice (some ⟨w.heap.size,0,none⟩) 1 1)).run prog (w.alloc (.cells #[.int .u8 d] 5))=.ok (.string ⟨#[UInt8.ofNat d.toNat]⟩) (w.alloc (.cells #[.int .u8 d] 5)):=by
 exact Qf _ 30 5 underlying30 underlying5 w.heap.size 0 1 1 [d] rfl (fun i hi=>by
  obtain rfl:i=0:=by omega
  simp) 9 underlying9
theorem Fi.rtext_any (c:Nat) (hc:c<16777216) (w:World) :
 Calls prog 105 #[.int .i64 c] w fun e w'=>e=.returned (.string ⟨(Fi.text c).toArray⟩)∧Below w.heap.size w w':=by
 have a1:zBb c≤6:=zBQ 5 c (by rw[show (16:Nat) ^ (5+1)=16777216 from by decide];exact hc);go_enter func105,ntmps105;go_wp2;go_loopw [0,3,4] (fun vx vs vi wr=>∃i x:Nat,vx=.int .i64 x∧vs=.string ⟨((Fi.low i c).map zBP).toArray⟩∧vi=.int .i64 i∧i≤max 4 (zBb c)∧x=c/16 ^ i∧Below w.heap.size w wr) (fun _ _ vi _=>7-(intOf vi).toNat)
 case atStart=>exact⟨0,c,rfl,rfl,rfl,by omega,by simp,Zc _ _⟩
 obtain⟨i,x,rfl,rfl,rfl,hi,hx,aa⟩:=hrel;obtain⟨w1,rfl⟩:∃w1:World,w1=wr:=⟨_,rfl⟩;have ao:=aa.size
 have az:x<16777216:=by
  have:=J9 c (16 ^ i);omega
 have ax:=hy' aa;obtain⟨s,hs⟩:∃s:ByteArray,(⟨((Fi.low i c).map zBP).toArray⟩:ByteArray)=s:=⟨_,rfl⟩
 have a6:s.size=i:=by
  rw[←hs];show ((Fi.low i c).map zBP).toArray.size=i;simp[zCP]
 by_cases hgo:i<4∨0<x
 rotate_left
 · have ai:¬(i:Int)<4:=by omega
   have av:x=0:=by omega
   subst av
   have ag:max 4 (zBb c)=i:=by
    have h1:c<16 ^ i:=by
     rcases ZZ c (16 ^ i) with h|h
     · exact h
     have:=Nat.div_pos h (Jt (by decide));omega
    have:=zBQ (i-1) c (by rw[show i-1+1=i by omega];exact h1);omega
   have hT:s=⟨(Fi.text c).toArray⟩:=by rw[←hs];unfold Fi.text;rw[ag]
   have HT:=hy' hT;rw[hs];clear hgo hx ag hs hT;go_wp2;go_ret;exact⟨by rw[HT.o];rfl,ax.o⟩
 have aq:i+1≤max 4 (zBb c):=by
  rcases hgo with h|h
  · omega
  have h1:16 ^ i≤c:=by
   rcases ZZ c (16 ^ i) with h2|h2
   · rw[J0 h2]at hx;omega
   exact h2
  have:=zOf c i h1;omega
 have ap:x/16=c/16 ^ (i+1):=by rw[hx,Qb,←Xa]
 have ak:∀dg:UInt8,dg=zBP (x%16)→(⟨#[dg]⟩:ByteArray)++s=⟨((Fi.low (i+1) c).map zBP).toArray⟩:=by
  rintro dg rfl;rw[←hs,zCf,←hx];exact zAI [zBP (x%16)] _
 have HI:=hy' aq;have aj:=hy' ap;have ah:=hy' ak;have ar:¬9223372036854775807<1+s.size:=by omega
 rw[hs];clear ak ap hx hs aq;have au:(x:Int)%16=((x%16:Nat):Int):=by omega
 obtain⟨d,hd⟩:∃d,x%16=d:=⟨_,rfl⟩;rw[hd]at au ah;have aw:d<16:=by omega
 clear hd
 by_cases h10:(d:Int)<10
 · have hC:=zKR w1 (48+(d:Int));have af:=hy' (aa.alloc ao (.cells #[.int .u8 (48+(d:Int))] 5))
   have ae:UInt8.ofNat (48+(d:Int)).toNat=zBP d:=by
    unfold zBP;rw[Zl (by omega),show (48+(d:Int)).toNat=48+d by omega]
   rw[ae]at hC;have HR:=hy' (ah.o _ rfl);clear ae aa ah;rcases ZZ i 4 with h4|h4
   · have ai:(i:Int)<4:=by omega
     clear hgo;go_wp2;exact⟨⟨i+1,x/16,by go_num,by first|exact ZT Value.string HR.o|(congr 1;exact HR.o),by go_num,HI.o,aj.o,af.o⟩,by simp[intOf];omega⟩
   have ai:¬(i:Int)<4:=by omega
   have ay:(x:Int) > 0:=by omega
   clear hgo;go_wp2;exact⟨⟨i+1,x/16,by go_num,by first|exact ZT Value.string HR.o|(congr 1;exact HR.o),by go_num,HI.o,aj.o,af.o⟩,by simp[intOf];omega⟩
 have hC:=zKR w1 (55+(d:Int));have af:=hy' (aa.alloc ao (.cells #[.int .u8 (55+(d:Int))] 5))
 have ae:UInt8.ofNat (55+(d:Int)).toNat=zBP d:=by
  unfold zBP;rw[Zj (by omega),show (55+(d:Int)).toNat=55+d by omega]
 rw[ae]at hC;have HR:=hy' (ah.o _ rfl);clear ae aa ah;rcases ZZ i 4 with h4|h4
 · have ai:(i:Int)<4:=by omega
   clear hgo;go_wp2;exact⟨⟨i+1,x/16,by go_num,by first|exact ZT Value.string HR.o|(congr 1;exact HR.o),by go_num,HI.o,aj.o,af.o⟩,by simp[intOf];omega⟩
 have ai:¬(i:Int)<4:=by omega
 have ay:(x:Int) > 0:=by omega
 clear hgo;go_wp2;exact⟨⟨i+1,x/16,by go_num,by first|exact ZT Value.string HR.o|(congr 1;exact HR.o),by go_num,HI.o,aj.o,af.o⟩,by simp[intOf];omega⟩
theorem Fi.infoStr:(prog.info? 9).map (fun i=>(i.zero,i.size,i.bytes))=some (some (.string ByteArray.empty),1,16):=by kernel_rfl
def Fi.vs (l:List (List UInt8)):List Value:=l.map fun x=>Value.string ⟨x.toArray⟩
theorem Fi.split_any (s:ByteArray) (hs:s.size≤1000000000) (w:World) (hL:Fi.Laid w) :
 Calls prog 120 #[.string s] w (zPf w (zAh 59 [] s.data.toList)):=by
 obtain⟨m,hm⟩:=hL.1;have h1:=Tryz.strings_Split s ⟨#[59]⟩ m w (by omega) hm (Za 1);have hlen:=Lib.splitB_all ⟨#[59]⟩ (Za 1) 0 _ s rfl;have aa:=zNn 59 _ s (Za _);obtain⟨L,ae⟩:∃L,Lib.splitB ⟨#[59]⟩ 0 (Lib.countB s ⟨#[59]⟩) s=L:=⟨_,rfl⟩;obtain⟨n,hn⟩:∃n,Lib.countB s ⟨#[59]⟩+1=n:=⟨_,rfl⟩;rw[ae]at h1 hlen aa;rw[hn]at h1 hlen
 have af:L.map Value.string=Fi.vs (zAh 59 [] s.data.toList):=by
  rw[←aa];unfold Fi.vs;rw[Xf];exact YV fun x _=>by show Value.string x=Value.string ⟨x.data.toList.toArray⟩;rw[Lib.mk_data]
 rw[af]at h1;have ag:(zAh 59 [] s.data.toList).length=n:=by rw[←aa,Ze,hlen]
 have ah:=hy' ag;clear af aa hlen ae hn hm hL ag;obtain⟨V,hV⟩:∃V,Fi.vs (zAh 59 [] s.data.toList)=V:=⟨_,rfl⟩;have HV:=hy' hV;rw[hV]at h1;clear hV;go_enter func120,ntmps120;go_wp2_with fail;refine h1.mono ?_;rintro e w1 ⟨rfl,rfl⟩;go_wp2_with fail;go_ret;refine⟨some ⟨w.heap.size,0,none⟩,n,n,rfl,ah.o,?_,(Zc _ _).alloc (Za _) _⟩;intro _;refine⟨w.heap.size,0,rfl,by simp,fun j hj=>?_⟩;rw[Z1,Jd,show (zAh 59 [] s.data.toList).map (fun x=>Value.string ⟨x.toArray⟩)=V from HV.o];simp
end
section
open Go.RowKit
def Rw.Laid (w:World):Prop:=Fi.Laid w∧Fi.LaidN w
theorem Rw.Laid.next {w w':World} (h:Rw.Laid w) (hb:Below w.heap.size w w'):Rw.Laid w':=⟨h.1.below hb,h.2.next hb⟩
theorem zPl:(prog.info? 109).map (fun i=>(i.zero,i.size,i.bytes))=some (some (.agg #[.int .i32 0,.int .i64 0,.slice none 0 0]),3,40):=by kernel_rfl
def zNA (w:World) (b:Nat) (st:Rw.St):Prop :=
 ∃v ads,Rw.At w b 158 [v,.int .i32 st.2.1,.string ⟨st.2.2.toArray⟩]∧w.ownsRow (b+1) 109 3 v st.1.length (Rw.fl st.1 ads)∧ads.length=st.1.length∧Rw.Maps w st.1 ads
def zPm (b:Nat) (st:Rw.St) (w:World) (e:Ending) (w':World):Prop:=e=.returned (.string ⟨#[]⟩)∧zNA w' b st∧Below b w w'
theorem zHw {st st':Rw.St} {l:List UInt8} (h:Rw.step st l=some st'):∃r o,Rw.row (zAh 59 [] l)=some r∧st.2.1<r.1∧zBH st.2.2 ((zAh 59 [] l).getD 1 []) (Rw.quiet r)=some o∧(C.isC r.1=true∨Rw.quiet r=true) ∧
 st'=(if Rw.quiet r then st.1 else st.1++[r],r.1,o):=by
 unfold Rw.step at h;rcases hr:Rw.row (zAh 59 [] l) with _|r
 · rw[hr]at h;cases h
 rw[hr,Zy]at h;split at h
 · rename_i h1;rcases ho:zBH st.2.2 ((zAh 59 [] l).getD 1 []) (Rw.quiet r) with _|o
   · rw[ho]at h;cases h
   rw[ho,Zy]at h;split at h
   · rename_i h2;simp only[Zg]at h;exact⟨r,o,rfl,h1,ho,h2,h.symm⟩
   cases h
 cases h
theorem Rw.line_any (b:Nat) (st st':Rw.St) (l:ByteArray) (w0 w:World) (hL:Rw.Laid w0) (h0:w0.heap.size≤b) (ee:Below w0.heap.size w0 w) (hI:zNA w b st) (hl:l.size≤1000) (hn:st.1.length≤100000)
 (dl:Rw.step st l.data.toList=some st'):Calls prog 85 #[.pointer (some ⟨b,0,none⟩),.string l] w (zPm b st' w):=by
 obtain⟨r,o,a7,dw,bw,hq,rfl⟩:=zHw dl;obtain⟨out,code,was⟩:=st;obtain⟨v,ads,bp,bt,has,au⟩:=hI;obtain⟨c,k,m⟩:=r;simp only at dw bw hq bp bt has au hn ⊢;have dn:=hL.next ee;have hS:=Fi.split_any l (by omega) w dn.1;obtain⟨f0,f1,f3,f5,dp,i0,i1,i3,i5,hne,cy,cv,er⟩:=zIS a7
 have ak:∀x∈zAh 59 [] l.data.toList,x.length≤1000:=fun x hx=>by
  have:=zEL 59 l.data.toList [] x hx;simp at this;omega
 have ew:f1.length≤1000:=ak f1 (Zk i1);have du:(zAh 59 [] l.data.toList).getD 1 []=f1:=by rw[YA,i1];rfl
 rw[du]at bw;obtain⟨F,hF⟩:∃F,zAh 59 [] l.data.toList=F:=⟨_,rfl⟩;rw[hF]at a7 dp i1 ak hS;obtain⟨j0,hj0,ek,ec,eb⟩:=Z7 zPl;obtain⟨nm,cj⟩:∃nm:ByteArray,⟨f1.toArray⟩=nm:=⟨_,rfl⟩;have c1:nm.size≤1000000:=by rw[←cj];show f1.toArray.size≤_;simp;omega
 have cf:nm.data.toList=f1:=by rw[←cj]
 obtain⟨wb,ct⟩:∃wb:ByteArray,⟨was.toArray⟩=wb:=⟨_,rfl⟩;have cg:wb.data.toList=was:=by rw[←ct]
 rw[←cf,←cg]at bw;rw[ct]at bp;have ey:decide (c≤code)=false:=Zt (by omega);have ea:=zHv c k;obtain⟨bc,di⟩:∃x,C.isC c=x:=⟨_,rfl⟩;obtain⟨bq,cq⟩:∃x,Rw.quiet (c,k,m)=x:=⟨_,rfl⟩;have b6:(decide (k=0)&&decide (m.length=0))=bq:=cq;rw[di,cq]at hq;rw[cq]at bw ⊢;obtain⟨out',ap⟩:∃x,(if bq=true then out else out++[(c,k,m)])=x:=⟨_,rfl⟩;rw[ap];have HO:=hy' ap;have dy:=hy' b6;have hU:=zBq c;rw[di]at hU;have HQ:=hy' hq;clear di cq b6 hq ap;have cx:=hy' a7;have eg:=hy' bw;have cb:=hy' ak;clear dl cy cv er i0 i3 i5 a7 bw ak hne du hF cf cg ct dw;go_enter func85,ntmps85;go_wp2_with fail;refine hS.mono ?_;rintro e w1 ⟨A,n,cp,rfl,eo,hA,df⟩;obtain rfl:n=15:=by omega
 have hR:=Rw.row_any A 15 cp w1.heap.size F (c,k,m) w1 cx.o dp (Za _) hA (fun x hx=>by have:=cb.o x hx;omega) (dn.next df).2;obtain⟨ab,ao,rfl,br,dv⟩:=hA (by rw[Ze];omega);have dh:=dv 1 (by rw[Ze];omega);rw[Zw,i1,Zx,cj]at dh;clear dv hS i1 eo cj;have b9:=hy' df;clear df;go_wp2_with fail;refine hR.mono ?_;rintro e w2 ⟨Am,cm,rfl,c7,cn⟩;clear hR;simp only at c7;have b1:=((zAP cn).1 _ _ br).trans dh;have bf:ab<w2.heap.size:=Zf br cn.size;have az:Below w.heap.size w w2:=b9.out.trans (cn.mono b9.out.size);have bn:=bp.below az;have bb:=zA4 bt az (Za _);have aq:=au.below az;obtain⟨d1,d2,d3,d4,d5,d6⟩:=bn.three;have eu:b<w2.heap.size:=bn.lt;have et:b<w.heap.size:=bp.lt;clear dh br cn bp bt au;have dx:=hy' az;have b5:=hy' bb;have b7:=hy' aq;have ep:=hy' c7;clear az bb aq c7;go_wp2_with fail;go_quiet (fail);go_wp2_with fail;obtain⟨w3,ck⟩:∃w3,(w2.alloc (.cells #[.int .i32 c,.int .i64 k,.slice Am m.length cm] 109)).drewN nq=w3:=⟨_,rfl⟩;have bo:Below w2.heap.size w2 w3:=by rw[←ck];exact ((Zc w2.heap.size w2).alloc (Za _) _).trans ((zDu _ _).mono (by simp))
 have c8:Rw.At w3 w2.heap.size 109 [.int .i32 c,.int .i64 k,.slice Am m.length cm]:=by rw[←ck];exact (Rw.At.new w2 109 [.int .i32 c,.int .i64 k,.slice Am m.length cm]).below (zDu _ _)
 have cz:=bn.below bo;obtain⟨m1,m2,m3,m4,m5,m6⟩:=c8.three;have eh:=((zAP bo).1 _ _ bf).trans b1;have dz:w2.heap.size<w3.heap.size:=c8.lt;have hG:=fun W bp=>zKQ b v code wb nm c k Am m.length cm o W (zOC b5.o) bp c1 (by rw[dy.o];exact eg.o)
 have a1:Rw.At w3.drew b 158 [v,.int .i32 code,.string wb]:=cz;rw[ck];clear ck d1 d2 d3 d4 d5 d6 b1 bf;go_region_with (go_at_call 122;refine (hG _ a1).mono ?_;rintro e w4 ⟨rfl,ai,bx⟩)
 all_goals
  have cr:Rw.At w4 w2.heap.size 109 [.int .i32 c,.int .i64 k,.slice Am m.length cm]:=(show Rw.At w3.drew _ _ _ from c8).grown bx (by simp;omega);have bg:Below w.heap.size w w3.drew:=dx.o.trans ((show Below w2.heap.size w2 w3.drew from bo.drew).mono dx.o.size);have bj:=zA8 (zA4 b5.o (show Below w2.heap.size w2 w3.drew from bo.drew) (Za _)) (ZN b) bx;have ax:=(b7.o.below (show Below w2.heap.size w2 w3.drew from bo.drew)).grown bx (by intro q hq;cases hq;exact a1.not (by decide));have b3:=(ep.o.below (show Below w2.heap.size w2 w3.drew from bo.drew)).grown bx (by intro q hq;cases hq;exact a1.not (by decide));have cd:Below b w w4:=(bg.mono (Z4 et)).trans (zAe bx (by show b≤w3.drew.heap.size;have:=bo.size;simp;omega) (by intro q hq;cases hq;exact Za _));have ef:w2.heap.size<w4.heap.size:=cr.lt;have b4:=ea Am m.length cm;rw[dy.o]at b4;obtain⟨p1,p2,p3,p4,p5,p6⟩:=ai.three;obtain⟨r1,r2,r3,r4,r5,r6⟩:=cr.three;have av:=hy' bj;have aj:=hy' ax;have dc:=hy' b3;have bm:=hy' cd;clear bj ax b3 cd bg bx m1 m2 m3 m4 m5 m6 eh;rcases bq with _|_
  · obtain rfl:bc=true:=by
     rcases HQ.o with h|h
     · exact h
     cases h
    go_wp2_with (first|(go_at_call 39;refine (hU _).mono ?_;rintro e w5 ⟨rfl,rfl⟩)|fail);refine (b4 _).mono ?_;rintro e w5 ⟨rfl,ag⟩;have af:=(ai.set 1 (.int .i32 c)).below ag;simp only[ZC,ZB]at af;have dm:=(cr.other (show w2.heap.size≠b by omega) (.int .i32 c) (i:=1)).below ag;have ae:=zA4 (zA8 av.o (ZN b) (Rw.grown_set b 1 (.int .i32 c))) ag (Za _);have aa:=(aj.o.grown (Rw.grown_set b 1 (.int .i32 c)) (by intro q hq;cases hq;exact ai.not (by decide))).below ag;have b8:=(dc.o.grown (Rw.grown_set b 1 (.int .i32 c)) (by intro q hq;cases hq;exact ai.not (by decide))).below ag;have ez:w4.heap.size≤w5.heap.size:=Zh (KeepsWalks.setCell w4 ⟨b,1,none⟩ (.int .i32 c)).size ag.size;have ah:Below b w w5:=(bm.o.setCell (p:=⟨b,1,none⟩) (Za _) (.int .i32 c)).trans (ag.mono (by have:=(KeepsWalks.setCell w4 ⟨b,1,none⟩ (.int .i32 c)).size;omega));obtain⟨s1,s2,s3,s4,s5,s6⟩:=af.three;obtain⟨t1,t2,t3,t4,t5,t6⟩:=dm.three;have en:w2.heap.size<w5.heap.size:=dm.lt;have cu:b<w5.heap.size:=af.lt;have bh:=(ae.alloc (.cells #[.int .i32 c,.int .i64 k,.slice Am m.length cm] 109)).drew;have dk:=hy' (zCa (w:=(w5.alloc (.cells #[.int .i32 c,.int .i64 k,.slice Am m.length cm] 109)).drew) (A:=some ⟨w5.heap.size,0,none⟩) (xs:=[.int .i32 c,.int .i64 k,.slice Am m.length cm]) rfl 109 (0,0) (ZV w5 _));have hne:=zBi ae b (ZN b);have ed:b+1≤(w5.alloc (.cells #[.int .i32 c,.int .i64 k,.slice Am m.length cm] 109)).drew.heap.size:=by simp;omega
    have cc:Rw.At (w5.alloc (.cells #[.int .i32 c,.int .i64 k,.slice Am m.length cm] 109)).drew b 158 [v,.int .i32 c,.string ⟨o.toArray⟩]:=af.alloc _;have ay:=hy' bh;have bk:=hy' aa;have cw:=hy' b8;have a6:=hy' ah;have ej:=hy' hne;clear ae bh aa b8 ah ag p1 p2 p3 p4 p5 p6 r1 r2 r3 r4 r5 r6 hne;go_wp2_with fail;go_region_law ((refine zG8 _ (by rfl) _ _ _ (by rfl) (b+1) 109 j0 _ 3 40 underlying91 hj0 ek ec eb rfl (by omega) _ out.length _ (by rfl) ay.o _ (some ⟨w5.heap.size,0,none⟩) 1 1 [.int .i32 c,.int .i64 k,.slice Am m.length cm] (by rfl) (by rfl) dk.out (by simp[Value.oneCell']) (by simp only[maxLen];omega) (by omega) ed ?_;intro v1 w6 bi ei aw;have ba:=cc.grown aw ej.o;obtain⟨z1,z2,z3,z4,z5,z6⟩:=ba.three;obtain⟨A6,c6,rfl⟩:=zA3 bi))
    all_goals
     go_wp2_with fail;go_ret;have ho:=HO.o;simp only[ZL,Yc]at ho;subst ho;have bz:Below w5.heap.size w5 (w5.alloc (.cells #[.int .i32 c,.int .i64 k,.slice Am m.length cm] 109)).drew:=((Zc _ _).alloc (Za _) _).drew;have e1:=((bk.o.below bz).grown aw (zAy ay.o (by decide))).grown (Rw.grown_set b 0 (.slice A6 (out.length+1) c6)) (by intro q hq;cases hq;exact ba.not (by decide));have e2:=((cw.o.below bz).grown aw (zAy ay.o (by decide))).grown (Rw.grown_set b 0 (.slice A6 (out.length+1) c6)) (by intro q hq;cases hq;exact ba.not (by decide));have e3:=zA8 bi (ZN b) (Rw.grown_set b 0 (.slice A6 (out.length+1) c6));refine⟨rfl,⟨.slice A6 (out.length+1) c6,ads++[(Am,cm)],ba.set 0 _,?_,by simp[has],e1.app has e2⟩,?_⟩
     · show World.ownsRow _ _ _ _ _ (out++[(c,k,m)]).length (Rw.fl (out++[(c,k,m)]) (ads++[(Am,cm)]));rw[Rw.fl_app out ads (c,k,m) (Am,cm) has,Zd];exact e3
     exact ((a6.o.trans (bz.mono (Z4 cu))).trans (ei.mono (ZW b))).setCell (p:=⟨b,0,none⟩) (Za _) _
  have ho:=HO.o;simp only[Yv]at ho;subst ho;have HT:=HQ.o;rcases bc with _|_
  · go_wp2_with (first|(go_at_call 39;refine (hU _).mono ?_;rintro e w5 ⟨rfl,rfl⟩)|fail);refine (b4 _).mono ?_;rintro e dt ⟨rfl,bu⟩;have ar:=ai.below bu;have b2:=cr.below bu;have bs:=hy' (zA4 av.o bu (Za _));have a8:=hy' (aj.o.below bu);have ch:=hy' (bm.o.trans (bu.mono (Z4 ai.lt)));have dr:w2.heap.size<dt.heap.size:=b2.lt;clear p1 p2 p3 p4 p5 p6 r1 r2 r3 r4 r5 r6 bu;obtain⟨p1,p2,p3,p4,p5,p6⟩:=ar.three;obtain⟨r1,r2,r3,r4,r5,r6⟩:=b2.three;go_wp2_with fail;refine (b4 _).mono ?_;rintro e w5 ⟨rfl,ag⟩;have af:=(ar.set 1 (.int .i32 c)).below ag;simp only[ZC,ZB]at af;have ae:=zA4 (zA8 bs.o (ZN b) (Rw.grown_set b 1 (.int .i32 c))) ag (Za _);have aa:=(a8.o.grown (Rw.grown_set b 1 (.int .i32 c)) (by intro q hq;cases hq;exact ar.not (by decide))).below ag;have ah:Below b w w5:=(ch.o.setCell (p:=⟨b,1,none⟩) (Za _) (.int .i32 c)).trans (ag.mono (by have:=(KeepsWalks.setCell dt ⟨b,1,none⟩ (.int .i32 c)).size;omega));have bl:=hy' (show zNA w5 b (out,c,o) from ⟨v,ads,af,ae,has,aa⟩);have a6:=hy' ah;clear af ae aa ah ag;go_wp2_with fail;go_ret;exact⟨rfl,bl.o,a6.o⟩
  go_wp2_with (first|(go_at_call 39;refine (hU _).mono ?_;rintro e w5 ⟨rfl,rfl⟩)|fail);refine (b4 _).mono ?_;rintro e w5 ⟨rfl,ag⟩;have af:=(ai.set 1 (.int .i32 c)).below ag;simp only[ZC,ZB]at af;have ae:=zA4 (zA8 av.o (ZN b) (Rw.grown_set b 1 (.int .i32 c))) ag (Za _);have aa:=(aj.o.grown (Rw.grown_set b 1 (.int .i32 c)) (by intro q hq;cases hq;exact ai.not (by decide))).below ag;have ah:Below b w w5:=(bm.o.setCell (p:=⟨b,1,none⟩) (Za _) (.int .i32 c)).trans (ag.mono (by have:=(KeepsWalks.setCell w4 ⟨b,1,none⟩ (.int .i32 c)).size;omega));have bl:=hy' (show zNA w5 b (out,c,o) from ⟨v,ads,af,ae,has,aa⟩);have a6:=hy' ah;clear af ae aa ah ag;go_wp2_with fail;go_ret;exact⟨rfl,bl.o,a6.o⟩
theorem Rw.steps_take {aa ae st:Rw.St} {L:List (List UInt8)} {k:Nat} {x:List UInt8} (h:Rw.steps aa L=some ae) (hx:L[k]?=some x) (hs:Rw.steps aa (L.take k)=some st) :
 ∃st',Rw.step st x=some st'∧Rw.steps aa (L.take (k+1))=some st':=by
 have hk:=(List.getElem?_eq_some_iff.1 hx).1
 have e:L.take k++x::L.drop (k+1)=L:=by
  have:=ZE k L;rw[ZR hk]at this;rw[Zb hk,Zg]at hx;rw[hx]at this;exact this
 rw[←e,Rw.steps_app,hs,Zy,Rw.steps]at h;rcases hst:Rw.step st x with _|st'
 · rw[hst]at h;cases h
 refine⟨st',rfl,?_⟩;rw[ZA,hx,Rw.steps_app,hs];show Rw.steps st [x]=some st';rw[Rw.steps,hst];rfl
theorem Rw.step_len {st st':Rw.St} {x:List UInt8} (h:Rw.step st x=some st'):st'.1.length≤st.1.length+1:=by
 obtain⟨r,o,_,_,_,_,rfl⟩:=zHw h;show (if Rw.quiet r=true then st.1 else st.1++[r]).length≤_;split
 · omega
 simp
theorem Rw.steps_len:∀(L:List (List UInt8)) {st st':Rw.St},Rw.steps st L=some st'→st'.1.length≤st.1.length+L.length
 | [],st,st',h=>by
   rw[Rw.steps,Zg]at h;subst h;simp
 | x::L,st,st',h=>by
   rw[Rw.steps]at h;rcases hs:Rw.step st x with _|s
   · rw[hs]at h;cases h
   rw[hs,Zy]at h;have h1:=Rw.step_len hs;have h2:=Rw.steps_len L h;simp;omega
def zPn (b:Nat) (st:Rw.St) (w:World) (e:Ending) (w':World):Prop:=e=.returned (.tuple #[.int .i64 0,.string ⟨#[]⟩])∧zNA w' b st∧Below b w w'
def Rw.Inv (w:World) (b:Nat) (aa:Rw.St) (L:List (List UInt8)) (k:Nat) (wr:World):Prop:=∃st,Rw.steps aa (L.take k)=some st∧zNA wr b st∧Below b w wr
theorem zNB (b:Nat) (af ap:Rw.St) (L:List (List UInt8)) (A:Option Addr) (n cp:Nat) (w0 w:World) (hL:Rw.Laid w0) (h0:w0.heap.size≤b) (aw:Below w0.heap.size w0 w) (hI:zNA w b af) (hlen:af.1.length=0)
 (av:L.length=n) (hn:n≤100000) (hl:∀x∈L,x.length≤1000) (hA:Sl w b A (L.map fun x=>Value.string ⟨x.toArray⟩)) (ba:b<w.heap.size)
 (au:Rw.steps af L=some ap):Calls prog 84 #[.slice A n cp,.func (.func 85) #[.pointer (some ⟨b,0,none⟩)] #[]] w (zPn b ap w):=by
 have HL:=hy' hl;have HN:=hy' av;have az:=hy' au;have HB:=hy' aw;have H0:=hy' hlen;have HA:=hy' hA;clear hl av au aw hlen hA;go_enter func84,ntmps84;go_wp2_with fail;go_loopw [6,7,8,11] (fun _ _ _ i wr=>∃k:Nat,k≤n∧i=.int .i64 k∧Rw.Inv w b af L k wr) (fun _ _ _ i _=>n-(intOf i).toNat)
 case atStart=>exact⟨0,ZG _,rfl,af,rfl,hI,Zc _ _⟩
 obtain⟨k,hk,rfl,st,hs,hR,aa⟩:=hrel
 by_cases hlt:k<n
 · obtain⟨x,hx⟩:∃x,L[k]?=some x:=⟨_,Zb (by rw[HN.o];exact hlt)⟩;obtain⟨st',h1,h2⟩:=Rw.steps_take az.o hx hs;obtain⟨ab,ao,rfl,a6,aq⟩:=HA.o (by rw[Ze,HN.o];omega);have hc:=aq k (by rw[Ze,HN.o];exact hlt);rw[Zw,hx,Zx,←(zAP aa).1 _ _ a6]at hc;have ax:=HL.o x (Zk hx);obtain⟨bx,ag⟩:∃bx:ByteArray,⟨x.toArray⟩=bx:=⟨_,rfl⟩;rw[ag]at hc;have a1:=Rw.steps_len _ hs;rw[H0.o,Zr]at a1;have ae:=fun W (e:W=wr)=>Rw.line_any b st st' bx w0 W hL h0 (by rw[e];exact HB.o.trans (aa.mono h0)) (by rw[e];exact hR) (by rw[←ag];show x.toArray.size≤_;simpa using ax) (by omega) (by rw[←ag];exact h1)
   have HX:=hy' h2;have ai:=hy' aa;have a7:(k:Int)<n:=by omega
   clear aq hx hs hR h1 h2 aa ag a1 ax;go_wp2_with fail;refine (ae _ rfl).mono ?_;rintro e w2 ⟨rfl,ar,ay⟩;have aj:=hy' ar;have ak:=hy' ay;clear ar ay ae;go_wp2_with fail;exact⟨⟨k+1,by omega,by go_num,st',HX.o,aj.o,ai.o.trans ak.o⟩,by simp[intOf];omega⟩
 obtain rfl:k=n:=by omega
 have a8:¬(k:Int)<k:=by omega
 have ah:st=ap:=by
  rw[Zi (by rw[HN.o];exact Za _),az.o,Zg]at hs;exact hs.symm
 subst ah;have aj:=hy' hR;have ak:=hy' aa;clear hs hR aa;go_wp2_with fail;go_ret2;exact⟨rfl,aj.o,ak.o⟩
def Rw.RetParse (rs:List Rw.Row) (w:World) (e:Ending) (w':World):Prop :=
 ∃A c,e=.returned (.tuple #[.slice A rs.length c,.nilIface])∧Rw.Tab w' A rs∧Below w.heap.size w w'
theorem zKS {s:List UInt8} {rs:List Rw.Row} (h:Rw.parse s=some rs):(zAM [] s).all zC8=true∧(zAM [] s).length≤40000∧∃c,Rw.steps ([],-1,[]) (zAM [] s)=some (rs,c,[]):=by
 unfold Rw.parse at h;split at h
 · rename_i h0;obtain⟨h0,h1⟩:=h0;refine⟨h0,h1,?_⟩;rcases hs:Rw.steps ([],-1,[]) (zAM [] s) with _|⟨aa,c,o⟩
   · rw[hs]at h;cases h
   rw[hs,Zy]at h;split at h
   · rename_i ho;simp only at ho;subst ho;simp only[Zg]at h;subst h;exact⟨c,rfl⟩
   cases h
 cases h
theorem Rw.parse_any (s:ByteArray) (hs:s.size≤1000000) (rs:List Rw.Row) (hp:Rw.parse s.data.toList=some rs) (w:World) (hL:Rw.Laid w) :
 Calls prog 49 #[.string s] w (Rw.RetParse rs w):=by
 obtain⟨ai,ap,cN,ah⟩:=zKS hp;have aj:=zHu s hs ai
 have hl:∀x∈zAM [] s.data.toList,x.length≤1000:=fun x hx=>by
  rw[Yf]at ai;have:=ai x hx;unfold zC8 at this;rw[Zs,Zm]at this;exact this.1
 obtain⟨L,aq⟩:∃L,zAM [] s.data.toList=L:=⟨_,rfl⟩;rw[aq]at ah aj ap hl;have ay:=Rw.steps_len _ ah;simp only[Z0,Z1]at ay;have az:=hy' ah;have aw:=hy' hl;clear ai hp aq ah hl;go_enter func49,ntmps49;go_wp2_with fail;refine (aj _).mono ?_;rintro e w1 ⟨A,c,rfl,hA,ak⟩;have a1:=hL.next ak;have hmx:¬(40000:Int)<(L.length:Int):=by omega
 have af:=Rw.At.new w1 158 [.slice none 0 0,.int .i32 (-1),.string ⟨#[]⟩]
 have av:=fun W (e:W=w1.alloc (.cells #[.slice none 0 0,.int .i32 (-1),.string ⟨#[]⟩] 158))=>zNB w1.heap.size ([],-1,[]) (rs,cN,[]) L A L.length c w1 W a1 (Za _)
  (by rw[e];exact (Zc _ _).alloc (Za _) _) (by rw[e];exact⟨.slice none 0 0,[],af,ZI _ _ _ _,rfl,fun i r a h=>by simp at h⟩) rfl rfl (by omega) aw.o (by rw[e];exact hA.below ((Zc _ _).alloc (Za _) _) (Za _)) (by rw[e];simp) az.o
 have ar:=hy' ak;clear hA ak aj af;go_wp2_with fail;refine (av _ rfl).mono ?_;rintro e w2 ⟨rfl,⟨v,ads,af,ae,has,aa⟩,au⟩;simp only at af ae has aa;obtain⟨Av,cv,rfl⟩:=zA3 ae;obtain⟨d1,d2,d3,d4,d5,d6⟩:=af.three;have ao:=hy' ae;have ag:=hy' aa;have ax:=hy' au;clear ae aa au av;go_wp2_with fail;go_ret2;exact⟨Av,cv,rfl,⟨ads,has,Slt.of_own ao.o,ag.o⟩,ar.o.trans ((((Zc w1.heap.size w1).alloc (Za _) _).trans ax.o).mono ar.o.size)⟩
end
section
open Go.RowKit Go.Stop
def Ex.line (seen:List Int) (l:List UInt8):Option (List Int) :=
 if zBu l=[] then some seen else (zAE (zBu l)).bind fun c=>if C.isC c=true∧c∉seen then some (seen++[c]) else none
def Ex.steps:List Int→List (List UInt8)→Option (List Int)
 | seen,[]=>some seen
 | seen,l::r=>(Ex.line seen l).bind fun s=>Ex.steps s r
def Ex.parse (s:List UInt8):Option (List Int):=if (zAM [] s).all zC8=true∧(zAM [] s).length≤100000 then Ex.steps [] (zAM [] s) else none
theorem Ex.steps_app:∀(a b:List (List UInt8)) (s:List Int),Ex.steps s (a++b)=(Ex.steps s a).bind fun s'=>Ex.steps s' b
 | [],b,s=>rfl
 | l::a,b,s=>by
   rw[Zo,Ex.steps,Ex.steps];rcases Ex.line s l with _|s'
   · rfl
   exact Ex.steps_app a b s'
theorem Ex.steps_take {s0 sf s:List Int} {L:List (List UInt8)} {k:Nat} {x:List UInt8} (h:Ex.steps s0 L=some sf) (hx:L[k]?=some x) (hs:Ex.steps s0 (L.take k)=some s) :
 ∃s',Ex.line s x=some s'∧Ex.steps s0 (L.take (k+1))=some s':=by
 have hk:=(List.getElem?_eq_some_iff.1 hx).1
 have e:L.take k++x::L.drop (k+1)=L:=by
  have:=ZE k L;rw[ZR hk]at this;rw[Zb hk,Zg]at hx;rw[hx]at this;exact this
 rw[←e,Ex.steps_app,hs,Zy,Ex.steps]at h;rcases hst:Ex.line s x with _|s'
 · rw[hst]at h;cases h
 refine⟨s',rfl,?_⟩;rw[ZA,hx,Ex.steps_app,hs];show Ex.steps s [x]=some s';rw[Ex.steps,hst];rfl
theorem zHx {s s':List Int} {l:List UInt8} (h:Ex.line s l=some s'):(zBu l=[]∧s'=s)∨∃c,zBu l≠[]∧zAE (zBu l)=some c∧C.isC c=true∧c∉s∧s'=s++[c]:=by
 unfold Ex.line at h;split at h
 · rename_i h0;simp only[Zg]at h;exact .inl ⟨h0,h.symm⟩
 rename_i h0;rcases hc:zAE (zBu l) with _|c
 · rw[hc]at h;cases h
 rw[hc,Zy]at h;split at h
 · rename_i h1;simp only[Zg]at h;exact .inr ⟨c,h0,rfl,h1.1,h1.2,h.symm⟩
 cases h
theorem Ex.steps_len:∀(L:List (List UInt8)) {s s':List Int},Ex.steps s L=some s'→s'.length≤s.length+L.length
 | [],s,s',h=>by
   rw[Ex.steps,Zg]at h;subst h;simp
 | x::L,s,s',h=>by
   rw[Ex.steps]at h;rcases hs:Ex.line s x with _|q
   · rw[hs]at h;cases h
   rw[hs,Zy]at h;have h2:=Ex.steps_len L h;rcases zHx hs with ⟨_,rfl⟩|⟨c,_,_,_,_,rfl⟩
   · simp;omega
   simp at h2 ⊢;omega
theorem zNC (a:List UInt8) (h:(35:UInt8)∉a):(Lib.cut a [35]).1=a:=by
 have:=zNo 35 a;rw[zCg 35 a h,Ka,Zg]at this;exact this.symm
theorem zND (i:Nat) (t:List UInt8) (x y:UInt8) (m:List UInt8) (ht:t=x::m) (hx:x≠32) (hy:t.getLast?=some y) (aa:y≠32):∀j,Lib.trimB (List.replicate i 32++(t++List.replicate j 32)) 32=t:=by
 intro j;rw[zEM]
 have h1:Lib.trimLeftB (List.replicate i 32++(t++List.replicate j 32)) 32=t++List.replicate j 32:=by
  unfold Lib.trimLeftB
  induction i with
  | zero=>rw[ht];simp[Yy,hx]
  | succ i ih=>rw[List.replicate_succ,List.cons_append,List.dropWhile_cons];simpa using ih
 rw[h1]
 induction j with
 | zero =>
   rcases YZ t with h|⟨q,z,h⟩
   · rw[h]at hy;cases hy
   rw[Y0]at h;rw[h,Qp]at hy;simp at hy;subst hy;rw[Jz,Z3,h];exact zKJ 32 q z aa
 | succ j ih =>
   rw[List.replicate_succ',←Zz,zKI]
   exact ih (by
    unfold Lib.trimLeftB;clear h1 ih
    induction i with
    | zero=>rw[ht];simp[Yy,hx]
    | succ i ih=>rw[List.replicate_succ,List.cons_append,List.dropWhile_cons];simpa using ih)
theorem zMf (n:Nat):∃x m y,Fi.text n=x::m∧x≠32∧(Fi.text n).getLast?=some y∧y≠32:=by
 rcases h:Fi.text n with _|⟨x,m⟩
 · exact absurd h (zGU n)
 have hb:=zC9 n;rw[h]at hb;obtain⟨y,hy⟩:∃y,(x::m).getLast?=some y:=⟨_,List.getLast?_eq_some_getLast (by simp)⟩;refine⟨x,m,y,rfl,?_,hy,?_⟩
 · rintro rfl;have:=(hb 32 Zq).1;exact absurd this (by decide)
 rintro rfl;have:=(hb 32 (Qq hy)).1;exact absurd this (by decide)
theorem zMg (n:Nat):(35:UInt8)∉Fi.text n:=zFg n 35 (.inl (by decide))
def Ex.ln (p:List UInt8) (i:Nat) (c:Int):List UInt8:=(if i%2=0 then [32,32] else [])++(Fi.text c.toNat++([32,32,35]++p))
def Ex.body (p:List UInt8):Nat→List Int→List (List UInt8)
 | _,[]=>[]
 | i,c::r=>Ex.ln p i c::[32,32,32]::Ex.body p (i+1) r
def Ex.all (p:List UInt8) (l:List Int):List (List UInt8):=([35,32]++p)::[]::Ex.body p 0 l
theorem zR4 {x:List UInt8} (h1:x.length≤1000) (h2:∀b∈x,32≤b.toNat∧b.toNat≤126):zC8 x=true:=by
 unfold zC8 zC7;rw[Zs,Zm,Yf];refine⟨h1,fun b hb=>?_⟩;rw[Zs,Zm,Zm];exact h2 b hb
theorem zOi {x:List UInt8} (h:zC8 x=true):(10:UInt8)∉x:=fun hm=>by
 unfold zC8 zC7 at h;rw[Zs,Yf]at h;exact absurd (h.2 10 hm) (by decide)
end
end Go.Proofs.YthngjlllojiacaaGreatDoor
