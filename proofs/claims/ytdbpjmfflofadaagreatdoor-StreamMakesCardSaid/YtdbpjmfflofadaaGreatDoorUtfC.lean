/- Small laws that all walks of this seat use: slices that are read, slices that are handed back, an append of one. -/
import Derived.Test.YtdbpjmfflofadaaGreatDoorAl1
import Derived.Test.YtdbpjmfflofadaaGreatDoorRows
import Derived.BigQuiet
import Derived.Deep.RegionHeld3
set_option maxRecDepth 100000
set_option maxHeartbeats 400000
set_option linter.unusedVariables false
set_option linter.unusedSimpArgs false
namespace Go.Proofs.YtdbpjmfflofadaaGreatDoor
open Go.Proofs.Tryz
section
open Go.RowKit
def Hy (p:Prop):Prop:=p
theorem Hy.o {p:Prop} (h:Hy p):p:=h
theorem Hy.out {p:Prop} (h:Hy p):p:=h
theorem hy' {p:Prop} (h:p):Hy p:=h
theorem zCb {k:IntKind} {a b:Int} (h:a=b):Ending.returned (.int k a)=.returned (.int k b):=by rw[h]
theorem zCc {a b:Bool} (h:a=b):Ending.returned (.bool a)=.returned (.bool b):=by rw[h]
theorem zDR {k:IntKind} {a a':Int} {x x':Bool} (h:(a,x)=(a',x')) :
 Ending.returned (.tuple #[.int k a,.bool x])=.returned (.tuple #[.int k a',.bool x']):=by
 simp only[YA]at h;obtain⟨rfl,rfl⟩:=h;rfl
theorem zH0 {k k':IntKind} {a a' b b':Int} {x x':Bool} (h:(a,b,x)=(a',b',x')) :
 Ending.returned (.tuple #[.int k a,.int k' b,.bool x])=.returned (.tuple #[.int k a',.int k' b',.bool x']):=by
 simp only[YA]at h;obtain⟨rfl,rfl,rfl⟩:=h;rfl
theorem zAU {B:Nat} {W w1:World} (hb:Below B W w1):(∀b o,b<B→w1.cell? ⟨b,o,none⟩=W.cell? ⟨b,o,none⟩)∧(∀b o,b<B→w1.frozen? ⟨b,o,none⟩=W.frozen? ⟨b,o,none⟩) :=
 ⟨fun b o h=>hb.cell (p:=⟨b,o,none⟩) h,fun b o h=>hb.frozen (p:=⟨b,o,none⟩) h⟩
def Sl (w:World) (B:Nat) (A:Option Addr) (xs:List Value):Prop :=
 0<xs.length→∃b o,A=some ⟨b,o,none⟩∧b<B∧∀i,i<xs.length→w.cell? ⟨b,o+i,none⟩=xs[i]?
theorem Sl.nil (w:World) (B:Nat) (A:Option Addr):Sl w B A []:=fun h=>absurd h (by simp)
theorem Sl.below {w w':World} {B B':Nat} {A:Option Addr} {xs:List Value} (h:Sl w B A xs) (hb:Below B w w') (hB:B≤B'):Sl w' B' A xs:=by
 intro hx;obtain⟨b,o,hA,aa,hc⟩:=h hx;exact⟨b,o,hA,by omega,fun i hi=>by rw[←hc i hi];exact hb.cell (p:=⟨b,o+i,none⟩) aa⟩
theorem Sl.belowN {w w':World} {B B0 B':Nat} {A:Option Addr} {xs:List Value} (h:Sl w B A xs) (hb:Below B0 w w') (h0:B≤B0) (hB:B≤B'):Sl w' B' A xs :=
 h.below (hb.mono h0) hB
theorem Sl.lit {w:World} {A:Option Addr} {b:Nat} {xs:List Value} (hA:A=some ⟨b,0,none⟩) (t:TypeId) (z:Nat × Nat) (hb:w.heap[b]?=some (.cells xs.toArray t z)):Sl w w.heap.size A xs:=by
 intro _
 have aa:b<w.heap.size:=by
  rcases Z3 b w.heap.size with aa|hge
  · exact aa
  rw[YO hge]at hb;cases hb
 refine⟨b,0,hA,aa,fun i hi=>?_⟩;simp[World.cell?,hb]
theorem Sl.of_own {w:World} {base:Nat} {e:TypeId} {size n c:Nat} {A:Option Addr} {xs:List Value} (h:w.ownsRow base e size (.slice A n c) n xs):Sl w w.heap.size A xs:=by
 intro hx;obtain⟨hl,h⟩:=h;rcases h with ⟨hv,hn⟩|⟨g,cap,af,hv,_,hg,_,_,_,aa⟩
 · subst hn;simp at hl;rw[hl]at hx;simp at hx
 simp only[ZX]at hv;obtain⟨hA,_,_⟩:=hv
 have ae:g<w.heap.size:=by
  rcases Z3 g w.heap.size with ae|hge
  · exact ae
  rw[YO hge]at hg;cases hg
 refine⟨g,0,hA,ae,fun i hi=>?_⟩;rw[←aa];simp[World.cell?,hg,Yv,←hl,hi]
theorem zCF {w:World} {g:Nat} {o:Obj} (h:w.heap[g]?=some o):g<w.heap.size:=by
 rcases Z3 g w.heap.size with aa|hge
 · exact aa
 rw[YO hge]at h;cases h
theorem zA6 {w w':World} {base B:Nat} {e:TypeId} {size n:Nat} {v:Value} {xs:List Value} (h:w.ownsRow base e size v n xs) (hb:Below B w w') (hB:w.heap.size≤B):w'.ownsRow base e size v n xs:=by
 obtain⟨h1,h2⟩:=h;refine⟨h1,?_⟩;rcases h2 with h2|⟨g,cap,aa,hv,hg,hh,r⟩
 · exact .inl h2
 exact .inr ⟨g,cap,aa,hv,hg,(hb.block g (by have:=zCF hh;omega)).trans hh,r⟩
def zD1 (k:IntKind) (l:List Int) (w:World) (e:Ending) (w':World):Prop :=
 ∃A c,e=.returned (.slice A l.length c)∧Sl w' w'.heap.size A (l.map (Value.int k))∧Below w.heap.size w w'
theorem zA3 {w:World} {base:Nat} {e:TypeId} {size n:Nat} {v:Value} {xs:List Value} (h:w.ownsRow base e size v n xs):∃A c,v=.slice A n c:=by
 rcases h.2 with ⟨rfl,rfl⟩|⟨g,cap,aa,hv,_⟩
 · exact⟨none,0,rfl⟩
 exact⟨_,_,hv⟩
section
variable {P:Program}
theorem zAg {ops:Array Oper} {rest:List Oper} {o:Oper} {a:Act} {Q:Exit→Act→World→Prop} (w:World) (ah:o.guard=none) (s x:Operand) (t:TypeId)
 (ho:o.op=.call { callee:=.builtin .append,args := #[s,x],argTypes := #[t,t] })
 (base:Nat) (e:TypeId) (i:TypeInfo) (z:Value) (bytes:Nat) (ht:P.underlying t=some (.slice e)) (hi:P.info? e=some i) (hz:i.zero=some z)
 (ag:i.size=1) (ak:i.bytes=bytes) (ai:z.cells.size=1)
 (v:Value) (n:Nat) (xs:List Value) (hs:a.eval s=v) (ae:w.ownsRow base e 1 v n xs)
 (u:Value) (h1:u.oneCell'=true) (hx:a.eval x=.slice (some ⟨w.heap.size,0,none⟩) 1 1)
 (aj:n+1≤maxLen) (aa:(n+1)*bytes≤140737488355328) (af:base≤w.heap.size)
 (h:∀v' w',w'.ownsRow base e 1 v' (n+1) (xs++[u])→Below base w w'→wpList P ops Q rest (a.put o.dst v') w') :
 wpList P ops Q (o::rest) a (w.alloc (.cells #[u] e)):=by
 refine wpList_append_own (P:=P) _ ah s x t ho base e i z 1 bytes ht hi hz ag ak ai (by omega) v n xs hs (ae.alloc _) ⟨w.heap.size,0,none⟩ 1 1 [u] hx rfl ?_ ?_ aj aa (by simp;omega) ?_
 · exact J4 _ _ _
 · intro q hq;simp only[ZE]at hq;subst hq;exact h1
 intro v' w' h2 h3 _;refine h v' w' h2 ?_;refine (((Zd _ _).alloc af _).grown h3 (by simp;omega) ?_);intro k hk;exact (ae.lt k hk).1
end
theorem zG1:(prog.info? 3).map (fun i=>(i.zero,i.size,i.bytes))=some (some (.int .i64 0),1,8):=by kernel_rfl
theorem zCv:(prog.info? 21).map (fun i=>(i.zero,i.size,i.bytes))=some (some (.int .i32 0),1,4):=by kernel_rfl
theorem infoByte:(prog.info? 5).map (fun i=>(i.zero,i.size,i.bytes))=some (some (.int .u8 0),1,1):=by kernel_rfl
end
def U.isC (c:Int):Bool:=decide (0≤c∧c≤1114111∧(c<55296∨57343<c))
def zAC (c:Int):Nat:=if U.isC c then (if c<128 then 1 else if c<2048 then 2 else if c<65536 then 3 else 4) else 0
def U.u8 (c:Int):UInt8:=UInt8.ofNat c.toNat
def zAp (c:Int):List UInt8 :=
 if c<128 then [U.u8 c] else if c<2048 then [U.u8 (192+c/64),U.u8 (128+c%64)]
 else if c<65536 then [U.u8 (224+c/4096),U.u8 (128+c/64%64),U.u8 (128+c%64)]
 else [U.u8 (240+c/262144),U.u8 (128+c/4096%64),U.u8 (128+c/64%64),U.u8 (128+c%64)]
def zB7 (l:List UInt8) (i:Nat):Int:=((l.getD i 0).toNat:Int)
def zAd (b:Int):Nat:=if b<128 then 1 else if b<192 then 0 else if b<224 then 2 else if b<240 then 3 else if b<248 then 4 else 0
def zH1:Nat→Int|1=>0|2=>192|3=>224|_=>240
def zAB (l:List UInt8) (n:Nat):Nat→Int|0=>zB7 l 0-zH1 n|i+1=>zAB l n i*64+(zB7 l (i+1)-128)
def zNG (l:List UInt8) (n:Nat):Prop:=∀j,j<n→1≤j→128≤zB7 l j∧zB7 l j<192
instance (l:List UInt8) (n:Nat):Decidable (zNG l n):=by unfold zNG;exact inferInstance
def zAe (l:List UInt8):Option (Int × Nat) :=
 if l=[] then none else
 if zAd (zB7 l 0)=0∨l.length<zAd (zB7 l 0) then none else
 if zNG l (zAd (zB7 l 0))∧zAC (zAB l (zAd (zB7 l 0)) (zAd (zB7 l 0)-1))=zAd (zB7 l 0)
 then some (zAB l (zAd (zB7 l 0)) (zAd (zB7 l 0)-1),zAd (zB7 l 0)) else none
theorem zDK (l:List UInt8) (i:Nat):0≤zB7 l i∧zB7 l i<256:=by
 unfold zB7;have:=(l.getD i 0).toNat_lt;omega
theorem zBl (c:Int) (h0:0≤c) (h1:c<256):((U.u8 c).toNat:Int)=c:=by
 unfold U.u8;rw[Qg];omega
theorem zDL (b:UInt8) (c:Int) (h:c=(b.toNat:Int)):U.u8 c=b:=by
 subst h;unfold U.u8;simp
theorem U.bv0 (b:UInt8) (t:List UInt8):zB7 (b::t) 0=(b.toNat:Int):=rfl
theorem U.isC_iff (c:Int):U.isC c=true↔(0≤c∧c≤1114111∧(c<55296∨57343<c)):=by unfold U.isC;simp
theorem zII (c:Int):0<zAC c↔U.isC c=true:=by unfold zAC;grind
theorem zDS (c:Int) (h:U.isC c=true):(zAp c).length=zAC c:=by
 unfold zAp zAC;rw[if_pos h];grind
theorem zCN (c:Int):zAC c≤4:=by unfold zAC;grind
theorem zCl (c:Int) (hc:U.isC c=true) (l:List UInt8):zAe (zAp c++l)=some (c,(zAp c).length):=by
 have h:=(U.isC_iff c).1 hc;have hw:=zDS c hc
 by_cases h1:c<128
 · have e:zAp c=[U.u8 c]:=by unfold zAp;rw[if_pos h1]
   have hb:zB7 ([U.u8 c]++l) 0=c:=zBl c (by omega) (by omega);have hs:zAd c=1:=by unfold zAd;rw[if_pos h1]
   rw[e]at hw ⊢;unfold zAe;rw[hb,hs,Zk (by simp),Zk (by simp)];have ha:zAB ([U.u8 c]++l) 1 (1-1)=c:=by show zB7 _ 0-0=c;rw[hb];omega
   rw[ha,if_pos ⟨fun j h1 h2=>by omega,by simpa using hw.symm⟩];simp
 by_cases h2:c<2048
 · have e:zAp c=[U.u8 (192+c/64),U.u8 (128+c%64)]:=by unfold zAp;rw[if_neg h1,if_pos h2]
   have hb:zB7 ([U.u8 (192+c/64),U.u8 (128+c%64)]++l) 0=192+c/64:=zBl _ (by omega) (by omega);have aa:zB7 ([U.u8 (192+c/64),U.u8 (128+c%64)]++l) 1=128+c%64:=zBl _ (by omega) (by omega);have hs:zAd (192+c/64)=2:=by unfold zAd;rw[if_neg (by omega),if_neg (by omega),if_pos (by omega)]
   rw[e]at hw ⊢;unfold zAe;rw[hb,hs,Zk (by simp),Zk (by simp)];have ha:zAB ([U.u8 (192+c/64),U.u8 (128+c%64)]++l) 2 (2-1)=c:=by show (zB7 _ 0-192)*64+(zB7 _ 1-128)=c;rw[hb,aa];omega
   rw[ha,Zl ⟨fun j h1 h2=>by
    obtain rfl:j=1:=by omega
    rw[aa];omega,by simpa using hw.symm⟩]
   simp
 by_cases h3:c<65536
 · have e:zAp c=[U.u8 (224+c/4096),U.u8 (128+c/64%64),U.u8 (128+c%64)]:=by unfold zAp;rw[if_neg h1,if_neg h2,if_pos h3]
   generalize hL:[U.u8 (224+c/4096),U.u8 (128+c/64%64),U.u8 (128+c%64)]=L at e;have hb:zB7 (L++l) 0=224+c/4096:=by rw[←hL];exact zBl _ (by omega) (by omega)
   have aa:zB7 (L++l) 1=128+c/64%64:=by rw[←hL];exact zBl _ (by omega) (by omega)
   have ae:zB7 (L++l) 2=128+c%64:=by rw[←hL];exact zBl _ (by omega) (by omega)
   have hs:zAd (224+c/4096)=3:=by unfold zAd;rw[if_neg (by omega),if_neg (by omega),if_neg (by omega),if_pos (by omega)]
   have hl:L.length=3:=by rw[←hL];rfl
   rw[e]at hw ⊢;unfold zAe;rw[hb,hs,Zk (fun h=>by have:=ZR List.length h;simp[hl]at this),Zk (by simp[hl])];have ha:zAB (L++l) 3 (3-1)=c:=by show ((zB7 _ 0-224)*64+(zB7 _ 1-128))*64+(zB7 _ 2-128)=c;rw[hb,aa,ae];omega
   rw[ha,Zl ⟨fun j h1 h2=>by
    have hj:j=1∨j=2:=by omega
    rcases hj with rfl|rfl
    · rw[aa];omega
    rw[ae];omega,by rw[←hw,hl]⟩,hl]
 have e:zAp c=[U.u8 (240+c/262144),U.u8 (128+c/4096%64),U.u8 (128+c/64%64),U.u8 (128+c%64)]:=by unfold zAp;rw[if_neg h1,if_neg h2,if_neg h3]
 generalize hL:[U.u8 (240+c/262144),U.u8 (128+c/4096%64),U.u8 (128+c/64%64),U.u8 (128+c%64)]=L at e;have hb:zB7 (L++l) 0=240+c/262144:=by rw[←hL];exact zBl _ (by omega) (by omega)
 have aa:zB7 (L++l) 1=128+c/4096%64:=by rw[←hL];exact zBl _ (by omega) (by omega)
 have ae:zB7 (L++l) 2=128+c/64%64:=by rw[←hL];exact zBl _ (by omega) (by omega)
 have af:zB7 (L++l) 3=128+c%64:=by rw[←hL];exact zBl _ (by omega) (by omega)
 have hs:zAd (240+c/262144)=4:=by unfold zAd;rw[if_neg (by omega),if_neg (by omega),if_neg (by omega),if_neg (by omega),if_pos (by omega)]
 have hl:L.length=4:=by rw[←hL];rfl
 rw[e]at hw ⊢;unfold zAe;rw[hb,hs,Zk (fun h=>by have:=ZR List.length h;simp[hl]at this),Zk (by simp[hl])]
 have ha:zAB (L++l) 4 (4-1)=c:=by
  show (((zB7 _ 0-240)*64+(zB7 _ 1-128))*64+(zB7 _ 2-128))*64+(zB7 _ 3-128)=c;rw[hb,aa,ae,af];omega
 rw[ha,Zl ⟨fun j h1 h2=>by
  have hj:j=1∨j=2∨j=3:=by omega
  rcases hj with rfl|rfl|rfl
  · rw[aa];omega
  · rw[ae];omega
  rw[af];omega,by rw[←hw,hl]⟩,hl]
theorem zM8 (l:List UInt8) (c:Int) (n:Nat) (h:zAe l=some (c,n)):U.isC c=true∧n=zAC c∧∃t,l=zAp c++t:=by
 unfold zAe at h;split at h
 · cases h
 split at h
 · cases h
 split at h
 rotate_left
 · cases h
 rename_i hl hn hh;obtain⟨ht,hw⟩:=hh;simp only[Zg,YA]at h;obtain⟨h1,h2⟩:=h;rw[h2]at hw hn ht;rw[h2,]at h1;rw[h1]at hw;have hc:U.isC c=true:=(zII c).1 (by omega);have hb:=zDK l 0;refine⟨hc,hw.symm,?_⟩;have ag:=hw;unfold zAC at ag;rw[Zl hc]at ag;have ak:=(U.isC_iff c).1 hc;have aj:=h2;unfold zAd at aj;rcases l with _|⟨b0,t0⟩
 · exact absurd rfl hl
 rw[U.bv0]at *;have ah:n=1∨n=2∨n=3∨n=4:=by have:=zCN c;omega
 rcases ah with rfl|rfl|rfl|rfl
 · refine⟨t0,?_⟩;have ae:(b0.toNat:Int)-0=c:=h1;unfold zAp;rw[Zl (by grind)];rw[zDL b0 c (by omega)];rfl
 · rcases t0 with _|⟨b1,t1⟩
   · simp at hn
   have aa:=ht 1 (by omega) (by omega);have ae:((b0.toNat:Int)-192)*64+((b1.toNat:Int)-128)=c:=h1;change 128≤(b1.toNat:Int)∧(b1.toNat:Int)<192 at aa;refine⟨t1,?_⟩;unfold zAp;rw[Zk (by grind),Zl (by grind)];rw[zDL b0 (192+c/64) (by omega),zDL b1 (128+c%64) (by omega)];rfl
 · rcases t0 with _|⟨b1,t1⟩
   · simp at hn
   rcases t1 with _|⟨b2,t2⟩
   · simp at hn
   have aa:=ht 1 (by omega) (by omega);have af:=ht 2 (by omega) (by omega);have ae:(((b0.toNat:Int)-224)*64+((b1.toNat:Int)-128))*64+((b2.toNat:Int)-128)=c:=h1;change 128≤(b1.toNat:Int)∧(b1.toNat:Int)<192 at aa;change 128≤(b2.toNat:Int)∧(b2.toNat:Int)<192 at af;refine⟨t2,?_⟩;unfold zAp;rw[Zk (by grind),Zk (by grind),Zl (by grind)];rw[zDL b0 (224+c/4096) (by omega),zDL b1 (128+c/64%64) (by omega),zDL b2 (128+c%64) (by omega)];rfl
 rcases t0 with _|⟨b1,t1⟩
 · simp at hn
 rcases t1 with _|⟨b2,t2⟩
 · simp at hn
 rcases t2 with _|⟨b3,t3⟩
 · simp at hn
 have aa:=ht 1 (by omega) (by omega);have af:=ht 2 (by omega) (by omega);have ai:=ht 3 (by omega) (by omega);have ae:((((b0.toNat:Int)-240)*64+((b1.toNat:Int)-128))*64+((b2.toNat:Int)-128))*64+((b3.toNat:Int)-128)=c:=h1;change 128≤(b1.toNat:Int)∧(b1.toNat:Int)<192 at aa;change 128≤(b2.toNat:Int)∧(b2.toNat:Int)<192 at af;change 128≤(b3.toNat:Int)∧(b3.toNat:Int)<192 at ai;refine⟨t3,?_⟩;unfold zAp;rw[Zk (by grind),Zk (by grind),Zk (by grind)];rw[zDL b0 (240+c/262144) (by omega),zDL b1 (128+c/4096%64) (by omega),zDL b2 (128+c/64%64) (by omega),zDL b3 (128+c%64) (by omega)];rfl
section
open Go.RowKit
def U.row:Array Value := #[.int .u8 0,.int .u8 127,.int .i32 0,.int .u8 192,.int .u8 31,.int .i32 128,.int .u8 224,.int .u8 15,.int .i32 2048,.int .u8 240,.int .u8 7,.int .i32 65536]
def Heads (w:World):Prop:=∃t fr,w.heap[0]?=some (.cells U.row t fr)
theorem Heads.lt {w:World} (h:Heads w):0<w.heap.size:=by
 obtain⟨t,fr,h⟩:=h;rcases Z3 0 w.heap.size with aa|hge
 · exact aa
 rw[YO hge]at h;cases h
theorem Heads.below {w w':World} {B:Nat} (h:Heads w) (hb:Below B w w') (hB:0<B):Heads w':=by
 obtain⟨t,fr,h⟩:=h;exact⟨t,fr,(hb.block _ hB).trans h⟩
theorem Heads.next {w w':World} (h:Heads w) (hb:Below w.heap.size w w'):Heads w':=h.below hb h.lt
theorem Heads.cell {w:World} (h:Heads w) (i:Nat):w.cell? ⟨0,i,none⟩=U.row[i]?:=by
 obtain⟨t,fr,h⟩:=h;simp[World.cell?,h]
theorem zIw (c:Int) (w:World) (h1 : -2147483648≤c) (h2:c≤2147483647) :
 Calls prog 38 #[.int .i32 c] w fun e w'=>e=.returned (.bool (U.isC c))∧w=w':=by
 have hd:∀x:Bool,(x=true↔(0≤c∧c≤1114111∧(c<55296∨57343<c)))→U.isC c=x:=by
  intro x hx;rw[Yx,U.isC_iff,hx]
 have HD:=hy' hd;clear hd;go_enter func38,ntmps38;go_wp2
 all_goals
  go_ret;refine⟨zCc (HD.o _ ?_).symm,rfl⟩;simp
  try omega
theorem zTx:∀n:Fin 256,bits BinOp.andNot IntKind.u8 ((n.val:Nat):Int) 127=(if ((n.val:Nat):Int)<128 then 0 else 128):=by decide +kernel
theorem zTy:∀n:Fin 256,(bits BinOp.andNot IntKind.u8 ((n.val:Nat):Int) 31=192)↔(192≤((n.val:Nat):Int)∧((n.val:Nat):Int)<224):=by decide +kernel
theorem U.and2:∀n:Fin 256,(bits BinOp.andNot IntKind.u8 ((n.val:Nat):Int) 15=224)↔(224≤((n.val:Nat):Int)∧((n.val:Nat):Int)<240):=by decide +kernel
theorem zTz:∀n:Fin 256,(bits BinOp.andNot IntKind.u8 ((n.val:Nat):Int) 7=240)↔(240≤((n.val:Nat):Int)∧((n.val:Nat):Int)<248):=by decide +kernel
theorem zTA (b:Int) (h1:0≤b) (h2:b<256):(bits BinOp.andNot IntKind.u8 b 127 == 0)=decide (b<128)∧(bits BinOp.andNot IntKind.u8 b 31 == 192)=decide (192≤b∧b<224) ∧
 (bits BinOp.andNot IntKind.u8 b 15 == 224)=decide (224≤b∧b<240)∧(bits BinOp.andNot IntKind.u8 b 7 == 240)=decide (240≤b∧b<248):=by
 obtain⟨n,rfl⟩:=YJ h1;have hn:n<256:=by omega
 refine⟨?_,?_,?_,?_⟩
 · have:=zTx ⟨n,hn⟩;simp only[]at this;rw[this]
   by_cases h:(n:Int)<128 <;> simp[h]
 · rw[Yx,YV,Zo];exact zTy ⟨n,hn⟩
 · rw[Yx,YV,Zo];exact U.and2 ⟨n,hn⟩
 rw[Yx,YV,Zo];exact zTz ⟨n,hn⟩
theorem zCO (b:Int) (w:World) (h1:0≤b) (h2:b<256) (hH:Heads w) :
 Calls prog 99 #[.int .u8 b] w fun e w'=>e=.returned (.int .i64 (zAd b))∧Below w.heap.size w w':=by
 obtain⟨e0,e1,e2,e3⟩:=zTA b h1 h2;obtain⟨t,fr,hg⟩:=hH;have i0:∀w,(Instr.index 191 (.agg U.row) (.int .i64 0)).run prog w=.ok (.agg #[.int .u8 0,.int .u8 127,.int .i32 0]) w:=fun _=>by kernel_rfl
 have i1:∀w,(Instr.index 191 (.agg U.row) (.int .i64 1)).run prog w=.ok (.agg #[.int .u8 192,.int .u8 31,.int .i32 128]) w:=fun _=>by kernel_rfl
 have i2:∀w,(Instr.index 191 (.agg U.row) (.int .i64 2)).run prog w=.ok (.agg #[.int .u8 224,.int .u8 15,.int .i32 2048]) w:=fun _=>by kernel_rfl
 have i3:∀w,(Instr.index 191 (.agg U.row) (.int .i64 3)).run prog w=.ok (.agg #[.int .u8 240,.int .u8 7,.int .i32 65536]) w:=fun _=>by kernel_rfl
 go_enter func99,ntmps99;go_wp2_with (refine wpList_load_row rfl _ _ rfl 0 rfl t _ fr _ hg underlying191 rfl (by kernel_rfl) ?_);clear hg;go_loopw [6] (fun i wr=>Below w.heap.size w wr∧(i=.int .i64 0∨(i=.int .i64 1∧128≤b)∨(i=.int .i64 2∧128≤b∧¬(192≤b∧b<224))∨(i=.int .i64 3∧128≤b∧¬(192≤b∧b<240))∨(i=.int .i64 4∧128≤b∧¬(192≤b∧b<248)))) (fun i _=>4-(intOf i).toNat)
 case atStart=>exact⟨Zd _ _,.inl rfl⟩
 obtain⟨hb,hr⟩:=hrel;have ae:=hb.size;rcases hr with rfl|⟨rfl,hr⟩|⟨rfl,hr,aa⟩|⟨rfl,hr,aa⟩|⟨rfl,hr,aa⟩
 · by_cases hlt:b<128
   · go_wp2;go_ret;exact⟨zCb (by unfold zAd;rw[if_pos hlt];rfl),hb.alloc ae _⟩
   go_wp2;exact⟨⟨hb.alloc ae _,.inr (.inl ⟨rfl,by omega⟩)⟩,by simp[intOf]⟩
 · by_cases hlt:192≤b∧b<224
   · have hd:decide (192≤b∧b<224)=true:=Zs hlt;obtain⟨_,_⟩:=hlt;go_wp2;go_ret;exact⟨zCb (by unfold zAd;rw[if_neg (by omega),if_neg (by omega),if_pos (by omega)];rfl),hb.alloc ae _⟩
   have hd:decide (192≤b∧b<224)=false:=Zp hlt;rw[hd]at e1;have HL:=hy' hlt;clear hd hlt;go_wp2;exact⟨⟨hb.alloc ae _,.inr (.inr (.inl ⟨rfl,hr,HL.o⟩))⟩,by simp[intOf]⟩
 · by_cases hlt:224≤b∧b<240
   · have hd:decide (224≤b∧b<240)=true:=Zs hlt;obtain⟨_,_⟩:=hlt;clear aa;go_wp2;go_ret;exact⟨zCb (by unfold zAd;rw[if_neg (by omega),if_neg (by omega),if_neg (by omega),if_pos (by omega)];rfl),hb.alloc ae _⟩
   have hd:decide (224≤b∧b<240)=false:=Zp hlt;rw[hd]at e2;have HL:=hy' hlt;have HR:=hy' aa;clear hd hlt aa;go_wp2;exact⟨⟨hb.alloc ae _,.inr (.inr (.inr (.inl ⟨rfl,hr,by have h1:=HL.o;have h2:=HR.o;omega⟩)))⟩,by simp[intOf]⟩
 · by_cases hlt:240≤b∧b<248
   · have hd:decide (240≤b∧b<248)=true:=Zs hlt;obtain⟨_,_⟩:=hlt;clear aa;go_wp2;go_ret;exact⟨zCb (by unfold zAd;rw[if_neg (by omega),if_neg (by omega),if_neg (by omega),if_neg (by omega),if_pos (by omega)];rfl),hb.alloc ae _⟩
   have hd:decide (240≤b∧b<248)=false:=Zp hlt;rw[hd]at e3;have HL:=hy' hlt;have HR:=hy' aa;clear hd hlt aa;go_wp2;exact⟨⟨hb.alloc ae _,.inr (.inr (.inr (.inr ⟨rfl,hr,by have h1:=HL.o;have h2:=HR.o;omega⟩)))⟩,by simp[intOf]⟩
 have HR:=hy' aa;clear aa;go_wp2;go_ret;refine⟨zCb ?_,hb⟩;have h1:=HR.o;unfold zAd
 by_cases hb:b<192
 · rw[Zk (by omega),Zl hb];rfl
 rw[Zk (by omega),Zk (by omega),Zk (by omega),Zk (by omega),Zk (by omega)];rfl
theorem zAV (c:Int) (w:World) (h1 : -2147483648≤c) (h2:c≤2147483647) (hH:Heads w) :
 Calls prog 100 #[.int .i32 c] w fun e w'=>e=.returned (.int .i64 (zAC c))∧w=w':=by
 have c1:=hH.cell 5;have c2:=hH.cell 8;have c3:=hH.cell 11;change _=some (Value.int .i32 128) at c1;change _=some (Value.int .i32 2048) at c2;change _=some (Value.int .i32 65536) at c3;clear hH
 by_cases hc:U.isC c=true
 rotate_left
 · have aa:U.isC c=false:=by simpa using hc
   have HC:=hy' hc;clear hc;go_enter func100,ntmps100;go_wp2_with (go_at_call 38;refine (zIw _ _ h1 h2).mono ?_;rintro e w' ⟨rfl,rfl⟩);go_ret;exact⟨zCb (by unfold zAC;rw[if_neg HC.o];rfl),rfl⟩
 have HC:=hy' hc
 have hw:∀n:Nat,n=(if c<128 then 1 else if c<2048 then 2 else if c<65536 then 3 else 4)→zAC c=n:=by
  intro n hn;unfold zAC;rw[Zl HC.o,hn]
 have HW:=hy' hw;clear hw;go_enter func100,ntmps100;go_wp2_with (go_at_call 38;refine (zIw _ _ h1 h2).mono ?_;rintro e w' ⟨rfl,rfl⟩);go_loop [3] (fun n=>n=.int .i64 1∨(n=.int .i64 2∧128≤c)∨(n=.int .i64 3∧2048≤c)∨(n=.int .i64 4∧65536≤c)) (fun n=>5-(intOf n).toNat)
 case atStart=>exact .inl rfl
 rcases hrel with rfl|⟨rfl,hr⟩|⟨rfl,hr⟩|⟨rfl,hr⟩
 · by_cases hlt:128≤c
   · go_wp2;exact⟨.inr (.inl ⟨rfl,hlt⟩),by simp[intOf]⟩
   go_wp2;go_ret;exact⟨zCb (by rw[HW.o 1 (by rw[Zl (by omega)])];rfl),rfl⟩
 · by_cases hlt:2048≤c
   · go_wp2;exact⟨.inr (.inr (.inl ⟨rfl,hlt⟩)),by simp[intOf]⟩
   go_wp2;go_ret;exact⟨zCb (by rw[HW.o 2 (by rw[Zk (by omega),Zl (by omega)])];rfl),rfl⟩
 · by_cases hlt:65536≤c
   · go_wp2;exact⟨.inr (.inr (.inr ⟨rfl,hlt⟩)),by simp[intOf]⟩
   go_wp2;go_ret;exact⟨zCb (by rw[HW.o 3 (by rw[Zk (by omega),Zk (by omega),Zl (by omega)])];rfl),rfl⟩
 go_wp2;go_ret;exact⟨zCb (by rw[HW.o 4 (by rw[Zk (by omega),Zk (by omega),Zk (by omega)])];rfl),rfl⟩
theorem zDp (s:ByteArray) (k:Nat) (h:k<s.size):((s[k].toNat:Nat):Int)=zB7 s.data.toList k:=by
 have h':k<s.data.toList.length:=by simpa using h
 have:s.data.toList.getD k 0=s[k]:=by
  rw[Yz,Zb h'];rfl
 unfold zB7;rw[this]
theorem zL4 (s:ByteArray):s.toList=s.data.toList:=Yq s
theorem zCm (s:ByteArray) (h:0<s.size):s.toList.isEmpty=false:=by
 rw[zL4];rcases hl:s.data.toList with _|⟨a,t⟩
 · have:s.data.toList.length=s.size:=by simp
   rw[hl]at this;simp at this;omega
 rfl
def zAw (l:List UInt8):Int × Nat × Bool:=match zAe l with|some (c,n)=>(c,n,true)|none=>(0,0,false)
theorem zIx (l:List UInt8) (n:Nat) (hn:zAd (zB7 l 0)=n) (h0:1≤n) (i:Nat) (hi:i<n) (ht:∀j,j≤i→1≤j→128≤zB7 l j∧zB7 l j<192) :
 0≤zAB l n i∧zAB l n i≤2097151∧(i+1<n→zAB l n i<32768):=by
 have hb:=zDK l 0;have ag:1≤i→_:=ht 1;have ah:2≤i→_:=fun h=>ht 2 h (by omega)
 have af:3≤i→_:=fun h=>ht 3 h (by omega)
 have aa:n=1∨n=2∨n=3∨n=4:=by unfold zAd at hn;grind
 have ae:i=0∨i=1∨i=2∨i=3:=by omega
 unfold zAd at hn;rcases aa with rfl|rfl|rfl|rfl <;> rcases ae with rfl|rfl|rfl|rfl <;> simp only[zAB,zH1] <;> first|omega|grind
theorem zQP:∀n:Fin 256,((n.val:Nat):Int)<128→bits BinOp.and IntKind.u8 ((n.val:Nat):Int) 127=((n.val:Nat):Int):=by decide +kernel
theorem zQQ (b:Int) (h1:0≤b) (h2:b<128):bits BinOp.and IntKind.u8 b 127=b:=by
 obtain⟨n,rfl⟩:=YJ h1;exact zQP ⟨n,by omega⟩ h2
theorem zPv:∀n:Fin 256,(bits BinOp.andNot IntKind.u8 ((n.val:Nat):Int) 63=128)↔(128≤((n.val:Nat):Int)∧((n.val:Nat):Int)<192):=by decide +kernel
theorem zH2 (b:Int) (h1:0≤b) (h2:b<256):(bits BinOp.andNot IntKind.u8 b 63 != 128)=!decide (128≤b∧b<192):=by
 obtain⟨n,rfl⟩:=YJ h1;have:=zPv ⟨n,by omega⟩;rw[bne];congr 1;rw[Yx,YV,Zo];exact this
theorem zL5 (l:List UInt8) (h:zAd (zB7 l 0)=0∨l.length<zAd (zB7 l 0)):zAw l=(0,0,false):=by
 have:zAe l=none:=by
  unfold zAe
  by_cases hl:l=[]
  · rw[Zl hl]
  rw[Zk hl,Zl h]
 unfold zAw;rw[this]
theorem zL6:zAw []=(0,0,false):=rfl
theorem zDq (l:List UInt8) (n:Nat) (hn:zAd (zB7 l 0)=n) (j:Nat) (h1:j<n) (h2:1≤j) (h:¬(128≤zB7 l j∧zB7 l j<192)):zAw l=(0,0,false):=by
 have:zAe l=none:=by
  unfold zAe;rw[hn];split
  · rfl
  split
  · rfl
  rw[Zk (fun hh=>h (hh.1 j h1 h2))]
 unfold zAw;rw[this]
theorem zCJ (l:List UInt8) (n:Nat) (hn:zAd (zB7 l 0)=n) (h:¬zAC (zAB l n (n-1))=n):zAw l=(0,0,false):=by
 have:zAe l=none:=by
  unfold zAe;rw[hn];split
  · rfl
  split
  · rfl
  rw[Zk (fun hh=>h hh.2)]
 unfold zAw;rw[this]
theorem zEc (l:List UInt8) (n:Nat) (h0:1≤n) (hl:n≤l.length) (hn:zAd (zB7 l 0)=n) (ht:∀j,j≤n-1→1≤j→128≤zB7 l j∧zB7 l j<192) (h:zAC (zAB l n (n-1))=n) :
 zAw l=(zAB l n (n-1),n,true):=by
 have:zAe l=some (zAB l n (n-1),n):=by
  unfold zAe;rw[hn];rw[Zk (by rintro rfl;simp at hl;omega),Zk (by omega),Zl ⟨fun j h1 h2=>ht j (by omega) h2,h⟩]
 unfold zAw;rw[this]
theorem zSa (s:ByteArray) (w:World) (hs:s.size≤maxLen) (h1:1≤s.size) (hn:zAd (zB7 s.data.toList 0)=1) (hH:Heads w) :
 Calls prog 63 #[.string s] w fun e w'=>e=.returned (.tuple #[.int .i32 (zAw s.data.toList).1,.int .i64 (zAw s.data.toList).2.1,.bool (zAw s.data.toList).2.2])∧Below w.heap.size w w':=by
 have hm:=hH.cell (3*1-2);have hlen:0<s.size:=by omega
 have ai:=zDp s 0 hlen;have hne:=zCm s hlen;obtain⟨q1,q2⟩:=zDK s.data.toList 0;have BD:=hy' (zIx s.data.toList 1 hn (by omega));have NT:=hy' (zDq s.data.toList 1 hn);have NW:=hy' (zCJ s.data.toList 1 hn);have NY:=hy' (zEc s.data.toList 1 (by omega) (by simpa using h1) hn);have ah:=zQQ (zB7 s.data.toList 0) q1 (by unfold zAd at hn;grind)
 have af:zAB s.data.toList 1 0=zB7 s.data.toList 0:=by
  unfold zAd at hn;simp only[zAB,zH1];omega
 have HN:=hy' hn;clear hn;unfold maxLen at hs;simp[U.row]at hm;have HB:=hy' af;clear af;go_enter func63,ntmps63;go_wp2_with fail;refine (zCO _ _ q1 q2 hH).mono ?_;rintro e w1 ⟨rfl,aa⟩;rw[HN.o];replace hm:=(aa.cell (p:=⟨0,_,none⟩) hH.lt).trans hm;go_wp2;go_quiet (fail);go_wp2;rw[←HB.o];have ag:Heads (w1.drewN nq):=hH.next (below_drewN aa _);have ae:=below_drewN aa nq;clear hm;generalize w1.drewN nq=w2 at *;clear aa;go_loop [7,6] (fun i c=>∃k:Nat,1≤k∧k≤1∧i=.int .i64 k∧c=.int .i32 (zAB s.data.toList 1 (k-1))∧∀j,j≤k-1→1≤j→128≤zB7 s.data.toList j∧zB7 s.data.toList j<192) (fun i _=>5-(intOf i).toNat)
 case atStart=>exact⟨1,by omega,by omega,rfl,rfl,fun j h1 h2=>by omega⟩
 obtain⟨k,aj,ak,rfl,rfl,ht⟩:=hrel;obtain⟨b1,b2,b3⟩:=BD.o (k-1) (by omega) ht;have HT:=hy' ht;clear ht
 by_cases hkn:(k:Int)<1
 · exact absurd hkn (by omega)
 obtain rfl:k=1:=by omega
 clear b3
 by_cases hw:zAC (zAB s.data.toList 1 (1-1))=1
 · have hy:=NY.o HT.o hw;have HY:=hy' hy;have HW:=hy' hw;clear hy hw;go_wp2_with fail;refine (zAV _ _ (Yd (by decide) b1) (Yd b2 (by decide)) ag).mono ?_;rintro e w' ⟨rfl,rfl⟩;rw[HW.o];go_wp2;go_ret3;rw[HY.o];exact⟨rfl,ae⟩
 have hy:=NW.o hw;have HY:=hy' hy;have ao:(((zAC (zAB s.data.toList 1 (1-1)):Nat):Int) != 1)=true:=by rw[JV];omega
 clear hy hw;go_wp2_with fail;refine (zAV _ _ (Yd (by decide) b1) (Yd b2 (by decide)) ag).mono ?_;rintro e w' ⟨rfl,rfl⟩;go_wp2;go_ret3;rw[HY.o];exact⟨rfl,ae⟩
theorem zSb (s:ByteArray) (w:World) (hs:s.size≤maxLen) (h1:2≤s.size) (hn:zAd (zB7 s.data.toList 0)=2) (hH:Heads w) :
 Calls prog 63 #[.string s] w fun e w'=>e=.returned (.tuple #[.int .i32 (zAw s.data.toList).1,.int .i64 (zAw s.data.toList).2.1,.bool (zAw s.data.toList).2.2])∧Below w.heap.size w w':=by
 have hm:=hH.cell (3*2-2);have hlen:0<s.size:=by omega
 have ao:=zDp s 0 hlen;have hne:=zCm s hlen;obtain⟨q1,q2⟩:=zDK s.data.toList 0;have BD:=hy' (zIx s.data.toList 2 hn (by omega));have NT:=hy' (zDq s.data.toList 2 hn);have NW:=hy' (zCJ s.data.toList 2 hn);have NY:=hy' (zEc s.data.toList 2 (by omega) (by simpa using h1) hn)
 have af:zAB s.data.toList 2 0=zB7 s.data.toList 0%32:=by
  unfold zAd at hn;simp only[zAB,zH1];grind
 have HN:=hy' hn;clear hn;unfold maxLen at hs;simp[U.row]at hm;have HB:=hy' af;clear af;go_enter func63,ntmps63;go_wp2_with fail;refine (zCO _ _ q1 q2 hH).mono ?_;rintro e w1 ⟨rfl,ae⟩;rw[HN.o];replace hm:=(ae.cell (p:=⟨0,_,none⟩) hH.lt).trans hm;go_wp2;go_quiet (fail);go_wp2;rw[←HB.o];have ag:Heads (w1.drewN nq):=hH.next (below_drewN ae _);have aa:=below_drewN ae nq;clear hm;generalize w1.drewN nq=w2 at *;clear ae;go_loop [7,6] (fun i c=>∃k:Nat,1≤k∧k≤2∧i=.int .i64 k∧c=.int .i32 (zAB s.data.toList 2 (k-1))∧∀j,j≤k-1→1≤j→128≤zB7 s.data.toList j∧zB7 s.data.toList j<192) (fun i _=>5-(intOf i).toNat)
 case atStart=>exact⟨1,by omega,by omega,rfl,rfl,fun j h1 h2=>by omega⟩
 obtain⟨k,aj,ar,rfl,rfl,ht⟩:=hrel;obtain⟨b1,b2,b3⟩:=BD.o (k-1) (by omega) ht;have HT:=hy' ht;clear ht
 by_cases hkn:(k:Int)<2
 · have b4:=b3 (by omega);have ak:k<s.size:=by omega
   have aq:=zDp s k ak;obtain⟨z1,z2⟩:=zDK s.data.toList k;have ah:=zH2 _ z1 z2;clear b3
   by_cases hta:128≤zB7 s.data.toList k∧zB7 s.data.toList k<192
   · rw[Zs hta]at ah;obtain⟨z3,z4⟩:=hta;go_wp2;refine⟨⟨k+1,by omega,by omega,by go_num,?_,?_⟩,by simp[intOf];omega⟩
     · obtain⟨k',rfl⟩:∃k',k=k'+1:=⟨k-1,by omega⟩;have e:zAB s.data.toList 2 (k'+1+1-1)=zAB s.data.toList 2 k'*64+(zB7 s.data.toList (k'+1)-128):=rfl;rw[e,show zB7 s.data.toList (k'+1)%64=zB7 s.data.toList (k'+1)-128 from by omega];rfl
     intro j ap ai
     by_cases hjk:j=k
     · subst hjk;exact⟨z3,z4⟩
     exact HT.o j (by omega) ai
   rw[Zp hta]at ah;have hy:=NT.o k (by omega) aj hta;have HY:=hy' hy;clear hy hta;go_wp2;go_ret3;rw[HY.o];exact⟨rfl,aa⟩
 obtain rfl:k=2:=by omega
 clear b3
 by_cases hw:zAC (zAB s.data.toList 2 (2-1))=2
 · have hy:=NY.o HT.o hw;have HY:=hy' hy;have HW:=hy' hw;clear hy hw;go_wp2_with fail;refine (zAV _ _ (Yd (by decide) b1) (Yd b2 (by decide)) ag).mono ?_;rintro e w' ⟨rfl,rfl⟩;rw[HW.o];go_wp2;go_ret3;rw[HY.o];exact⟨rfl,aa⟩
 have hy:=NW.o hw;have HY:=hy' hy;have au:(((zAC (zAB s.data.toList 2 (2-1)):Nat):Int) != 2)=true:=by rw[JV];omega
 clear hy hw;go_wp2_with fail;refine (zAV _ _ (Yd (by decide) b1) (Yd b2 (by decide)) ag).mono ?_;rintro e w' ⟨rfl,rfl⟩;go_wp2;go_ret3;rw[HY.o];exact⟨rfl,aa⟩
theorem zSc (s:ByteArray) (w:World) (hs:s.size≤maxLen) (h1:3≤s.size) (hn:zAd (zB7 s.data.toList 0)=3) (hH:Heads w) :
 Calls prog 63 #[.string s] w fun e w'=>e=.returned (.tuple #[.int .i32 (zAw s.data.toList).1,.int .i64 (zAw s.data.toList).2.1,.bool (zAw s.data.toList).2.2])∧Below w.heap.size w w':=by
 have hm:=hH.cell (3*3-2);have hlen:0<s.size:=by omega
 have ao:=zDp s 0 hlen;have hne:=zCm s hlen;obtain⟨q1,q2⟩:=zDK s.data.toList 0;have BD:=hy' (zIx s.data.toList 3 hn (by omega));have NT:=hy' (zDq s.data.toList 3 hn);have NW:=hy' (zCJ s.data.toList 3 hn);have NY:=hy' (zEc s.data.toList 3 (by omega) (by simpa using h1) hn)
 have af:zAB s.data.toList 3 0=zB7 s.data.toList 0%16:=by
  unfold zAd at hn;simp only[zAB,zH1];grind
 have HN:=hy' hn;clear hn;unfold maxLen at hs;simp[U.row]at hm;have HB:=hy' af;clear af;go_enter func63,ntmps63;go_wp2_with fail;refine (zCO _ _ q1 q2 hH).mono ?_;rintro e w1 ⟨rfl,ae⟩;rw[HN.o];replace hm:=(ae.cell (p:=⟨0,_,none⟩) hH.lt).trans hm;go_wp2;go_quiet (fail);go_wp2;rw[←HB.o];have ag:Heads (w1.drewN nq):=hH.next (below_drewN ae _);have aa:=below_drewN ae nq;clear hm;generalize w1.drewN nq=w2 at *;clear ae;go_loop [7,6] (fun i c=>∃k:Nat,1≤k∧k≤3∧i=.int .i64 k∧c=.int .i32 (zAB s.data.toList 3 (k-1))∧∀j,j≤k-1→1≤j→128≤zB7 s.data.toList j∧zB7 s.data.toList j<192) (fun i _=>5-(intOf i).toNat)
 case atStart=>exact⟨1,by omega,by omega,rfl,rfl,fun j h1 h2=>by omega⟩
 obtain⟨k,aj,ar,rfl,rfl,ht⟩:=hrel;obtain⟨b1,b2,b3⟩:=BD.o (k-1) (by omega) ht;have HT:=hy' ht;clear ht
 by_cases hkn:(k:Int)<3
 · have b4:=b3 (by omega);have ak:k<s.size:=by omega
   have aq:=zDp s k ak;obtain⟨z1,z2⟩:=zDK s.data.toList k;have ah:=zH2 _ z1 z2;clear b3
   by_cases hta:128≤zB7 s.data.toList k∧zB7 s.data.toList k<192
   · rw[Zs hta]at ah;obtain⟨z3,z4⟩:=hta;go_wp2;refine⟨⟨k+1,by omega,by omega,by go_num,?_,?_⟩,by simp[intOf];omega⟩
     · obtain⟨k',rfl⟩:∃k',k=k'+1:=⟨k-1,by omega⟩;have e:zAB s.data.toList 3 (k'+1+1-1)=zAB s.data.toList 3 k'*64+(zB7 s.data.toList (k'+1)-128):=rfl;rw[e,show zB7 s.data.toList (k'+1)%64=zB7 s.data.toList (k'+1)-128 from by omega];rfl
     intro j ap ai
     by_cases hjk:j=k
     · subst hjk;exact⟨z3,z4⟩
     exact HT.o j (by omega) ai
   rw[Zp hta]at ah;have hy:=NT.o k (by omega) aj hta;have HY:=hy' hy;clear hy hta;go_wp2;go_ret3;rw[HY.o];exact⟨rfl,aa⟩
 obtain rfl:k=3:=by omega
 clear b3
 by_cases hw:zAC (zAB s.data.toList 3 (3-1))=3
 · have hy:=NY.o HT.o hw;have HY:=hy' hy;have HW:=hy' hw;clear hy hw;go_wp2_with fail;refine (zAV _ _ (Yd (by decide) b1) (Yd b2 (by decide)) ag).mono ?_;rintro e w' ⟨rfl,rfl⟩;rw[HW.o];go_wp2;go_ret3;rw[HY.o];exact⟨rfl,aa⟩
 have hy:=NW.o hw;have HY:=hy' hy;have au:(((zAC (zAB s.data.toList 3 (3-1)):Nat):Int) != 3)=true:=by rw[JV];omega
 clear hy hw;go_wp2_with fail;refine (zAV _ _ (Yd (by decide) b1) (Yd b2 (by decide)) ag).mono ?_;rintro e w' ⟨rfl,rfl⟩;go_wp2;go_ret3;rw[HY.o];exact⟨rfl,aa⟩
theorem zSd (s:ByteArray) (w:World) (hs:s.size≤maxLen) (h1:4≤s.size) (hn:zAd (zB7 s.data.toList 0)=4) (hH:Heads w) :
 Calls prog 63 #[.string s] w fun e w'=>e=.returned (.tuple #[.int .i32 (zAw s.data.toList).1,.int .i64 (zAw s.data.toList).2.1,.bool (zAw s.data.toList).2.2])∧Below w.heap.size w w':=by
 have hm:=hH.cell (3*4-2);have hlen:0<s.size:=by omega
 have ao:=zDp s 0 hlen;have hne:=zCm s hlen;obtain⟨q1,q2⟩:=zDK s.data.toList 0;have BD:=hy' (zIx s.data.toList 4 hn (by omega));have NT:=hy' (zDq s.data.toList 4 hn);have NW:=hy' (zCJ s.data.toList 4 hn);have NY:=hy' (zEc s.data.toList 4 (by omega) (by simpa using h1) hn)
 have af:zAB s.data.toList 4 0=zB7 s.data.toList 0%8:=by
  unfold zAd at hn;simp only[zAB,zH1];grind
 have HN:=hy' hn;clear hn;unfold maxLen at hs;simp[U.row]at hm;have HB:=hy' af;clear af;go_enter func63,ntmps63;go_wp2_with fail;refine (zCO _ _ q1 q2 hH).mono ?_;rintro e w1 ⟨rfl,ae⟩;rw[HN.o];replace hm:=(ae.cell (p:=⟨0,_,none⟩) hH.lt).trans hm;go_wp2;go_quiet (fail);go_wp2;rw[←HB.o];have ag:Heads (w1.drewN nq):=hH.next (below_drewN ae _);have aa:=below_drewN ae nq;clear hm;generalize w1.drewN nq=w2 at *;clear ae;go_loop [7,6] (fun i c=>∃k:Nat,1≤k∧k≤4∧i=.int .i64 k∧c=.int .i32 (zAB s.data.toList 4 (k-1))∧∀j,j≤k-1→1≤j→128≤zB7 s.data.toList j∧zB7 s.data.toList j<192) (fun i _=>5-(intOf i).toNat)
 case atStart=>exact⟨1,by omega,by omega,rfl,rfl,fun j h1 h2=>by omega⟩
 obtain⟨k,aj,ar,rfl,rfl,ht⟩:=hrel;obtain⟨b1,b2,b3⟩:=BD.o (k-1) (by omega) ht;have HT:=hy' ht;clear ht
 by_cases hkn:(k:Int)<4
 · have b4:=b3 (by omega);have ak:k<s.size:=by omega
   have aq:=zDp s k ak;obtain⟨z1,z2⟩:=zDK s.data.toList k;have ah:=zH2 _ z1 z2;clear b3
   by_cases hta:128≤zB7 s.data.toList k∧zB7 s.data.toList k<192
   · rw[Zs hta]at ah;obtain⟨z3,z4⟩:=hta;go_wp2;refine⟨⟨k+1,by omega,by omega,by go_num,?_,?_⟩,by simp[intOf];omega⟩
     · obtain⟨k',rfl⟩:∃k',k=k'+1:=⟨k-1,by omega⟩;have e:zAB s.data.toList 4 (k'+1+1-1)=zAB s.data.toList 4 k'*64+(zB7 s.data.toList (k'+1)-128):=rfl;rw[e,show zB7 s.data.toList (k'+1)%64=zB7 s.data.toList (k'+1)-128 from by omega];rfl
     intro j ap ai
     by_cases hjk:j=k
     · subst hjk;exact⟨z3,z4⟩
     exact HT.o j (by omega) ai
   rw[Zp hta]at ah;have hy:=NT.o k (by omega) aj hta;have HY:=hy' hy;clear hy hta;go_wp2;go_ret3;rw[HY.o];exact⟨rfl,aa⟩
 obtain rfl:k=4:=by omega
 clear b3
 by_cases hw:zAC (zAB s.data.toList 4 (4-1))=4
 · have hy:=NY.o HT.o hw;have HY:=hy' hy;have HW:=hy' hw;clear hy hw;go_wp2_with fail;refine (zAV _ _ (Yd (by decide) b1) (Yd b2 (by decide)) ag).mono ?_;rintro e w' ⟨rfl,rfl⟩;rw[HW.o];go_wp2;go_ret3;rw[HY.o];exact⟨rfl,aa⟩
 have hy:=NW.o hw;have HY:=hy' hy;have au:(((zAC (zAB s.data.toList 4 (4-1)):Nat):Int) != 4)=true:=by rw[JV];omega
 clear hy hw;go_wp2_with fail;refine (zAV _ _ (Yd (by decide) b1) (Yd b2 (by decide)) ag).mono ?_;rintro e w' ⟨rfl,rfl⟩;go_wp2;go_ret3;rw[HY.o];exact⟨rfl,aa⟩
theorem zFo (s:ByteArray) (w:World) (hs:s.size≤maxLen) (hH:Heads w) :
 Calls prog 63 #[.string s] w fun e w'=>e=.returned (.tuple #[.int .i32 (zAw s.data.toList).1,.int .i64 (zAw s.data.toList).2.1,.bool (zAw s.data.toList).2.2])∧Below w.heap.size w w':=by
 by_cases h0:s.size=0
 · have hl:s.data.toList=[]:=List.eq_nil_of_length_eq_zero (by simpa using h0);have he:s.toList.isEmpty=true:=by rw[zL4,hl];rfl
   rw[hl,zL6];clear hl h0;go_enter func63,ntmps63;go_wp2;go_ret3;exact⟨rfl,Zd _ _⟩
 have hlen:0<s.size:=by omega
 have ae:zAd (zB7 s.data.toList 0)≤4:=by unfold zAd;grind
 by_cases hsm:zAd (zB7 s.data.toList 0)=0∨s.size<zAd (zB7 s.data.toList 0)
 · have hy:=zL5 s.data.toList (by simpa using hsm);have HY:=hy' hy;have af:=zDp s 0 hlen;have hne:=zCm s hlen;obtain⟨q1,q2⟩:=zDK s.data.toList 0;clear hy;unfold maxLen at hs;obtain⟨n,hn⟩:∃n,zAd (zB7 s.data.toList 0)=n:=⟨_,rfl⟩;rw[hn]at ae hsm;have HN:=hy' hn;clear hn h0
   by_cases hz:n=0
   · subst hz;clear hsm;go_enter func63,ntmps63;go_wp2_with fail;refine (zCO _ _ q1 q2 hH).mono ?_;rintro e w1 ⟨rfl,aa⟩;rw[HN.o];go_wp2;go_ret3;rw[HY.o];exact⟨rfl,aa⟩
   have ag:((n:Int) == 0)=false:=by simp;omega
   have ah:(s.size:Int)<(n:Int):=by omega
   clear hsm hz;go_enter func63,ntmps63;go_wp2_with fail;refine (zCO _ _ q1 q2 hH).mono ?_;rintro e w1 ⟨rfl,aa⟩;rw[HN.o];go_wp2;go_ret3;rw[HY.o];exact⟨rfl,aa⟩
 have hc:zAd (zB7 s.data.toList 0)=1∨zAd (zB7 s.data.toList 0)=2∨zAd (zB7 s.data.toList 0)=3∨zAd (zB7 s.data.toList 0)=4:=by omega
 rcases hc with h|h|h|h
 · exact zSa s w hs (by omega) h hH
 · exact zSb s w hs (by omega) h hH
 · exact zSc s w hs (by omega) h hH
 exact zSd s w hs (by omega) h hH
theorem zTB (c:Int) (h:c<128):strOfNums [c]=⟨(zAp c).toArray⟩:=by unfold zAp;rw[if_pos h];rfl
theorem zTC (c:Int) (h:¬c<128) (h':c<2048):strOfNums [192+c/64,128+c%64]=⟨(zAp c).toArray⟩:=by unfold zAp;rw[if_neg h,if_pos h'];rfl
theorem zTD (c:Int) (h:¬c<128) (h':¬c<2048) (aa:c<65536):strOfNums [224+c/4096,128+c/64%64,128+c%64]=⟨(zAp c).toArray⟩:=by unfold zAp;rw[if_neg h,if_neg h',if_pos aa];rfl
theorem zTE (c:Int) (h:¬c<128) (h':¬c<2048) (aa:¬c<65536):strOfNums [240+c/262144,128+c/4096%64,128+c/64%64,128+c%64]=⟨(zAp c).toArray⟩:=by unfold zAp;rw[if_neg h,if_neg h',if_neg aa];rfl
theorem zIy (w:World) (xs:List Int) (n:Nat) (hn:xs.length=n) :
 (convert 30 9 (.slice (some ⟨w.heap.size,0,none⟩) n n)).run prog (w.alloc (.cells (xs.map (Value.int .u8)).toArray 5))=.ok (.string (strOfNums xs)) (w.alloc (.cells (xs.map (Value.int .u8)).toArray 5)):=by
 refine Qs _ _ 5 underlying30 underlying5 _ 0 n n xs hn (fun i hi=>?_) _ underlying9;have hb:(w.alloc (.cells (xs.map (Value.int .u8)).toArray 5)).heap[w.heap.size]?=some (.cells (xs.map (Value.int .u8)).toArray 5 (0,0)):=ZW _ _;simp only[World.cell?,hb];have:i<xs.length:=by omega
 simp[this,List.getD]
theorem zIJ (c:Int) (w:World) (hc:U.isC c=true) :
 Calls prog 19 #[.int .i64 c] w fun e w'=>e=.returned (.string ⟨(zAp c).toArray⟩)∧Below w.heap.size w w':=by
 obtain⟨h1,h2,h3⟩:=(U.isC_iff c).1 hc;clear h3 hc
 by_cases c1:c<128
 · have hcv:=zIy w [c] 1 rfl;rw[zTB c c1]at hcv;simp only[ZU,Ym]at hcv;go_enter func19,ntmps19;go_wp2;go_ret;exact⟨rfl,(Zd _ _).alloc (Za _) _⟩
 by_cases c2:c<2048
 · have hcv:=zIy w [192+c/64,128+c%64] 2 rfl;rw[zTC c c1 c2]at hcv;simp only[ZU,Ym]at hcv;go_enter func19,ntmps19;go_wp2;go_ret;exact⟨rfl,(Zd _ _).alloc (Za _) _⟩
 by_cases c3:c<65536
 · have hcv:=zIy w [224+c/4096,128+c/64%64,128+c%64] 3 rfl;rw[zTD c c1 c2 c3]at hcv;simp only[ZU,Ym]at hcv;go_enter func19,ntmps19;go_wp2;go_ret;exact⟨rfl,(Zd _ _).alloc (Za _) _⟩
 have hcv:=zIy w [240+c/262144,128+c/4096%64,128+c/64%64,128+c%64] 4 rfl;rw[zTE c c1 c2 c3]at hcv;simp only[ZU,Ym]at hcv;go_enter func19,ntmps19;go_wp2;go_ret;exact⟨rfl,(Zd _ _).alloc (Za _) _⟩
theorem zIK (l:List UInt8) (c:Int) (j:Nat) (hj:j≤l.length) (hc:U.isC c=true) (he:zAp c=l.take j):zAe l=some (c,j):=by
 have h:=zCl c hc (l.drop j);rw[he,Zu,Zn,Jm hj]at h;exact h
theorem zQR (c:Int) (hc:U.isC c=true):zAB (zAp c) (zAp c).length ((zAp c).length-1)=c:=by
 have h:=zCl c hc [];rw[ZC]at h;unfold zAe at h;split at h
 · cases h
 split at h
 · cases h
 split at h
 · simp only[Zg,YA]at h;obtain⟨h1,h2⟩:=h;rw[h2]at h1;exact h1
 cases h
theorem zEd (l:List UInt8) (c:Int) (n:Nat) (h:zAe l=some (c,n)):1≤n∧n≤4∧n≤l.length∧U.isC c=true∧zAp c=l.take n∧zAB (l.take n) n (n-1)=c:=by
 obtain⟨hc,hn,t,rfl⟩:=zM8 l c n h;have hl:=zDS c hc;have h1:=(zII c).2 hc;have h4:=zCN c;have ht:(zAp c++t).take n=zAp c:=by rw[hn,←hl];simp
 refine⟨by omega,by omega,by rw[Zc];omega,hc,ht.symm,?_⟩;rw[ht,hn,←hl];exact zQR c hc
end
end Go.Proofs.YtdbpjmfflofadaaGreatDoor
