/- put, Encode, the reference's Encode, Told. -/
import Derived.Test.YtjakbblocbicjaaGreatDoorUtfE
set_option maxRecDepth 100000
set_option maxHeartbeats 4000000
set_option linter.unusedVariables false
set_option linter.unusedSimpArgs false
namespace Go.Proofs.YtjakbblocbicjaaGreatDoor
open Go.Proofs.Tryz
open Go.RowKit
theorem zS2:∀x:Fin 32,bits BinOp.or IntKind.u8 192 ((x.val:Nat):Int)=192+((x.val:Nat):Int):=by decide +kernel
theorem zS3:∀x:Fin 16,bits BinOp.or IntKind.u8 224 ((x.val:Nat):Int)=224+((x.val:Nat):Int):=by decide +kernel
theorem zS4:∀x:Fin 8,bits BinOp.or IntKind.u8 240 ((x.val:Nat):Int)=240+((x.val:Nat):Int):=by decide +kernel
theorem U.or0:∀x:Fin 128,bits BinOp.or IntKind.u8 0 ((x.val:Nat):Int)=((x.val:Nat):Int):=by decide +kernel
theorem zRr (x:Int) (h1:0≤x) (h2:x<32):bits BinOp.or IntKind.u8 192 x=192+x:=by
 obtain⟨n,rfl⟩:=YP h1;exact zS2 ⟨n,by omega⟩
theorem zRs (x:Int) (h1:0≤x) (h2:x<16):bits BinOp.or IntKind.u8 224 x=224+x:=by
 obtain⟨n,rfl⟩:=YP h1;exact zS3 ⟨n,by omega⟩
theorem zRt (x:Int) (h1:0≤x) (h2:x<8):bits BinOp.or IntKind.u8 240 x=240+x:=by
 obtain⟨n,rfl⟩:=YP h1;exact zS4 ⟨n,by omega⟩
theorem zSM (x:Int) (h1:0≤x) (h2:x<128):bits BinOp.or IntKind.u8 0 x=x:=by
 obtain⟨n,rfl⟩:=YP h1;exact U.or0 ⟨n,by omega⟩
theorem zKX (x:Int) (h1:0≤x) (h2:x<256):IntKind.u8.wrap x=x:=by
 exact IntWalk.u8_in x (by omega)
def zFB (l:List UInt8):List Value:=l.map fun b=>Value.int .u8 (b.toNat:Int)
theorem zS5 (c:Int) (v:Value) (n base:Nat) (xs:List Value) (w:World) (h1:0≤c) (h2:c<128) (hc:U.isC c=true) (hH:Heads w) (af:w.ownsRow base 5 1 v n xs) (hn:n≤1000000000000) (ah:base≤w.heap.size) :
 Calls prog 85 #[v,.int .i32 c] w fun e w'=>∃v',e=.returned v'∧w'.ownsRow base 5 1 v' (n+1) (xs++[.int .u8 (c)])∧Below base w w':=by
 have hw:zAA c=1:=by unfold zAA;grind
 have HW:=hy' hw;clear hw hc;have m0:=hH.cell 0;have m1:=hH.cell 1;have m2:=hH.cell 2;simp[U.row]at m0 m1 m2;obtain⟨i0,hi,av,ao,au⟩:=Z2 infoByte;go_enter func85,ntmps85;go_wp2_with fail;refine (zAT _ _ (by omega) (by omega) hH).mono ?_;rintro e w' ⟨rfl,rfl⟩;rw[HW.o];go_wp2;have aw:=zKX (c) (by omega) (by omega);have ar:=zSM (c) (by omega) (by omega);have ap:IntKind.i64.wrap 0=0:=by decide
 have aq:IntKind.i64.wrap 0=0:=by decide
 have hne:v.ownBlock≠some w.heap.size:=fun h=>by have:=(af.lt _ h).2;omega
 go_region_held3 (fun w'=>w'.cell? ⟨w.heap.size,0,none⟩=some (.int .u8 0)) (first|go_keep|(rw[aa.cell_far _ (by simp;omega) (Ya hne)];assumption))
  ((refine zCF _ rfl _ _ _ rfl base 5 i0 _ 1 underlying98 hi av ao au rfl v n xs rfl (((af.alloc _).alloc _).drew) _ rfl (w.heap.size+1) rfl (zOW _ _ _ _ (zDZ _ _)) (by simp only[maxLen];omega) (by omega) (by simp;omega) ?_;intro v1 w1 ag ae aa))
 have ak:Below base w w1:=(((Zc _ _).alloc ah _).alloc (by simp;omega) _).drew.trans ae;have ax:=ak.size;clear aa ae aw ar ap aq;go_wp2;go_loopw [7,0] (fun i v wr=>Below base w wr∧((i=.int .i64 (-1)∧wr.ownsRow base 5 1 v (n+1) (xs++[.int .u8 (c)])))) (fun i _ _=>(intOf i+1).toNat)
 case atStart=>exact⟨ak,⟨rfl,ag⟩⟩
 obtain⟨aj,hrel⟩:=hrel;have ay:=aj.size;rcases hrel with ⟨rfl,ai⟩
 go_wp2;go_ret;exact⟨_,rfl,ai,aj⟩
theorem zS6 (c:Int) (v:Value) (n base:Nat) (xs:List Value) (w:World) (h1:128≤c) (h2:c<2048) (hc:U.isC c=true) (hH:Heads w) (ai:w.ownsRow base 5 1 v n xs) (hn:n≤1000000000000) (ak:base≤w.heap.size) :
 Calls prog 85 #[v,.int .i32 c] w fun e w'=>∃v',e=.returned v'∧w'.ownsRow base 5 1 v' (n+2) (xs++[.int .u8 (192+c/64),.int .u8 (128+c%64)])∧Below base w w':=by
 have hw:zAA c=2:=by unfold zAA;grind
 have HW:=hy' hw;clear hw hc;have m0:=hH.cell 3;have m1:=hH.cell 4;have m2:=hH.cell 5;simp[U.row]at m0 m1 m2;obtain⟨i0,hi,ar,ao,aq⟩:=Z2 infoByte;go_enter func85,ntmps85;go_wp2_with fail;refine (zAT _ _ (by omega) (by omega) hH).mono ?_;rintro e w' ⟨rfl,rfl⟩;rw[HW.o];go_wp2;have ay:=zKX (c/64) (by omega) (by omega);have ax:=zRr (c/64) (by omega) (by omega);have av:IntKind.i64.wrap 1=1:=by decide
 have aw:IntKind.i64.wrap 6=6:=by decide
 have hne:v.ownBlock≠some w.heap.size:=fun h=>by have:=(ai.lt _ h).2;omega
 go_region_held3 (fun w'=>w'.cell? ⟨w.heap.size,0,none⟩=some (.int .u8 192)) (first|go_keep|(rw[ae.cell_far _ (by simp;omega) (Ya hne)];assumption))
  ((refine zCF _ rfl _ _ _ rfl base 5 i0 _ 1 underlying98 hi ar ao aq rfl v n xs rfl (((ai.alloc _).alloc _).drew) _ rfl (w.heap.size+1) rfl (zOW _ _ _ _ (zDZ _ _)) (by simp only[maxLen];omega) (by omega) (by simp;omega) ?_;intro v1 w1 aj ag ae))
 have ap:Below base w w1:=(((Zc _ _).alloc ak _).alloc (by simp;omega) _).drew.trans ag;have az:=ap.size;clear ae ag ay ax av aw;go_wp2;go_loopw [7,0] (fun i v wr=>Below base w wr∧((i=.int .i64 0∧wr.ownsRow base 5 1 v (n+1) (xs++[.int .u8 (192+c/64)]))∨(i=.int .i64 (-1)∧wr.ownsRow base 5 1 v (n+2) (xs++[.int .u8 (192+c/64),.int .u8 (128+c%64)])))) (fun i _ _=>(intOf i+1).toNat)
 case atStart=>exact⟨ap,.inl ⟨rfl,aj⟩⟩
 obtain⟨ah,hrel⟩:=hrel;have a1:=ah.size;rcases hrel with ⟨rfl,aa⟩|⟨rfl,aa⟩
 · go_wp2_with (at_builtin;refine zAa _ rfl _ _ _ rfl base 5 i0 _ 1 underlying98 hi ar ao aq rfl _ (n+1) _ rfl aa _ rfl rfl (by simp only[maxLen];omega) (by omega) (by omega) ?_;intro v1 w2 af au);rw[ZD]at af;exact⟨⟨ah.trans au,.inr (⟨rfl,af⟩)⟩,by simp[intOf]⟩
 go_wp2;go_ret;exact⟨_,rfl,aa,ah⟩
theorem zS7 (c:Int) (v:Value) (n base:Nat) (xs:List Value) (w:World) (h1:2048≤c) (h2:c<65536) (hc:U.isC c=true) (hH:Heads w) (ai:w.ownsRow base 5 1 v n xs) (hn:n≤1000000000000) (ak:base≤w.heap.size) :
 Calls prog 85 #[v,.int .i32 c] w fun e w'=>∃v',e=.returned v'∧w'.ownsRow base 5 1 v' (n+3) (xs++[.int .u8 (224+c/4096),.int .u8 (128+c/64%64),.int .u8 (128+c%64)])∧Below base w w':=by
 have hw:zAA c=3:=by unfold zAA;grind
 have HW:=hy' hw;clear hw hc;have m0:=hH.cell 6;have m1:=hH.cell 7;have m2:=hH.cell 8;simp[U.row]at m0 m1 m2;obtain⟨i0,hi,ar,ap,aq⟩:=Z2 infoByte;go_enter func85,ntmps85;go_wp2_with fail;refine (zAT _ _ (by omega) (by omega) hH).mono ?_;rintro e w' ⟨rfl,rfl⟩;rw[HW.o];go_wp2;have ay:=zKX (c/4096) (by omega) (by omega);have ax:=zRs (c/4096) (by omega) (by omega);have av:IntKind.i64.wrap 2=2:=by decide
 have aw:IntKind.i64.wrap 12=12:=by decide
 have hne:v.ownBlock≠some w.heap.size:=fun h=>by have:=(ai.lt _ h).2;omega
 go_region_held3 (fun w'=>w'.cell? ⟨w.heap.size,0,none⟩=some (.int .u8 224)) (first|go_keep|(rw[ag.cell_far _ (by simp;omega) (Ya hne)];assumption))
  ((refine zCF _ rfl _ _ _ rfl base 5 i0 _ 1 underlying98 hi ar ap aq rfl v n xs rfl (((ai.alloc _).alloc _).drew) _ rfl (w.heap.size+1) rfl (zOW _ _ _ _ (zDZ _ _)) (by simp only[maxLen];omega) (by omega) (by simp;omega) ?_;intro v1 w1 aj ah ag))
 have au:Below base w w1:=(((Zc _ _).alloc ak _).alloc (by simp;omega) _).drew.trans ah;have az:=au.size;clear ag ah ay ax av aw;go_wp2;go_loopw [7,0] (fun i v wr=>Below base w wr∧((i=.int .i64 1∧wr.ownsRow base 5 1 v (n+1) (xs++[.int .u8 (224+c/4096)]))∨(i=.int .i64 0∧wr.ownsRow base 5 1 v (n+2) (xs++[.int .u8 (224+c/4096),.int .u8 (128+c/64%64)]))∨(i=.int .i64 (-1)∧wr.ownsRow base 5 1 v (n+3) (xs++[.int .u8 (224+c/4096),.int .u8 (128+c/64%64),.int .u8 (128+c%64)])))) (fun i _ _=>(intOf i+1).toNat)
 case atStart=>exact⟨au,.inl ⟨rfl,aj⟩⟩
 obtain⟨af,hrel⟩:=hrel;have a1:=af.size;rcases hrel with ⟨rfl,ae⟩|⟨rfl,ae⟩|⟨rfl,ae⟩
 · go_wp2_with (at_builtin;refine zAa _ rfl _ _ _ rfl base 5 i0 _ 1 underlying98 hi ar ap aq rfl _ (n+1) _ rfl ae _ rfl rfl (by simp only[maxLen];omega) (by omega) (by omega) ?_;intro v1 w2 aa ao);rw[ZD]at aa;exact⟨⟨af.trans ao,.inr (.inl ⟨rfl,aa⟩)⟩,by simp[intOf]⟩
 · go_wp2_with (at_builtin;refine zAa _ rfl _ _ _ rfl base 5 i0 _ 1 underlying98 hi ar ap aq rfl _ (n+2) _ rfl ae _ rfl rfl (by simp only[maxLen];omega) (by omega) (by omega) ?_;intro v1 w2 aa ao);rw[ZD]at aa;exact⟨⟨af.trans ao,.inr (.inr (⟨rfl,aa⟩))⟩,by simp[intOf]⟩
 go_wp2;go_ret;exact⟨_,rfl,ae,af⟩
theorem zS8 (c:Int) (v:Value) (n base:Nat) (xs:List Value) (w:World) (h1:65536≤c) (h2:c≤1114111) (hc:U.isC c=true) (hH:Heads w) (ai:w.ownsRow base 5 1 v n xs) (hn:n≤1000000000000) (ao:base≤w.heap.size) :
 Calls prog 85 #[v,.int .i32 c] w fun e w'=>∃v',e=.returned v'∧w'.ownsRow base 5 1 v' (n+4) (xs++[.int .u8 (240+c/262144),.int .u8 (128+c/4096%64),.int .u8 (128+c/64%64),.int .u8 (128+c%64)])∧Below base w w':=by
 have hw:zAA c=4:=by unfold zAA;grind
 have HW:=hy' hw;clear hw hc;have m0:=hH.cell 9;have m1:=hH.cell 10;have m2:=hH.cell 11;simp[U.row]at m0 m1 m2;obtain⟨i0,hi,ar,ap,aq⟩:=Z2 infoByte;go_enter func85,ntmps85;go_wp2_with fail;refine (zAT _ _ (by omega) (by omega) hH).mono ?_;rintro e w' ⟨rfl,rfl⟩;rw[HW.o];go_wp2;have ay:=zKX (c/262144) (by omega) (by omega);have ax:=zRt (c/262144) (by omega) (by omega);have av:IntKind.i64.wrap 3=3:=by decide
 have aw:IntKind.i64.wrap 18=18:=by decide
 have hne:v.ownBlock≠some w.heap.size:=fun h=>by have:=(ai.lt _ h).2;omega
 go_region_held3 (fun w'=>w'.cell? ⟨w.heap.size,0,none⟩=some (.int .u8 240)) (first|go_keep|(rw[ag.cell_far _ (by simp;omega) (Ya hne)];assumption))
  ((refine zCF _ rfl _ _ _ rfl base 5 i0 _ 1 underlying98 hi ar ap aq rfl v n xs rfl (((ai.alloc _).alloc _).drew) _ rfl (w.heap.size+1) rfl (zOW _ _ _ _ (zDZ _ _)) (by simp only[maxLen];omega) (by omega) (by simp;omega) ?_;intro v1 w1 ak ah ag))
 have au:Below base w w1:=(((Zc _ _).alloc ao _).alloc (by simp;omega) _).drew.trans ah;have az:=au.size;clear ag ah ay ax av aw;go_wp2;go_loopw [7,0] (fun i v wr=>Below base w wr∧((i=.int .i64 2∧wr.ownsRow base 5 1 v (n+1) (xs++[.int .u8 (240+c/262144)]))∨(i=.int .i64 1∧wr.ownsRow base 5 1 v (n+2) (xs++[.int .u8 (240+c/262144),.int .u8 (128+c/4096%64)]))∨(i=.int .i64 0∧wr.ownsRow base 5 1 v (n+3) (xs++[.int .u8 (240+c/262144),.int .u8 (128+c/4096%64),.int .u8 (128+c/64%64)]))∨(i=.int .i64 (-1)∧wr.ownsRow base 5 1 v (n+4) (xs++[.int .u8 (240+c/262144),.int .u8 (128+c/4096%64),.int .u8 (128+c/64%64),.int .u8 (128+c%64)])))) (fun i _ _=>(intOf i+1).toNat)
 case atStart=>exact⟨au,.inl ⟨rfl,ak⟩⟩
 obtain⟨af,hrel⟩:=hrel;have a1:=af.size;rcases hrel with ⟨rfl,ae⟩|⟨rfl,ae⟩|⟨rfl,ae⟩|⟨rfl,ae⟩
 · go_wp2_with (at_builtin;refine zAa _ rfl _ _ _ rfl base 5 i0 _ 1 underlying98 hi ar ap aq rfl _ (n+1) _ rfl ae _ rfl rfl (by simp only[maxLen];omega) (by omega) (by omega) ?_;intro v1 w2 aa aj);rw[ZD]at aa;exact⟨⟨af.trans aj,.inr (.inl ⟨rfl,aa⟩)⟩,by simp[intOf]⟩
 · go_wp2_with (at_builtin;refine zAa _ rfl _ _ _ rfl base 5 i0 _ 1 underlying98 hi ar ap aq rfl _ (n+2) _ rfl ae _ rfl rfl (by simp only[maxLen];omega) (by omega) (by omega) ?_;intro v1 w2 aa aj);rw[ZD]at aa;exact⟨⟨af.trans aj,.inr (.inr (.inl ⟨rfl,aa⟩))⟩,by simp[intOf]⟩
 · go_wp2_with (at_builtin;refine zAa _ rfl _ _ _ rfl base 5 i0 _ 1 underlying98 hi ar ap aq rfl _ (n+3) _ rfl ae _ rfl rfl (by simp only[maxLen];omega) (by omega) (by omega) ?_;intro v1 w2 aa aj);rw[ZD]at aa;exact⟨⟨af.trans aj,.inr (.inr (.inr (⟨rfl,aa⟩)))⟩,by simp[intOf]⟩
 go_wp2;go_ret;exact⟨_,rfl,ae,af⟩
theorem zJt (x:Int) (h0:0≤x) (h1:x<256):Value.int .u8 (((U.u8 x).toNat:Nat):Int)=.int .u8 x:=by rw[zB3 x h0 h1]
theorem U.put_any (c:Int) (v:Value) (n base:Nat) (xs:List Value) (w:World) (hc:U.isC c=true) (hH:Heads w) (ae:w.ownsRow base 5 1 v n xs) (hn:n≤1000000000000) (aa:base≤w.heap.size) :
 Calls prog 85 #[v,.int .i32 c] w fun e w'=>∃v',e=.returned v'∧w'.ownsRow base 5 1 v' (n+(zAn c).length) (xs++zFB (zAn c))∧Below base w w':=by
 obtain⟨h1,h2,h3⟩:=(U.isC_iff c).1 hc;unfold zAn zFB
 by_cases c1:c<128
 · rw[Zm c1];simp only[ZV,Yr,ZB,ZY];rw[zJt c (by omega) (by omega)];exact zS5 c v n base xs w h1 c1 hc hH ae hn aa
 by_cases c2:c<2048
 · rw[Zk c1,Zm c2];simp only[ZV,Yr,ZB,ZY];rw[zJt (192+c/64) (by omega) (by omega),zJt (128+c%64) (by omega) (by omega)];exact zS6 c v n base xs w (by omega) c2 hc hH ae hn aa
 by_cases c3:c<65536
 · rw[Zk c1,Zk c2,Zm c3];simp only[ZV,Yr,ZB,ZY];rw[zJt (224+c/4096) (by omega) (by omega),zJt (128+c/64%64) (by omega) (by omega),zJt (128+c%64) (by omega) (by omega)];exact zS7 c v n base xs w (by omega) c3 hc hH ae hn aa
 rw[Zk c1,Zk c2,Zk c3];simp only[ZV,Yr,ZB,ZY];rw[zJt (240+c/262144) (by omega) (by omega),zJt (128+c/4096%64) (by omega) (by omega),zJt (128+c/64%64) (by omega) (by omega),zJt (128+c%64) (by omega) (by omega)];exact zS8 c v n base xs w (by omega) h2 hc hH ae hn aa
theorem zPs (l:List UInt8):strOfNums (l.map fun b=>((b.toNat:Nat):Int))=⟨l.toArray⟩:=by
 unfold strOfNums;rw[Xf];congr 1
 have:l.map ((fun n:Int=>UInt8.ofNat n.toNat) ∘ fun b:UInt8=>((b.toNat:Nat):Int))=l:=by
  conv=>rhs;rw[←List.map_id l]
  refine YU fun b _=>?_
  simp
 rw[this]
theorem zRu {w:World} {base m c:Nat} {A:Option Addr} {l:List UInt8} (h:w.ownsRow base 5 1 (.slice A m c) m (zFB l)) :
 (convert 98 9 (.slice A m c)).run prog w=.ok (.string ⟨l.toArray⟩) w:=by
 obtain⟨hl,hr⟩:=h;rcases hr with ⟨hv,hm⟩|⟨g,cap,ae,hv,_,hg,hc,_,hcs,aa⟩
 · simp only[ZZ]at hv;obtain⟨rfl,rfl,rfl⟩:=hv;have:l=[]:=List.eq_nil_of_length_eq_zero (by unfold zFB at hl;simpa using hl);subst this;exact run_convert_bytes_nil _ _ 5 underlying98 underlying5 _ _ _ underlying9
 simp only[ZZ]at hv;obtain⟨rfl,_,rfl⟩:=hv;unfold zFB at hl aa;rw[Ze]at hl;rw[←zPs];refine Qm _ _ 5 underlying98 underlying5 g 0 m c _ (by rw[Ze];omega) (fun i hi=>?_) _ underlying9;have af:i<l.length:=by omega
 have ag:ae.toList[i]?=some (Value.int .u8 ((l[i].toNat:Nat):Int)):=by
  have e:(ae.toList.take (m*1))[i]?=(l.map fun b=>Value.int .u8 ((b.toNat:Nat):Int))[i]?:=by rw[aa]
  rw[Yp,Zm (by omega),Zo,Zb af]at e;exact e
 simp only[World.cell?,hg,Z1];have:ae[i]?=some (Value.int .u8 ((l[i].toNat:Nat):Int)):=by rw[←ag];simp
 simp[this,List.getD,af]
def zHx (l:List Int):Bool:=l.all U.isC
def zAv (l:List Int):ByteArray:=if zHx l then ⟨(zAd l).toArray⟩ else ⟨#[]⟩
def zHy (l:List Int):Int:=if zHx l then 0 else 1
theorem zKY (a b:List UInt8):zFB (a++b)=zFB a++zFB b:=by unfold zFB;rw[List.map_append]
theorem zIS (l:List Int):(zAd l).length≤4*l.length:=by
 induction l with
 | nil=>simp[zAd]
 | cons c l ih=>rw[zAu,Zd,ZB];have:=(zC8 c).2;omega
theorem take_succ_get {α:Type} {l:List α} {k:Nat} {x:α} (h:l[k]?=some x):l.take (k+1)=l.take k++[x]:=by
 rw[ZA,h];rfl
theorem zEM {α:Type} {l:List α} {k:Nat} {x:α} (h:l[k]?=some x):x∈l:=Zj h
theorem zEN (A:Option Addr) (cap B:Nat) (l:List Int) (w:World) (hB:B≤w.heap.size) (hA:Sl w B A (l.map (Value.int .i32))) (hl:l.length≤100000000000) (hb:∀c∈l,-2147483648≤c∧c≤2147483647) (hH:Heads w) :
 Calls prog 62 #[.slice A l.length cap] w fun e w'=>e=.returned (.tuple #[.string (zAv l),.int .i64 (zHy l)])∧Below w.heap.size w w':=by
 have hg:=hH.lt;obtain⟨n,hn⟩:∃n,l.length=n:=⟨_,rfl⟩;have HN:=hy' hn;rw[hn]at hl ⊢;clear hn;have HB:=hy' hb;clear hb;go_enter func62,ntmps62;go_wp2;go_loopw [9,4] (fun i v wr=>∃k:Nat,k≤n∧i=.int .i64 k∧(∀x∈l.take k,U.isC x=true)∧wr.ownsRow w.heap.size 5 1 v (zAd (l.take k)).length (zFB (zAd (l.take k)))∧Below w.heap.size w wr) (fun i _ _=>n-(intOf i).toNat)
 case atStart=>exact⟨0,by omega,rfl,by simp,ZE _ _ _ _,Zc _ _⟩
 obtain⟨k,hk,rfl,af,ae,aa⟩:=hrel;have au:=aa.size;have ar:=hH.next aa;have HG:=hy' af;clear af;have av:=zIS (l.take k);rw[Zr,HN.o]at av
 by_cases hkn:(k:Int)<n
 rotate_left
 · obtain rfl:k=n:=by omega
   have ag:l.take k=l:=Zi (by rw[HN.o];omega);rw[ag]at ae;have hG:=HG.o;rw[ag]at hG;have ak:zHx l=true:=by unfold zHx;rw[List.all_eq_true];exact hG
   have H1:zAv l=⟨(zAd l).toArray⟩:=by unfold zAv;rw[if_pos ak]
   have H2:zHy l=0:=by unfold zHy;rw[if_pos ak]
   have K1:=hy' H1;have K2:=hy' H2;clear H1 H2 ak hG ag;obtain⟨A',c',rfl⟩:=zA3 ae;have hcv:=zRu ae;go_wp2;go_ret2;rw[K1.o,K2.o];exact⟨rfl,aa⟩
 obtain⟨x,hx⟩:∃x,l[k]?=some x:=⟨_,Zb (by rw[HN.o];omega)⟩;obtain⟨x1,x2⟩:=HB.o x (zEM hx);obtain⟨b,o,rfl,aw,hc⟩:=hA.belowN aa hB (Za _) (by rw[Ze,HN.o];omega);have hcell:=hc k (by rw[Ze,HN.o];omega);rw[Zo,hx]at hcell;simp only[Option.map]at hcell;have ao:=take_succ_get hx;have HX:=hy' hx;have ap:=hy' ao;clear hx ao hc
 by_cases hch:U.isC x=true
 · have HC:=hy' hch;go_wp2_with (go_at_call 50;refine (U.is_any _ _ x1 x2).mono ?_;rintro e w' ⟨rfl,rfl⟩);refine (U.put_any x _ _ w.heap.size _ _ HC.o ar ae (by omega) au).mono ?_;rintro e w2 ⟨v',rfl,ai,aq⟩;go_wp2;refine⟨⟨k+1,by omega,by go_num,?_,?_,aa.trans aq⟩,by simp[intOf];omega⟩
   · rw[ap.o];intro y hy;rcases List.mem_append.1 hy with hy|hy
     · exact HG.o y hy
     rw[Zt]at hy;subst hy;exact HC.o
   rw[ap.o,zAZ,Zd,zKY];have e:zAd [x]=zAn x:=by simp[zAd]
   rw[e];exact ai
 have aj:U.isC x=false:=by simpa using hch
 have ah:zHx l=false:=by
  unfold zHx;rw[List.all_eq_false];exact⟨x,zEM HX.o,by simp[aj]⟩
 have H1:zAv l=⟨#[]⟩:=by unfold zAv;rw[if_neg (by rw[ah];decide)]
 have H2:zHy l=1:=by unfold zHy;rw[if_neg (by rw[ah];decide)]
 have H1:=hy' H1;have H2:=hy' H2;rename_i h1' h2';clear h1' h2' ah hch;go_wp2_with (go_at_call 50;refine (U.is_any _ _ x1 x2).mono ?_;rintro e w' ⟨rfl,rfl⟩);go_ret2;rw[H1.o,H2.o];exact⟨rfl,aa⟩
theorem zQC (a b:List UInt8):(⟨a.toArray⟩++⟨b.toArray⟩:ByteArray)=⟨(a++b).toArray⟩:=by
 apply Kp
 simp
theorem zKZ (A:Option Addr) (cap B:Nat) (l:List Int) (w:World) (hB:B≤w.heap.size) (hA:Sl w B A (l.map (Value.int .i64))) (hl:l.length≤100000000000) (hb:∀c∈l,U.isC c=true) :
 Calls prog 26 #[.slice A l.length cap] w fun e w'=>e=.returned (.string ⟨(zAd l).toArray⟩)∧Below w.heap.size w w':=by
 obtain⟨n,hn⟩:∃n,l.length=n:=⟨_,rfl⟩;have HN:=hy' hn;rw[hn]at hl ⊢;clear hn;have HB:=hy' hb;clear hb;go_enter func26,ntmps26;go_wp2;go_loopw [8,3] (fun i v wr=>∃k:Nat,k≤n∧i=.int .i64 k∧v=.string ⟨(zAd (l.take k)).toArray⟩∧Below w.heap.size w wr) (fun i _ _=>n-(intOf i).toNat)
 case atStart=>exact⟨0,by omega,rfl,rfl,Zc _ _⟩
 obtain⟨k,hk,rfl,rfl,aa⟩:=hrel;have ai:=aa.size
 by_cases hkn:(k:Int)<n
 · obtain⟨x,hx⟩:∃x,l[k]?=some x:=⟨_,Zb (by rw[HN.o];omega)⟩;have ag:=HB.o x (zEM hx);obtain⟨b,o,rfl,ao,hc⟩:=hA.belowN aa hB (Za _) (by rw[Ze,HN.o];omega);have hcell:=hc k (by rw[Ze,HN.o];omega);rw[Zo,hx]at hcell;simp only[Option.map]at hcell;have af:=take_succ_get hx;have ak:=hy' af;have HC:=hy' ag;clear hx af hc ag;have aj:=zIS (l.take k);rw[Zr,HN.o]at aj;have hex:=(zC8 x).2
   have hlen:((⟨(zAd (l.take k)).toArray⟩:ByteArray).size:Int)+((⟨(zAn x).toArray⟩:ByteArray).size:Int)≤900000000000:=by
    simp[ByteArray.size];omega
   go_wp2_with fail;refine (zIP _ _ HC.o).mono ?_;rintro e w2 ⟨rfl,ah⟩;go_wp2;refine⟨⟨k+1,by omega,by go_num,?_,aa.trans (ah.mono ai)⟩,by simp[intOf];omega⟩;rw[ak.o,zAZ,zQC];have e:zAd [x]=zAn x:=by simp[zAd]
   rw[e]
 obtain rfl:k=n:=by omega
 have ae:l.take k=l:=Zi (by rw[HN.o];omega);have HA:=hy' ae;clear ae;go_wp2;go_ret;rw[HA.o];exact⟨rfl,aa⟩
def RetOwn (el:TypeId) (k:IntKind) (l:List Int) (w:World) (e:Ending) (w':World):Prop :=
 ∃A c,e=.returned (.slice A l.length c)∧w'.ownsRow w.heap.size el 1 (.slice A l.length c) l.length (l.map (Value.int k))∧Below w.heap.size w w'
theorem RetOwn.mk {el:TypeId} {k:IntKind} {l:List Int} {w w':World} {v:Value} {m:Nat} {xs:List Value} (h:w'.ownsRow w.heap.size el 1 v m xs) (hm:m=l.length) (hx:xs=l.map (Value.int k)) (hb:Below w.heap.size w w') :
 RetOwn el k l w (.returned v) w':=by
 subst hm hx;obtain⟨A,c,rfl⟩:=zA3 h;exact⟨A,c,rfl,h,hb⟩
theorem zKc {cs:List Int} (h:∀c∈cs,U.isC c=true):∀c∈cs,-2147483648≤c∧c≤2147483647:=by
 intro c hc;have:=(U.isC_iff c).1 (h c hc);omega
theorem zMj {cs:List Int} (h:∀c∈cs,U.isC c=true):zHx cs=true:=by unfold zHx;rw[List.all_eq_true];exact h
theorem zIT {cs:List Int} (h:∀c∈cs,U.isC c=true):zAv cs=⟨(zAd cs).toArray⟩:=by unfold zAv;rw[if_pos (zMj h)]
theorem zQD {cs:List Int} (h:∀c∈cs,U.isC c=true):zHy cs=0:=by unfold zHy;rw[if_pos (zMj h)]
def Nf.fl (T:List Rw.Row) (l:List Int):List Int:=l.flatMap (Ud.full T)
def Nf.chars (T:List Rw.Row) (l:List Int):List Int:=Or.of (Md.cls T) (Nf.fl T l)
theorem zFj {T:List Rw.Row} {l:List Int} {k:Nat} {x:Int} (hx:l[k]?=some x):Nf.fl T (l.take (k+1))=Nf.fl T (l.take k)++Ud.full T x:=by
 unfold Nf.fl;rw[ZA,hx,YK];simp
theorem zEa {T:List Rw.Row} (h:∀c,(Ud.full T c).length≤32):∀l:List Int,(Nf.fl T l).length≤32*l.length
 | []=>by simp[Nf.fl]
 | x::l=>by
   have h1:=zEa h l;have h2:=h x;unfold Nf.fl at h1 ⊢;rw[Y7,Zd,ZB];omega
theorem Nf.rchars_any (v:Value) (T:List Rw.Row) (E:List Int) (A:Option Addr) (n c:Nat) (l:List Int) (w:World) (a6:T.length≤100000) (hbd:Md.bd T) (ak:∀r∈T,r.2.2.length≤1000) (hle:∀c,(Ud.full T c).length≤32) (h:Md.Doc w v T E) (hl:l.length=n) (hn:n≤3000) (b2:∀x∈l,-2147483648≤x∧x≤2147483647) (hA:Sl w w.heap.size A (l.map (Value.int .i64))) :
 Calls prog 16 #[v,.slice A n c] w (zBn (Nf.chars T l) w):=by
 obtain⟨i0,b9,cm,cd,ck⟩:=Z2 zDT;have hd:=h;obtain⟨AT,cT,XA,xc,rfl,_⟩:=hd;obtain⟨tn,bo⟩:∃k,T.length=k:=⟨_,rfl⟩;obtain⟨xn,hxn⟩:∃k,E.length=k:=⟨_,rfl⟩;rw[bo,hxn]at h ⊢;have bz:∀x W,Below w.heap.size w W → -2147483648≤x→x≤2147483647→Calls prog 20 #[zAX AT tn cT XA xn xc,.int .i64 x] W (zCM (Md.full T x) W):=fun x W hW h3 h4=>zEJ _ T E x W a6 (h.below hW) hbd ak h3 h4
 have bw:∀A' m c' z W,Below w.heap.size w W→z.length=m→m≤100000→Sl W W.heap.size A' (z.map (Value.int .i64))→Calls prog 49 #[zAX AT tn cT XA xn xc,.slice A' m c'] W (zBn (Or.of (Md.cls T) z) W):=fun A' m c' z W hW h1 h2 h3=>zPo _ T E A' m c' z W (Zh a6 (by decide)) (h.below hW) h1 h2 h3
 unfold zAX at *;obtain⟨wa,ar⟩:∃wa,(w.alloc (.cells #[.slice AT tn cT,.slice XA xn xc] 25)).alloc (.cells #[] 3)=wa:=⟨_,rfl⟩;have bi:Below w.heap.size w wa:=by rw[←ar];exact ((Zc _ _).alloc (Za _) _).alloc (by simp) _
 have bs:Rw.At wa w.heap.size 25 [.slice AT tn cT,.slice XA xn xc]:=by
  rw[←ar];exact (Rw.At.new w 25 [.slice AT tn cT,.slice XA xn xc]).alloc _
 have aq:wa.ownsRow (w.heap.size+1) 3 1 (.slice (some ⟨w.heap.size+1,0,none⟩) 0 0) 0 []:=by
  have:=zDk (w.alloc (.cells #[.slice AT tn cT,.slice XA xn xc] 25)) 3 (by decide);rw[ZJ]at this;rw[←ar];exact this
 have b5:=hy' ar;have b7:=hy' bi;have ct:=hy' bs;have bb:=hy' aq;have HL:=hy' hl;have cc:=hy' b2;have HA:=hy' (hA.below bi (Za _));have cr:=hy' bz;have cn:=hy' bw;have br:=hy' (zEa hle);have bj:=hy' hle;clear ar bi bs aq hl b2 hA bz bw h bo hxn a6 hbd ak hle;go_enter func16,ntmps16;go_upto_region 2 with (fail)
 rw[b5.o];go_wp2_with fail;go_loopw [5,7,8,9,13] (fun v5 _ _ _ i wr=>∃(k:Nat) (sl:Value),k≤n∧i=.int .i64 k∧v5=sl∧Rw.At wr w.heap.size 25 [.slice AT tn cT,.slice XA xn xc]∧wr.ownsRow (w.heap.size+1) 3 1 sl (Nf.fl T (l.take k)).length ((Nf.fl T (l.take k)).map (Value.int .i64))∧Below (w.heap.size+1) wa wr) (fun _ _ _ _ i _=>n-(intOf i).toNat)
 case atStart=>exact⟨0,_,ZF _,rfl,rfl,ct.o,bb.o,Zc _ _⟩
 obtain⟨k,sl,hk,rfl,rfl,ae,aa,ah⟩:=hrel;have bq:w.heap.size+1≤wr.heap.size:=ae.lt;have ax:Below w.heap.size w wr:=b7.o.trans (ah.mono (ZW _))
 by_cases hlt:k<n
 · obtain⟨x,hx⟩:∃x,l[k]?=some x:=⟨_,Zb (by rw[HL.o];exact hlt)⟩;obtain⟨bp,bn⟩:=cc.o x (Zj hx);obtain⟨ab,ao,hA2,cz,bx⟩:=HA.o (by rw[Ze,HL.o];omega);have hc:=bx k (by rw[Ze,HL.o];exact hlt);rw[Zo,hx,Zz,←(zAQ ah).1 _ _ (by omega)]at hc;have bh:=zFj (T:=T) hx;have aj:=br.o (l.take k);rw[Zr,HL.o]at aj;have a1:=bj.o x;obtain⟨m,hm⟩:∃m,Ud.full T x=m:=⟨_,rfl⟩;obtain⟨S,hS⟩:∃S,Nf.fl T (l.take k)=S:=⟨_,rfl⟩;obtain⟨ml,ak⟩:∃q,m.length=q:=⟨_,rfl⟩;obtain⟨sn,af⟩:∃q,S.length=q:=⟨_,rfl⟩;have ay:=cr.o x wr ax bp bn;unfold zCM at ay;rw[show (Md.full T x).getD []=m from hm,ak]at ay;rw[hS,af]at aa;rw[hS,af]at aj;rw[hm,ak]at a1;rw[hS,hm]at bh;have kI:(k:Int)<n:=by omega
   have k0:(0:Int)≤k:=by omega
   have z0:=ae.cell 0 rfl;have z1:=ae.cell 1 rfl;have b8:=hy' bh;have bc:=hy' ae;have ap:=hy' aa;have ba:=hy' ah;have b3:=hy' ak;have cp:=hy' af;have cy:=hy' ay;have c6:sn≤32*k:=by omega
   subst hA2;clear hx bp bn bx bh aj hm hS ak af ay aa ae ah ax;go_wp2_with fail;refine cy.o.mono ?_;rintro e w1 ⟨A1,c1,rfl,bm,av⟩;have aw:=hy' (zA4 ap.o av (Za _));have a7:=hy' (bc.o.below av);have cq:=hy' bm;have b4:=hy' (ba.o.trans (av.mono bq));have ch:w.heap.size+1≤w1.heap.size:=Zh bq av.size;have b1:(m.map (Value.int .i64)).length=ml*1:=by rw[Ze,b3.o];omega
   have bl:∀u∈m.map (Value.int .i64),u.oneCell'=true:=zF8 .i64 _;have cu:=hy' b1;have cv:=hy' bl;clear bm av z0 z1 hc b1 bl;go_wp2_with (first|(at_builtin;refine zAe _ rfl _ _ _ rfl (w.heap.size+1) 3 i0 _ 1 8 underlying23 b9 cm cd ck rfl (by omega) _ sn _ rfl aw.o _ A1 ml c1 (m.map (Value.int .i64)) rfl cu.o cq.o cv.o (by simp only[maxLen];omega) (by omega) ch ?_;intro v1 w4 ai bf cj;have au:=hy' ai;have bk:=hy' (a7.o.below' bf (ZO _));have cg:=hy' (b4.o.trans bf);clear ai bf cj)|fail);refine⟨⟨k+1,v1,by omega,by first|rfl|go_num,rfl,bk.o,?_,cg.o⟩,by simp[intOf];omega⟩;rw[b8.o,Zd,cp.o,b3.o,ZL];exact au.o
 obtain rfl:k=n:=by omega
 rw[Zi (by rw[HL.o];exact Za _)]at aa;have aj:=br.o l;rw[HL.o]at aj;obtain⟨S,hS⟩:∃S,Nf.fl T l=S:=⟨_,rfl⟩;obtain⟨sn,af⟩:∃q,S.length=q:=⟨_,rfl⟩;rw[hS,af]at aa aj;obtain⟨A4,c4,rfl⟩:=zA3 aa;have a8:=cn.o A4 sn c4 S wr ax af (by omega) (Sl.of_own aa);obtain⟨Z,hZ⟩:∃Z,Or.of (Md.cls T) S=Z:=⟨_,rfl⟩;have bu:Nf.chars T l=Z:=by unfold Nf.chars;rw[hS,hZ]
 rw[hZ]at a8;have cb:=hy' bu;have kI:¬(k:Int)<k:=by omega
 have z0:=ae.cell 0 rfl;have z1:=ae.cell 1 rfl;have az:=ae.lt;have b6:=hy' a8;have bg:=hy' ax;clear aa a8 bu hZ hS af aj ae ah;go_wp2_with fail;refine b6.o.mono ?_;rintro e w5 ⟨A5,c5,rfl,ag,bt⟩;obtain⟨zl,az⟩:∃q,Z.length=q:=⟨_,rfl⟩;rw[az]at ag ⊢;have cw:=hy' ag;have cx:=hy' bt;have cf:=hy' az;clear ag bt az;go_wp2_with fail;go_ret;rw[cb.o];unfold zBn;rw[cf.o];exact⟨_,_,rfl,zAR cw.o bg.o.size,bg.o.trans (cx.o.mono bg.o.size)⟩
theorem zIU {f g:Int→Option (List Int)} (h:∀c l,f c=some l→g c=some l):∀(L l:List Int),zAp f L=some l→zAp g L=some l
 | [],l,hl=>hl
 | d::r,l,hl=>by
   unfold zAp at hl ⊢;cases hd:f d with
   | none=>rw[hd]at hl;cases hl
   | some a =>
     rw[hd,ZC]at hl;rw[h d a hd,ZC];cases hr:zAp f r with
     | none=>rw[hr]at hl;cases hl
     | some b=>rw[hr]at hl;rw[zIU h r b hr];exact hl
theorem zKd (mp:Int→List Int):∀(k:Nat) (c:Int) (l:List Int),Md.lv mp k c=some l→Md.lv mp (k+1) c=some l
 | 0,c,l,h=>by
   unfold Md.lv at h ⊢;split at h
   · rename_i hc;rw[Zm hc];exact h
   cases h
 | k+1,c,l,h=>by
   unfold Md.lv at h ⊢;split at h
   · rename_i hc;rw[Zm hc];exact h
   rename_i hc;rw[Zk hc];exact zIU (zKd mp k) _ _ h
theorem zIV {f:Int→Option (List Int)} {g:Int→List Int}:∀(L l:List Int),(∀d∈L,∀a,f d=some a→g d=a)→zAp f L=some l→l=L.flatMap g
 | [],l,_,h=>by unfold zAp at h;cases h;rfl
 | d::r,l,hg,h=>by
   unfold zAp at h;cases hd:f d with
   | none=>rw[hd]at h;cases h
   | some a =>
     rw[hd,ZC]at h;cases hr:zAp f r with
     | none=>rw[hr]at h;cases h
     | some b =>
       rw[hr,Zz]at h;cases h
       rw[Y7,hg d Zu a hd,zIV r b (fun x hx=>hg x (Zy _ hx)) hr]
theorem zH2 {T:List Rw.Row} {c:Int} {l:List Int} (h:Md.full T c=some l):Md.lv (Md.mp T) (T.length+3) c=some l:=by
 unfold Md.full at h;rw[zBx _ _ _ _ (by simp)]at h;obtain⟨m,h1,h2⟩:=Option.bind_eq_some_iff.1 h;unfold Md.fit at h2;split at h2
 · simp at h2;rw[←h2];exact h1
 cases h2
theorem zDM {T:List Rw.Row} {S:List Int} (ok:Ud.Ok T S) (c:Int):Md.full T c=some (Ud.full T c):=by
 obtain⟨l,hl⟩:=zDf ok.chk c;unfold Ud.full;rw[hl];rfl
theorem zHz {T:List Rw.Row} {S:List Int} (ok:Ud.Ok T S) {c:Int} (hc:Md.mp T c≠[]):Ud.full T c=(Md.mp T c).flatMap (Ud.full T):=by
 have h:=zH2 (zDM ok c);rw[show T.length+3=(T.length+2)+1 from rfl]at h;unfold Md.lv at h;rw[Zk hc]at h;refine zIV _ _ (fun d _ a ha=>?_) h;have h1:=zKd _ _ _ _ ha;have h2:=zH2 (zDM ok d);rw[h1]at h2;exact (Yg h2).symm
theorem zFk {T:List Rw.Row} {S:List Int} (ok:Ud.Ok T S) {c:Int} (hc:Md.mp T c=[]):Ud.full T c=[c]:=by
 have h:=zH2 (zDM ok c);rw[zBr _ _ hc]at h;exact (Yg h).symm
theorem zL0 {T:List Rw.Row} {S:List Int} (ok:Ud.Ok T S) (c:Int):∀x∈Ud.full T c,Md.mp T x=[]:=fun x hx=>((zCq (zDM ok c)).1 x hx).1
theorem zKe {T:List Rw.Row} {S:List Int} (ok:Ud.Ok T S) (c:Int):Ud.full T c≠[]:=fun e=>by
 have:=(zCq (zDM ok c)).2.1;rw[e]at this;simp at this
theorem zMk {T:List Rw.Row} {S:List Int} (ok:Ud.Ok T S) {c:Int} (hc:zA2 c≠0):Md.find T c=none:=by
 cases h:Md.find T c with
 | none=>rfl
 | some r =>
   obtain⟨h1,h2⟩:=zAq h;have:=(ok.good r h1).2.2.2.2.1;rw[h2]at this;exact absurd this hc
theorem zNA {T:List Rw.Row} {S:List Int} (ok:Ud.Ok T S) {c:Int} (hc:zA2 c≠0):Md.cls T c=0:=by
 unfold Md.cls;rw[zMk ok hc];rfl
def Nc.j (T:List Rw.Row) (S:List Int) (a b:Int):Option Int:=if (Ud.joinK T S a b).2=true then some (Ud.joinK T S a b).1 else none
theorem zHA {α β:Type} {P:α→Prop} [DecidablePred P] {g:α→β}:∀(l:List α) (o:Option β) {p:β},l.foldl (fun o r=>if P r then some (g r) else o) o=some p→o=some p∨∃r∈l,P r∧g r=p
 | [],o,p,h=>.inl h
 | r::l,o,p,h=>by
   rw[YD]at h;rcases zHA l _ h with h1|⟨q,h1,h2⟩
   · by_cases hp:P r
     · rw[Zm hp]at h1;cases h1
       exact .inr ⟨r,Zu,hp,rfl⟩
     rw[Zk hp]at h1;exact .inl h1
   exact .inr ⟨q,Zy _ h1,h2⟩
theorem zKf {α β:Type} {P:α→Prop} [DecidablePred P] {g:α→β}:∀(l:List α) (o:Option β),(∃r∈l,P r)→∃p,l.foldl (fun o r=>if P r then some (g r) else o) o=some p
 | [],o,h=>by obtain⟨r,h1,_⟩:=h;cases h1
 | r::l,o,h=>by
   rw[YD]
   have more:∀(l:List α) (b:β),∃p,l.foldl (fun o r=>if P r then some (g r) else o) (some b)=some p:=by
    intro l
    induction l with
    | nil=>intro b;exact⟨b,rfl⟩
    | cons q l ih =>
      intro b;rw[YD]
      by_cases hq:P q
      · rw[Zm hq];exact ih _
      rw[Zk hq];exact ih _
   by_cases hp:P r
   · rw[Zm hp];exact more l _
   rw[Zk hp];obtain⟨q,h1,h2⟩:=h;rcases List.mem_cons.1 h1 with rfl|h1
   · exact absurd h2 hp
   exact zKf l o ⟨q,h1,h2⟩
theorem zH3 {T:List Rw.Row} {S:List Int} (ok:Ud.Ok T S) {a b p:Int} (h:zCc T (C.mem S) T a b=some p):∃r∈T,r.1=p∧r.2.2=[a,b]∧zAo T (C.mem S) r.1=true:=by
 unfold zCc at h;rcases zHA (P:=fun r:Rw.Row=>r.2.2.getD 0 0=a∧r.2.2.getD 1 0=b) (g:=fun r:Rw.Row=>r.1) _ _ h with h|⟨r,h1,⟨h2,h3⟩,h4⟩
 · cases h
 unfold zJP at h1;rw[X3,zCV]at h1;obtain⟨⟨h5,h6⟩,h7⟩:=h1;obtain⟨x,y,aa⟩:=zIs (ok.good r h5) ok.rises h5 h7;rw[aa]at h2 h3;simp at h2 h3;subst h2;subst h3;exact⟨r,h5,h4,aa,h7⟩
theorem zOD {T:List Rw.Row} {S:List Int} (ok:Ud.Ok T S) {a b p:Int} (h:Nc.j T S a b=some p):(Hg.joinK a b=(p,true)∧zAh p=(a,b,true))∨((Hg.joinK a b).2=false∧∃r∈T,r.1=p∧r.2.2=[a,b]∧zAo T (C.mem S) r.1=true):=by
 unfold Nc.j Ud.joinK at h
 by_cases hj:(Hg.joinK a b).2=true
 · rw[Zm hj]at h;simp at h;exact .inl ⟨by rw[←h,←hj],by rw[←h];exact zMa a b hj⟩
 rw[Zk hj]at h;refine .inr ⟨by simpa using hj,zH3 ok ?_⟩;cases hd:zCc T (C.mem S) T a b with
 | none=>rw[hd]at h;simp at h
 | some q=>rw[hd]at h;simpa using h
theorem zIW {T:List Rw.Row} {S:List Int} (ok:Ud.Ok T S) {a b p:Int} (h:Nc.j T S a b=some p):Md.mp T p=[a,b]∧Md.cls T p=0∧0≤p∧C.isC p=true:=by
 rcases zOD ok h with ⟨h1,h2⟩|⟨_,r,h1,rfl,h3,h4⟩
 · have hk:=zCr p;rw[h2]at hk;simp at hk;have hs:=zAt p (by have:=zFb p;omega);refine⟨by unfold Md.mp;rw[h2];rfl,zNA ok (by omega),by omega,?_⟩;unfold C.isC;simp only[Zn];omega
 have hg:=ok.good r h1;have hp:=zCU (X:=C.mem S) ok.rises h1 hg;rw[hp]at h4;unfold zAc at h4;simp at h4;exact⟨by rw[zQ6 ok.rises h1 hg,h3],by rw[zOU ok.rises h1,h4.1],(zFe hg).1,hg.1⟩
theorem Nc.fit {T:List Rw.Row} {S:List Int} (ok:Ud.Ok T S):Nc.Fit (Md.cls T) (Nc.j T S) (Ud.full T) where
 nn:=fun x=>(zDF ok x).1
 cls:=fun x c p h=>(zIW ok h).2.1
 full:=fun x c p hc h=>by
  have:=(zIW ok h).1;rw[zHz ok (by rw[this];simp),this];simp[hc]
def Nc.sec (T:List Rw.Row) (S:List Int) (c:Int):Bool:=C.mem (C.chars (Ud.sec T (C.mem S) T)) c||decide (zA2 c=2)||decide (zA2 c=3)
theorem zNB {T:List Rw.Row} {S:List Int} (ok:Ud.Ok T S) {c:Int} (h:Nc.sec T S c=false) (x:Int):Nc.j T S x c=none:=by
 cases hj:Nc.j T S x c with
 | none=>rfl
 | some p =>
   unfold Nc.sec at h;simp only[XL,ZX]at h;rcases zOD ok hj with ⟨h1,h2⟩|⟨_,r,h1,h2,h3,h4⟩
   · have hi:=zPm x c;rw[h1]at hi;simp at hi;omega
   exfalso;have hg:=ok.good r h1;rw[(zBH _).2]at h
   have hc:c∈Ud.sec T (C.mem S) T:=by
    unfold Ud.sec;refine List.mem_map.2 ⟨r,?_,by rw[h3];rfl⟩;unfold zJP;rw[X3,zCV];exact⟨⟨h1,by rw[h3];exact Kb⟩,h4⟩
   have aa:=(hg.2.2.2.2.2 c (by rw[h3];simp)).1;simp[hc,aa]at h
def Nc.two (T:List Rw.Row) (X:Int→Bool) (a b:Int):Int :=
 if (Hg.joinK a b).2=true then (Hg.joinK a b).1 else ((T.find? fun r=>decide (r.2.2=[a,b])&&zAo T X r.1).map (·.1)).getD (-1)
theorem zFC {T:List Rw.Row} {X:Int→Bool}:∀(l pre:List Rw.Row),zB4 T X pre l=false→(l.Pairwise fun q r=>¬(zAc T X q=true∧zAc T X r=true∧q.2.2=r.2.2))∧∀q∈pre,∀r∈l,¬(zAc T X q=true∧zAc T X r=true∧q.2.2=r.2.2)
 | [],pre,_=>⟨List.Pairwise.nil,fun q _ r hr=>absurd hr Z7⟩
 | r::l,pre,h=>by
   unfold zB4 at h;rw[XL]at h;obtain⟨h1,h2⟩:=zFC l (pre++[r]) h.2
   have h3:∀q∈pre,¬(zAc T X q=true∧zAc T X r=true∧q.2.2=r.2.2):=fun q hq ⟨g1,g2,g3⟩=>by
    have:=h.1;unfold Md.ahead at this;rw[XJ]at this;have:=this q hq;simp[g1,g2,g3]at this
   refine⟨List.pairwise_cons.2 ⟨fun q hq=>h2 r (by simp) q hq,h1⟩,fun q hq s hs=>?_⟩;rcases List.mem_cons.1 hs with rfl|hs
   · exact h3 q hq
   exact h2 q (Y3 _ hq) s hs
theorem zPt {T:List Rw.Row} {S:List Int} (ok:Ud.Ok T S) {q r:Rw.Row} (hq:q∈T) (hr:r∈T) (h1:zAo T (C.mem S) q.1=true) (h2:zAo T (C.mem S) r.1=true) (h3:q.2.2=r.2.2):q=r:=by
 obtain⟨_,_,_,ht⟩:=zDY ok.chk;have hd:=zDe T (C.mem S) T [];rw[show ((([]:List Rw.Row).filter (zAc T (C.mem S))).map fun r=>r.2.2)=[] from rfl,ht]at hd;have hp:=(zFC T [] hd.symm).1;rw[zCU ok.rises hq (ok.good q hq)]at h1;rw[zCU ok.rises hr (ok.good r hr)]at h2;obtain⟨i,hi⟩:=Jv hq;obtain⟨k,hk⟩:=Jv hr;rw[QL]at hp;obtain⟨af,aa⟩:=List.getElem?_eq_some_iff.1 hi;obtain⟨ag,ae⟩:=List.getElem?_eq_some_iff.1 hk;rcases XI i k with h|h|h
 · exact absurd ⟨by rw[aa];exact h1,by rw[ae];exact h2,by rw[aa,ae];exact h3⟩ (hp i k af ag h)
 · subst h;rw[←aa,←ae]
 exact absurd ⟨by rw[ae];exact h2,by rw[aa];exact h1,by rw[aa,ae];exact h3.symm⟩ (hp k i ag af h)
theorem zRv {T:List Rw.Row} {S:List Int} (ok:Ud.Ok T S) (a b:Int):Nc.two T (C.mem S) a b=(Nc.j T S a b).getD (-1):=by
 unfold Nc.two Nc.j Ud.joinK
 by_cases hj:(Hg.joinK a b).2=true
 · rw[Zm hj,Zm hj];simp
 rw[Zk hj,Zk hj];cases hf:T.find? fun r=>decide (r.2.2=[a,b])&&zAo T (C.mem S) r.1 with
 | some r =>
   have h1:=Je hf;have h2:=XT hf;simp at h1
   have:∃p,zCc T (C.mem S) T a b=some p:=by
    unfold zCc;refine zKf (P:=fun r:Rw.Row=>r.2.2.getD 0 0=a∧r.2.2.getD 1 0=b) (g:=fun r:Rw.Row=>r.1) _ _ ⟨r,?_,?_⟩
    · unfold zJP;rw[X3,zCV];exact⟨⟨h2,by rw[h1.1];exact Kb⟩,h1.2⟩
    rw[h1.1];exact⟨rfl,rfl⟩
   obtain⟨p,hp⟩:=this;obtain⟨q,g1,g2,g3,g4⟩:=zH3 ok hp;have:=zPt ok g1 h2 g4 h1.2 (g3.trans h1.1.symm);subst this;rw[hp,←g2];simp
 | none =>
   cases hp:zCc T (C.mem S) T a b with
   | none=>simp
   | some p =>
     obtain⟨q,g1,g2,g3,g4⟩:=zH3 ok hp;have:=List.find?_eq_none.1 hf q g1;simp[g3,g4]at this
def Md.xs (E:List Int) (d:Int):Bool:=decide (d∈E)
def zL1 (T:List Rw.Row) (E:List Int) (c:Int):Bool:=decide (0<(zA6 c).length)||(decide ((Md.mp T c).length=2)&&(decide (Md.cls T c=0)&&(decide (Md.cls T ((Md.mp T c).headD 0)=0)&&!Md.xs E c)))
theorem zPu (T:List Rw.Row) (E:List Int) (c:Int):zL1 T E c=zAo T (Md.xs E) c:=by
 unfold zL1 zAo
 by_cases h:(zAh c).2.2=true
 · have hs:0<(zA6 c).length:=by
    unfold zAh at h;unfold zA6;split at h
    · rename_i h4;rw[Zm h4];simp
    split at h
    · rename_i h4 h5;rw[Zk h4,Zm h5];simp
    cases h
   rw[h,Zp hs,Xp,Xp]
 have hp:(zAh c).2.2=false:=by simpa using h
 have hs:(zA6 c).length=0:=by
  unfold zAh at h;unfold zA6;split at h
  · exact absurd rfl h
  split at h
  · exact absurd rfl h
  rename_i h4 h5;rw[Zk h4,Zk h5];rfl
 have hm:Md.mp T c=zAV T c:=by
  unfold Md.mp;rw[Zk h]
 rw[hp,Zq (by omega),Y5,Y5,hm];unfold zAV;cases hf:Md.find T c with
 | none=>simp
 | some r =>
   have he:=(zAq hf).2;have hc:Md.cls T c=r.2.1:=by unfold Md.cls;rw[hf];rfl
   simp only[Zz,J2];unfold zAc;rw[hc,he];cases decide (r.2.1=0) <;> cases decide (r.2.2.length=2) <;> rfl
theorem zHB (v:Value) (T:List Rw.Row) (E:List Int) (d:Int) (w:World) (b3:T.length≤100000) (b4:E.length≤1000000) (h:Md.Doc w v T E) (az:∀r∈T,r.2.2.length≤1000) (h3 : -2147483648≤d) (h4:d≤2147483647) :
 Calls prog 87 #[v,.int .i64 d] w fun e w'=>e=.returned (.bool (zAo T (Md.xs E) d))∧Below w.heap.size w w':=by
 rw[←zPu];have a6:=zMf az d;have au:=hy' h;obtain⟨AT,cT,XA,xc,rfl,h2,hX⟩:=h;obtain⟨tn,a8⟩:∃k,T.length=k:=⟨_,rfl⟩;obtain⟨xn,hxn⟩:∃k,E.length=k:=⟨_,rfl⟩;have aa:zL1 T E d=(decide (0<(zA6 d).length)||(decide ((Md.mp T d).length=2)&&(decide (Md.cls T d=0)&&(decide (Md.cls T ((Md.mp T d).headD 0)=0)&&!Md.xs E d)))):=rfl;obtain⟨o,ho⟩:∃o,zL1 T E d=o:=⟨_,rfl⟩;rw[ho]at aa ⊢;have bm:Below w.heap.size w (w.alloc (.cells #[.slice AT tn cT,.slice XA xn xc] 25)):=(Zc _ _).alloc (Za _) _;have bj:Rw.At (w.alloc (.cells #[.slice AT tn cT,.slice XA xn xc] 25)) w.heap.size 25 [.slice AT tn cT,.slice XA xn xc]:=Rw.At.new w 25 [.slice AT tn cT,.slice XA xn xc];have HP:=hy' (zHi d (w.alloc (.cells #[.slice AT tn cT,.slice XA xn xc] 25)) h3 h4)
 have ap:Hy (∀W,Below w.heap.size w W→Calls prog 57 #[.agg #[.slice AT tn cT,.slice XA xn xc],.int .i64 d] W (RetInts .i64 (Md.mp T d) W)):=hy' fun W hW=>by
  have:=zIN _ T E d W (by omega) (au.o.below hW) h3 h4;rw[a8,hxn]at this;exact this
 have ba:Hy (∀x W,Below w.heap.size w W→Calls prog 21 #[.agg #[.slice AT tn cT,.slice XA xn xc],.int .i64 x] W fun e w'=>e=.returned (.int .i64 (Md.cls T x))∧Below W.heap.size W w'):=hy' fun x W hW=>by
  have:=zFW _ T E x W (by omega) (au.o.below hW);rw[a8,hxn]at this;exact this
 have bg:Hy (∀W,Below w.heap.size w W→Calls prog 117 #[.slice XA xn xc,.int .i64 d] W fun e w'=>e=.returned (.bool (Md.xs E d))∧W=w'):=hy' fun W hW =>
  Md.in_any XA xn xc E d W hxn (by omega) (hX.below hW hW.size)
 have bh:=hy' bm;have bo:=hy' bj;have ay:=hy' aa;rw[a8,hxn];obtain⟨sp,bf⟩:∃s,zA6 d=s:=⟨_,rfl⟩;obtain⟨m,hm⟩:∃m,Md.mp T d=m:=⟨_,rfl⟩;rw[bf]at HP ay;rw[hm]at ap ay a6;clear bm bj aa ho a8 hxn h2 hX bf hm au az;unfold zAX;go_enter func87,ntmps87;go_wp2_with fail;refine HP.o.mono ?_;rintro e w1 ⟨A1,c1,rfl,_,ar⟩;have aj:=bo.o.below ar;have z0:=aj.cell 0 rfl;have z1:=aj.cell 1 rfl;have bb:=hy' aj;have a7:=hy' (bh.o.trans (ar.mono bh.o.size));obtain⟨sl,bq⟩:∃k,sp.length=k:=⟨_,rfl⟩;rw[bq]at ay ⊢;clear ar aj HP bq bo
 by_cases hs0:0<sl
 · have af:o=true:=by rw[ay.o,Zp hs0,Xp]
   have ah:=hy' af;have bw:(0:Int)<sl:=by omega
   clear af;go_wp2_with fail;go_ret;exact⟨by rw[ah.o];rfl,a7.o⟩
 have aa:=ay.o;rw[Zq hs0,Y5]at aa;have ai:=hy' aa;have bw:¬(0:Int)<sl:=by omega
 clear aa ay;go_wp2_with fail;refine (ap.o w1 a7.o).mono ?_;rintro e w2 ⟨A2,c2,rfl,br,aq⟩;have ag:=bb.o.below aq;have y0:=ag.cell 0 rfl;have y1:=ag.cell 1 rfl;have bp:=ag.lt;have ae:=hy' (a7.o.trans (aq.mono a7.o.size));have bz:=hy' br;have bu:=hy' ag;obtain⟨ml,az⟩:∃k,m.length=k:=⟨_,rfl⟩;rw[az]at ai a6 ⊢;have b2:=hy' az;clear br aq ag z0 z1 ap az;rcases hd2:((ml:Int) == 2) with _|_
 · have hne:¬ml=2:=fun e=>by rw[e]at hd2;simp at hd2
   have af:o=false:=by rw[ai.o,Zq hne,Y8]
   have ah:=hy' af;clear af hne;go_wp2_with fail;go_quiet (fail);go_wp2_with fail;go_ret;exact⟨by rw[ah.o];rfl,below_drewN ae.o _⟩
 have bc:ml=2:=by have:=beq_iff_eq.1 hd2;omega
 obtain⟨x,y,rfl⟩:∃x y,m=[x,y]:=by
  have h2:m.length=2:=by rw[b2.o,bc]
  match m,h2 with
  | [x,y],_=>exact⟨x,y,rfl⟩
 obtain⟨ab,ao,hA,b1,bs⟩:=bz.o (by simp);have bk:w2.cell? ⟨ab,ao,none⟩=some (.int .i64 x):=by simpa using bs 0 (by simp)
 subst hA;have bt:0<ml:=by omega
 have bx:(0:Int)<ml:=by omega
 have aa:=ai.o;rw[Zp bc,YY,List.headD_cons]at aa;have av:=Ext.call fun W hW=>ba.o d W (ae.o.trans (hW.mono ae.o.size))
 have ax:=Ext.call fun W hW=>ba.o x W (ae.o.trans (hW.mono ae.o.size))
 have aw:=Ext.same fun W hW=>bg.o W (ae.o.trans (hW.mono ae.o.size))
 have e0:=Ext.cells y0 bp;have e1:=Ext.cells y1 bp;have e2:=Ext.cells bk b1;obtain⟨q1,bn⟩:∃q,Md.cls T d=q:=⟨_,rfl⟩;obtain⟨q2,bi⟩:∃q,Md.cls T x=q:=⟨_,rfl⟩;obtain⟨xi,bl⟩:∃b,Md.xs E d=b:=⟨_,rfl⟩;rw[bn]at av aa;rw[bi]at ax aa;rw[bl]at aw aa;have C1:=hy' av;have C2:=hy' ax;have C3:=hy' aw;have ak:=hy' aa;clear aa ai ba bs bn bi bl av ax aw y0 y1 bk bg;rcases ar:(q1 == 0) with _|_
 · have af:o=false:=by rw[ak.o,show decide (q1=0)=false by simpa using ar,Bool.false_and]
   have ah:=hy' af;clear af;go_wp2_with fail;refine zA7 (by kernel_rfl) (by kernel_rfl) ?_
   repeat (go_big_quiet_step ((first|(go_at_call 21;first|with_reducible exact C1.o _|with_reducible exact C2.o _)|(go_at_call 117;with_reducible exact C3.o _))))
   refine wpQuiet_nil ?_;intro xw;have a1:=hy' (ae.o.trans (xw.below.mono ae.o.size));go_wp2_with fail;go_ret;exact⟨by rw[ah.o];rfl,a1.o⟩
 have h0:q1=0:=beq_iff_eq.1 ar;subst h0;have aa:=ak.o;rw[show decide ((0:Int)=0)=true from rfl,YY]at aa;clear ak ar;rcases aq:(q2 == 0) with _|_
 · have af:o=false:=by rw[aa,show decide (q2=0)=false by simpa using aq,Bool.false_and]
   have ah:=hy' af;clear af aa;go_wp2_with fail;refine zA7 (by kernel_rfl) (by kernel_rfl) ?_
   repeat (go_big_quiet_step ((first|(go_at_call 21;first|with_reducible exact C1.o _|with_reducible exact C2.o _)|(go_at_call 117;with_reducible exact C3.o _))))
   refine wpQuiet_nil ?_;intro xw;have a1:=hy' (ae.o.trans (xw.below.mono ae.o.size));go_wp2_with fail;go_ret;exact⟨by rw[ah.o];rfl,a1.o⟩
 have h0:q2=0:=beq_iff_eq.1 aq;subst h0;rw[show decide ((0:Int)=0)=true from rfl,YY]at aa;have ah:=hy' aa;clear aa aq;go_wp2_with fail;refine zA7 (by kernel_rfl) (by kernel_rfl) ?_
 repeat (go_big_quiet_step ((first|(go_at_call 21;first|with_reducible exact C1.o _|with_reducible exact C2.o _)|(go_at_call 117;with_reducible exact C3.o _))))
 refine wpQuiet_nil ?_;intro xw;have a1:=hy' (ae.o.trans (xw.below.mono ae.o.size));go_wp2_with fail;go_ret;exact⟨by rw[ah.o];rfl,a1.o⟩
end Go.Proofs.YtjakbblocbicjaaGreatDoor
