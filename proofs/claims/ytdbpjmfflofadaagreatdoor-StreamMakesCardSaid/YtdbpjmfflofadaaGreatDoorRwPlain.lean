/- Layer field, plain: a character's number in hexadecimal, written and read; no program in sight. -/
import Derived.Test.YtdbpjmfflofadaaGreatDoorSmChar
set_option maxRecDepth 100000
set_option maxHeartbeats 4000000
set_option linter.unusedVariables false
set_option linter.unusedSimpArgs false
namespace Go.Proofs.YtdbpjmfflofadaaGreatDoor
open Go.Proofs.Tryz
open Go.RowKit Go.Stop
def zBW (d:Nat):UInt8:=UInt8.ofNat (if d<10 then 48+d else 55+d)
def zE6 (d:Nat):UInt8:=UInt8.ofNat (if d<10 then 48+d else 87+d)
def Fi.low:Nat→Nat→List Nat
 | 0,_=>[]
 | k+1,n=>Fi.low k (n/16)++[n%16]
def zBk (n:Nat):Nat:=if h:n<16 then 1 else zBk (n/16)+1
 termination_by n
 decreasing_by omega
def Fi.text (n:Nat):List UInt8:=(Fi.low (max 4 (zBk n)) n).map zBW
theorem zJy (n:Nat):1≤zBk n:=by rw[zBk];split <;> omega
theorem zBY:∀(k n:Nat),n<16 ^ (k+1)→zBk n≤k+1
 | 0,n,h=>by rw[zBk,dif_pos (by simpa using h)];exact Nat.le_refl _
 | k+1,n,h=>by
   rw[zBk];split
   · omega
   have:=zBY k (n/16) (by rw[Y7]at h;omega);omega
theorem zGQ (n:Nat):n<16 ^ zBk n:=by
 rw[zBk];split
 · simpa
 · have:=zGQ (n/16);rw[Y7];omega
 termination_by n
 decreasing_by omega
theorem zPq (n k:Nat) (h:16 ^ k≤n):k+1≤zBk n:=by
 rcases Z3 (zBk n) (k+1) with hl|hl
 · have h1:=zGQ n;have h2:16 ^ zBk n≤16 ^ k:=Xe (by decide) (by omega);omega
 exact hl
theorem zCZ:∀k n,(Fi.low k n).length=k
 | 0,_=>rfl
 | k+1,n=>by simp[Fi.low,zCZ k]
theorem zCp:∀(k n:Nat),Fi.low (k+1) n=(n/16 ^ k%16)::Fi.low k n
 | 0,n=>by simp[Fi.low]
 | k+1,n=>by
   rw[Fi.low,zCp k (n/16),Fi.low,Qn,Y7,Je 16];rfl
theorem zKQ:∀(k n j:Nat),j<k→(Fi.low k n)[j]?=some (n/16 ^ (k-1-j)%16)
 | 0,_,_,h=>by omega
 | k+1,n,0,_=>by rw[zCp];simp
 | k+1,n,j+1,h=>by
   rw[zCp,YY,zKQ k n j (by omega),show k-1-j=k+1-1-(j+1) by omega]
theorem zKR (n:Nat):∀(j k:Nat),n<16 ^ k→Fi.low (j+k) n=List.replicate j 0++Fi.low k n
 | 0,k,_=>by simp
 | j+1,k,h=>by
   have hk:n<16 ^ (j+k):=Zf h (Xe (by decide) (by omega));rw[show j+1+k=(j+k)+1 by omega,zCp,Kg hk,zKR n j k h];rfl
theorem zE7:∀(k n:Nat),∀d∈Fi.low k n,d<16
 | 0,_,d,h=>by simp[Fi.low]at h
 | k+1,n,d,h=>by
   rw[Fi.low,Xj]at h;rcases h with h|h
   · exact zE7 k _ d h
   simp at h;omega
theorem zQo (n:Nat):Fi.text n=List.replicate (4-zBk n) 48++(Fi.low (zBk n) n).map zBW:=by
 unfold Fi.text;rw[show max 4 (zBk n)=(4-zBk n)+zBk n by omega,zKR n _ _ (zGQ n),ZL,J1];rfl
theorem Fi.text_len (n:Nat):(Fi.text n).length=max 4 (zBk n):=by simp[Fi.text,zCZ]
theorem zAI (n:Nat) (h:n≤1114111):(Fi.text n).length≤6:=by
 rw[Fi.text_len]
 have:=zBY 5 n (by
  have:(16:Nat) ^ 6=16777216:=by decide
  rw[this];omega)
 omega
def zAM (b:UInt8):Int:=if 48≤b.toNat∧b.toNat≤57 then (b.toNat:Int)-48 else if 65≤b.toNat∧b.toNat≤70 then (b.toNat:Int)-55 else -1
theorem zK2:∀i:Fin 256,Lib.indexByte [48,49,50,51,52,53,54,55,56,57,65,66,67,68,69,70] (UInt8.ofNat i.val)=zAM (UInt8.ofNat i.val):=by decide +kernel
theorem zCx (b:UInt8):Lib.indexByte [48,49,50,51,52,53,54,55,56,57,65,66,67,68,69,70] b=zAM b:=by
 have h:=zK2 ⟨b.toNat,b.toNat_lt⟩;simpa using h
theorem zJz:∀d:Fin 16,zAM (zBW d.val)=d.val:=by decide
theorem zGj (b:UInt8):zAM b<16 ∧ -1≤zAM b:=by unfold zAM;split <;> (try split) <;> omega
theorem zOw (b:UInt8) (h:0≤zAM b):zBW (zAM b).toNat=b:=by
 have h2:=b.toNat_lt;apply UInt8.toNat_inj.1
 unfold zBW;unfold zAM at h ⊢;split at h
 · rename_i hc;rw[Zl hc,Zl (by omega),Qg,XE (by omega)];omega
 rename_i hc;rw[Zk hc];split at h
 · rename_i hd;rw[Zl hd,Zk (by omega),Qg,XE (by omega)];omega
 omega
def Fi.val (l:List UInt8):Int:=l.foldl (fun n b=>n*16+zAM b) 0
def Fi.good (l:List UInt8):Bool:=l.all fun b=>decide (0≤zAM b)
def zDg (l:List UInt8):Bool:=decide (4≤l.length)&&(decide (l.length≤6)&&!(decide (4<l.length)&&l.head? == some 48))
def zAJ (l:List UInt8):Option Int:=if zDg l&&(Fi.good l&&decide (Fi.val l≤1114111)) then some (Fi.val l) else none
theorem zEx (l:List UInt8) (b:UInt8):Fi.val (l++[b])=Fi.val l*16+zAM b:=by simp[Fi.val,Y4]
theorem zCC (l:List UInt8) (b:UInt8):Fi.good (l++[b])=(Fi.good l&&decide (0≤zAM b)):=by simp[Fi.good,Kq]
theorem zKS:∀(k n:Nat),Fi.val ((Fi.low k n).map zBW)=((n%16 ^ k:Nat):Int)
 | 0,n=>by simp[Fi.low,Fi.val,Nat.mod_one]
 | k+1,n=>by
   rw[Fi.low,ZL,ZU,Ym,zEx,zKS k,zJz ⟨n%16,by omega⟩];have h1:n%16 ^ (k+1)=n%16+16*(n/16%16 ^ k):=by rw[Y7,Je,Nat.mod_mul]
   rw[h1];simp only[Kp,Ks];omega
theorem zOx (k n:Nat):Fi.good ((Fi.low k n).map zBW)=true:=by
 simp only[Fi.good,Yg,Jh];rintro b ⟨d,hd,rfl⟩;rw[zJz ⟨d,zE7 _ _ d hd⟩];simp
theorem zOy:∀(n:Nat) (l:List UInt8),l.length=n→Fi.good l=true→0≤Fi.val l∧Fi.val l<((16 ^ l.length:Nat):Int)∧(Fi.low l.length (Fi.val l).toNat).map zBW=l:=by
 intro n
 induction n with
 | zero =>
   intro l hl _;obtain rfl:l=[]:=List.length_eq_zero_iff.1 hl;simp[Fi.val,Fi.low]
 | succ n ih =>
   intro l hl h;rcases YT l with rfl|⟨m,b,hmb⟩
   · simp at hl
   rw[YU]at hmb;subst hmb;rw[Zc,Z8]at hl;rw[zCC,Zr]at h;obtain⟨h1,h2⟩:=h;have h2:=Yf h2;obtain⟨i0,i1,i2⟩:=ih m (by omega) h1;have h3:=(zGj b).1;rw[zEx,Zc,Z8];refine⟨by omega,?_,?_⟩
   · rw[Y7,Ks];omega
   rw[Fi.low,ZL,XL,show (Fi.val m*16+zAM b).toNat/16=(Fi.val m).toNat by omega,i2,
    show (Fi.val m*16+zAM b).toNat%16=(zAM b).toNat by omega,zOw b h2]
theorem zQp (l:List UInt8) (h:Fi.good l=true):0≤Fi.val l∧Fi.val l<((16 ^ l.length:Nat):Int)∧(Fi.low l.length (Fi.val l).toNat).map zBW=l:=zOy _ l rfl h
theorem zGk (c:Nat) (h:c≤1114111):zAJ (Fi.text c)=some (c:Int):=by
 have hv:Fi.val (Fi.text c)=c:=by
  unfold Fi.text;rw[zKS];have h1:=zGQ c;have h2:16 ^ zBk c≤16 ^ max 4 (zBk c):=Xe (by decide) (by omega);rw[XE (by omega)]
 have hg:Fi.good (Fi.text c)=true:=zOx _ _;have hl:=zAI c h;have ag:=Fi.text_len c
 have aa:zDg (Fi.text c)=true:=by
  unfold zDg;rw[Zs (by omega),Zs hl,Xc,Xc];rcases Z3 4 (Fi.text c).length with h4|h4
  rotate_left
  · rw[Zp (by omega)];rfl
  rw[Zs h4,Xc];have ae:max 4 (zBk c)=zBk c:=by omega
  obtain⟨k,hk⟩:∃k,zBk c=k+1:=⟨zBk c-1,by have:=zJy c;omega⟩;unfold Fi.text;rw[ae,hk,zCp,ZU];have h1:=zGQ c;rw[hk,Y7]at h1;have h2:c/16 ^ k<16:=Nat.div_lt_of_lt_mul (by omega)
  have h3:16 ^ k≤c:=by
   rcases Z3 c (16 ^ k) with af|hge
   · have ah:1≤k:=by omega
     have:=zBY (k-1) c (by rw[show k-1+1=k by omega];exact af);omega
   exact hge
  have h4:0<c/16 ^ k:=Nat.div_pos h3 (JG (by decide));rw[XE h2];have key:∀d:Fin 16,0<d.val→zBW d.val≠48:=by decide
  have:=key ⟨c/16 ^ k,h2⟩ h4;simp[this]
 unfold zAJ;rw[aa,hg,hv,Zs (by omega)];rfl
def Fi.Laid (w:World):Prop:=(∃m:Int,w.cell? ⟨1,0,none⟩=some (.int .i64 m))∧w.cell? ⟨9,15,none⟩=some (.int .u8 4)
theorem zOz (w:World):Calls prog 237 #[.int .i64 16] w fun e w'=>e=.returned (.bool true)∧w'=w:=by
 have h:bits .and .i64 16 15=0:=by decide +kernel
 go_enter func237,ntmps237;go_wp2;go_ret;exact⟨by simp[h],rfl⟩
theorem zOA (w:World) (hL:Fi.Laid w):Calls prog 256 #[.int .u64 16] w fun e w'=>e=.returned (.int .i64 4)∧w'=w:=by
 have hc:=hL.2;have h1:IntKind.u64.wrap (-16)=18446744073709551600:=by decide +kernel
 have h2:bits .and .u64 16 18446744073709551600=16:=by decide +kernel
 clear hL;go_enter func256,ntmps256;go_wp2_with fail;go_ret;exact⟨rfl,rfl⟩
theorem zRC (w:World) (hL:Fi.Laid w):Calls prog 238 #[.int .u64 16] w fun e w'=>e=.returned (.int .i64 4)∧w'=w:=by
 go_enter func238,ntmps238;go_wp2_with (refine (zOA _ (by assumption)).mono ?_;rintro e w1 ⟨rfl,rfl⟩);go_ret;exact⟨rfl,rfl⟩
def zN8:ByteArray:=⟨#[48,49,50,51,52,53,54,55,56,57,97,98,99,100,101,102,103,104,105,106,107,108,109,110,111,112,113,114,115,116,117,118,119,120,121,122]⟩
theorem zRD:∀d:Fin 16,zN8.data.toList.getD d.val 0=zE6 d.val:=by decide
theorem zJA:zN8.size=36:=rfl
theorem zQq (W:World) (d:Nat) (h:d<16):(Instr.index 9 (.string ⟨#[48,49,50,51,52,53,54,55,56,57,97,98,99,100,101,102,103,104,105,106,107,108,109,110,111,112,113,114,115,116,117,118,119,120,121,122]⟩) (.int .u64 (d:Int))).run prog W=.ok (.int .u8 ((zE6 d).toNat:Int)) W:=by
 show (Instr.index 9 (.string zN8) (.int .u64 (d:Int))).run prog W=_;rw[run_index_string W 9 zN8 .u64 _ underlying9,dif_pos ⟨by omega,by rw[zJA];omega⟩];have e:((d:Int)).toNat=d:=by omega
 simp only[e];rw[Lib.getD_at zN8 d (by rw[zJA];omega),zRD ⟨d,h⟩]
def zN9 (c k j:Nat):Int:=if 65-k≤j then ((zE6 (c/16 ^ (64-j)%16)).toNat:Int) else 0
def Fi.Arr (W:World) (B c k:Nat):Prop:=(∀j,j<65→W.cell? ⟨B,j,none⟩=some (.int .u8 (zN9 c k j))∧W.frozen? ⟨B,j,none⟩=false)
theorem Fi.Arr.put {W:World} {B c k:Nat} (h:Fi.Arr W B c k) (hk:k<65) (v:Nat) (hv:(zE6 (c/16 ^ k%16)).toNat=v):Fi.Arr (W.setCell ⟨B,64-k,none⟩ (.int .u8 (v:Int))) B c (k+1):=by
 intro j hj;refine⟨?_,by rw[World.frozen?_setCell];exact (h j hj).2⟩;rcases Nat.decEq j (64-k) with hne|rfl
 · rw[World.cell?_setCell_other _ _ _ _ (by simp;try omega),(h j hj).1];unfold zN9
   by_cases h1:65-k≤j
   · rw[Zl h1,Zl (by omega)]
   rw[Zk h1,Zk (by omega)]
 rw[World.cell?_setCell_same _ _ _ (h _ hj).1];unfold zN9;rw[Zl (by omega),show 64-(64-k)=k by omega,hv]
theorem zQr (j:Fin 65):(Tryz.zeroCells317)[j.val]?=some (.int .u8 0):=by
 have e:Tryz.zeroCells317=Array.replicate 65 (.int .u8 0):=by kernel_rfl
 rw[e];simp[j.isLt]
theorem Fi.Laid.alloc {w:World} (h:Fi.Laid w) (o:Obj):Fi.Laid (w.alloc o):=by
 obtain⟨⟨m,h1⟩,h2⟩:=h;exact⟨⟨m,by rw[JH _ _ _ (YK w _ h1)];exact h1⟩,by rw[JH _ _ _ (YK w _ h2)];exact h2⟩
theorem zOB (c:Nat) (hc:c<16777216) (w:World) (hL:Fi.Laid w) :
 Calls prog 210 #[.slice none 0 0,.int .u64 c,.int .i64 16,.bool false,.bool false] w fun e w'=>e=.returned (.tuple #[.slice none 0 0,.string ⟨((Fi.low (zBk c) c).map zE6).toArray⟩])∧Below w.heap.size w w':=by
 obtain⟨W1,aa⟩:∃W1,w.alloc (Obj.cells Tryz.zeroCells317 317)=W1:=⟨_,rfl⟩;have L1:Fi.Laid W1:=by rw[←aa];exact hL.alloc _
 have B1:Below w.heap.size w W1:=by rw[←aa];exact (Zd _ _).alloc (Za _) _
 have A1:Fi.Arr W1 w.heap.size c 0:=by
  rw[←aa];intro j hj;refine⟨?_,World.frozen?_alloc_new _ _ _ _⟩;rw[Jv,zQr ⟨j,hj⟩];unfold zN9;rw[Zk (by omega)]
 have S1:w.heap.size<W1.heap.size:=by rw[←aa];simp
 obtain⟨B,hB⟩:∃B,w.heap.size=B:=⟨_,rfl⟩;have ay:=hy' hB;rw[hB]at B1 A1 S1;have HW:=hy' aa;have HB:=hy' B1;have HA:=hy' A1;have hq:1≤zBk c∧zBk c≤6:=⟨zJy c,zBY 5 c (by rw[show (16:Nat) ^ (5+1)=16777216 from by decide];exact hc)⟩;clear aa B1 A1 hL;go_enter func210,ntmps210;go_upto_region 7 with (fail)
 rw[HW.o];go_wp2_with (fail);refine (zOz _).mono ?_;rintro e w1 ⟨rfl,rfl⟩;go_wp2_with (fail);refine (zRC _ L1).mono ?_;rintro e w2 ⟨rfl,rfl⟩;go_wp2_with (fail);go_loopw [1,13] (fun vu vi wr=>∃k x:Nat,vu=.int .u64 x∧vi=.int .i64 (65-(k:Int))∧k+1≤zBk c∧x=c/16 ^ k∧Fi.Arr wr B c k∧Below B w wr∧B<wr.heap.size) (fun vu _ _=>(intOf vu).toNat)
 case atStart=>exact⟨0,c,rfl,rfl,by omega,by simp,HA.o,HB.o,S1⟩
 obtain⟨k,x,rfl,rfl,hk,hx,hA,ai,hS⟩:=hrel;obtain⟨w3,rfl⟩:∃w3:World,w3=wr:=⟨_,rfl⟩;have hd:x%16<16:=by omega
 have a7:x<16777216:=by
  have:=Kt c (16 ^ k);omega
 have ao:(0:Int)≤65-(k:Int)-1:=by omega
 have av:(65-(k:Int)-1)<65:=by omega
 have hz:(65-(k:Int)-1).toNat=64-k:=by omega
 obtain⟨d,hdd⟩:∃d,x%16=d:=⟨_,rfl⟩;rw[hdd]at hd;have HK:=hy' hk;have HX:=hy' hx;have ah:=hy' ai;have HD:=hy' hdd;obtain⟨v,hv⟩:∃v,(zE6 d).toNat=v:=⟨_,rfl⟩;have hA2:Fi.Arr (w3.setCell ⟨B,64-k,none⟩ (.int .u8 (v:Int))) B c (k+1):=hA.put (by omega) v (by rw[←hx,hdd,hv]);have hcell:=(hA (64-k) (by omega)).1;have aj:=(hA (64-k) (by omega)).2;have ar:=hy' hA2;have aw:∀W,(Instr.index 9 (.string ⟨#[48,49,50,51,52,53,54,55,56,57,97,98,99,100,101,102,103,104,105,106,107,108,109,110,111,112,113,114,115,116,117,118,119,120,121,122]⟩) (.int .u64 (d:Int))).run prog W=.ok (.int .u8 (v:Int)) W:=fun W=>by rw[←hv];exact zQq W d hd
 by_cases hge:(x:Int)≥16
 · have az:bits .and .u64 (x:Int) 15=(d:Int):=by
    rw[show (15:Int)=((15:Nat):Int) from rfl,u64_and_nat x 15 (by omega) (by omega),show 15=2 ^ 4-1 from rfl,Yj,←hdd]
   have a6:((x:Int)).fdiv (2 ^ min (Int.toNat 4) IntKind.u64.bits)=((x/16:Nat):Int):=by
    rw[show (2:Int) ^ min (Int.toNat 4) IntKind.u64.bits=16 from rfl,Int.fdiv_eq_ediv_of_nonneg _ (by decide)];omega
   have ae:k+2≤zBk c:=by
    have h1:16 ^ (k+1)≤c:=by
     have ax:16≤c/16 ^ k:=by rw[←hx];omega
     have:=(Nat.le_div_iff_mul_le (JG (by decide):0<16 ^ k)).1 ax;rw[Y7];omega
    have:=zPq c (k+1) h1;omega
   have ak:x/16=c/16 ^ (k+1):=by rw[hx,Qn,←Y7]
   have aq:=hy' ak;have ap:=hy' ae;clear hA hA2 hx ai hdd hv hk ak ae;go_wp2_with (fail);exact⟨⟨k+1,x/16,by go_num,by go_num,ap.o,aq.o,ar.o,ah.o.setCell (Nat.le_refl _) _,by simpa [World.setCell] using hS⟩,by simp[intOf];omega⟩
 have au:d=x:=by omega
 subst au
 have ae:zBk c=k+1:=by
  have:zBk c≤k+1:=zBY k c (by
   have h1:c/16 ^ k<16:=by rw[←hx];omega
   have:=(Nat.div_lt_iff_lt_mul (JG (by decide):0<16 ^ k)).1 h1;rw[Y7];omega)
  omega
 have ag:prog.arrayLen 317=65:=by kernel_rfl
 have a1:∀W,(Instr.sliceAt 317 (.pointer (some ⟨B,0,none⟩)) (some (.int .i64 (65-(k:Int)-1))) none none).run prog W=.ok (.slice (some ⟨B,64-k,none⟩) (k+1) (k+1)) W:=fun W=>by
  rw[run_sliceAt_array_l W 317 ⟨B,0,none⟩ (by kernel_rfl) .i64 (65-(k:Int)-1) (by omega) (by rw[ag];omega),ag];go_simp;omega
 have hcv:(convert 30 9 (.slice (some ⟨B,64-k,none⟩) (k+1) (k+1))).run prog (w3.setCell ⟨B,64-k,none⟩ (.int .u8 (v:Int)))=.ok (.string ⟨((Fi.low (zBk c) c).map zE6).toArray⟩) (w3.setCell ⟨B,64-k,none⟩ (.int .u8 (v:Int))):=by
  have hlen:((Fi.low (zBk c) c).map zE6).length=k+1:=by rw[Ze,zCZ,ae]
  have h:=Jj (P:=prog) (w3.setCell ⟨B,64-k,none⟩ (.int .u8 (v:Int))) 30 9 5 ⟨B,64-k,none⟩ (k+1) ((Fi.low (zBk c) c).map zE6) underlying30 underlying5 underlying9 (fun j hj=>by
   rw[hlen]at hj;rw[Lib.add_plain,(hA2 (64-k+j) (by omega)).1];unfold zN9;rw[Zl (by omega),show 64-(64-k+j)=k-j by omega];congr 2
   have af:(Fi.low (zBk c) c)[j]?=some (c/16 ^ (k-j)%16):=by
    rw[ae,zKQ (k+1) c j (by omega)];congr 3
   rw[List.getElem_map,(List.getElem?_eq_some_iff.1 af).2])
  rw[hlen]at h;exact h
 clear ag hA hA2 hx ai hdd hv hk ae;go_wp2_with (fail);go_ret2;exact⟨rfl,by first|exact ah.o.setCell (Za _) _|(rw[ay.o];exact ah.o.setCell (Za _) _)⟩
theorem zLE (c:Nat) (hc:c<16777216) (w:World) (hL:Fi.Laid w) :
 Calls prog 131 #[.int .i64 c,.int .i64 16] w fun e w'=>e=.returned (.string ⟨((Fi.low (zBk c) c).map zE6).toArray⟩)∧Below w.heap.size w w':=by
 have inner:∀w:World,Fi.Laid w→Calls prog 170 #[.int .i64 c,.int .i64 16] w fun e w'=>e=.returned (.string ⟨((Fi.low (zBk c) c).map zE6).toArray⟩)∧Below w.heap.size w w':=by
  intro w hL;have aa:¬(c:Int)<0:=by omega
  go_enter func170,ntmps170;go_wp2_with (refine (zOB c hc _ (by assumption)).mono ?_;rintro e w1 ⟨rfl,hb⟩);go_ret;exact⟨rfl,hb⟩
 go_enter func131,ntmps131;go_wp2_with (refine (inner _ (by assumption)).mono ?_;rintro e w1 ⟨rfl,hb⟩);go_ret;exact⟨rfl,hb⟩
theorem zNa (l:List UInt8) (hg:Fi.good l=true) (i:Nat) (hi:i≤6):0≤Fi.val (l.take i)∧Fi.val (l.take i)<16777216:=by
 have aa:Fi.good (l.take i)=true:=by
  simp only[Fi.good,Yg]at hg ⊢;exact fun x hx=>hg x (Z0 hx)
 obtain⟨h0,h1,_⟩:=zQp _ aa;have:(16:Nat) ^ (l.take i).length≤16 ^ 6:=Xe (by decide) (by rw[Zn];omega);clear hg aa;have e:(16:Nat) ^ 6=16777216:=by decide
 rw[e]at this;exact⟨h0,by omega⟩
def zBf (l:List UInt8) (e:Ending):Prop:=e=.returned (.tuple #[.int .i32 ((zAJ l).getD 0),.bool (zAJ l).isSome])
theorem zHw {l:List UInt8} (h:zDg l=false):zAJ l=none:=by unfold zAJ;rw[h];rfl
theorem zKT {l:List UInt8} (h:¬Fi.good l=true):zAJ l=none:=by unfold zAJ;rw[Bool.not_eq_true]at h;rw[h,Bool.false_and,Bool.and_false];rfl
theorem zI7 {l:List UInt8} (h:Fi.good l=true) (i:Nat):Fi.good (l.take i)=true:=by
 simp only[Fi.good,Yg]at h ⊢;exact fun x hx=>h x (Z0 hx)
theorem zI8 (s:ByteArray) (i:Nat) (h:i<s.size):s.data.toList.take (i+1)=s.data.toList.take i++[s[i]]:=by
 have h':i<s.data.toList.length:=by simpa using h
 rw[YI h'];rfl
theorem zJB (s:ByteArray):s.data.toList.take s.size=s.data.toList:=Zi (by simp)
theorem zGl (s:ByteArray) (h:0<s.size):s.data.toList.head?=some s[0]:=by
 rw[List.head?_eq_getElem?,List.getElem?_eq_getElem (by simpa using h)];rfl
theorem zFC (s:ByteArray) (w:World) :
 Calls prog 122 #[.string s] w fun e w'=>zBf s.data.toList e∧w'=w:=by
 rcases Z3 s.size 4 with h4|h4
 · have hN:zAJ s.data.toList=none:=zHw (by unfold zDg;rw[decide_eq_false (by simp;omega)];rfl);have i4:(s.size:Int)<4:=by omega
   go_enter func122,ntmps122;go_wp2;go_ret2;exact⟨by unfold zBf;rw[hN];rfl,rfl⟩
 rcases Z3 6 s.size with h6|h6
 · have hN:zAJ s.data.toList=none:=zHw (by unfold zDg;rw[decide_eq_false (p:=s.data.toList.length≤6) (by simp;omega),Bool.false_and,Bool.and_false]);have i4:¬(s.size:Int)<4:=by omega
   have i6:(s.size:Int) > 6:=by omega
   go_enter func122,ntmps122;go_wp2;go_ret2;exact⟨by unfold zBf;rw[hN];rfl,rfl⟩
 have i4:¬(s.size:Int)<4:=by omega
 have i6:¬(s.size:Int) > 6:=by omega
 have l4:decide (4≤s.data.toList.length)=true:=Zs (by simp;omega);have l6:decide (s.data.toList.length≤6)=true:=Zs (by simp;omega);rcases Z3 4 s.size with h5|h5
 rotate_left
 · have i5:¬(s.size:Int) > 4:=by omega
   have hL:zDg s.data.toList=true:=by unfold zDg;rw[l4,l6,decide_eq_false (p:=4<s.data.toList.length) (by simp;omega)];rfl
   have HL:=hy' hL;clear hL l4 l6;go_enter func122,ntmps122;go_wp2_with fail;go_loop [4,27] (fun vn vi=>∃i:Nat,i≤s.size∧vi=.int .i64 i∧vn=.int .i64 (Fi.val (s.data.toList.take i))∧Fi.good (s.data.toList.take i)=true) (fun _ vi=>s.size-(intOf vi).toNat)
   case atStart=>exact⟨0,by omega,rfl,rfl,rfl⟩
   obtain⟨i,hi,rfl,rfl,hg⟩:=hrel;have hv:=zNa _ hg i (by omega);rw[JI,Kc]at hv;obtain⟨v,ae⟩:∃v,Fi.val (s.data.toList.take i)=v:=⟨_,rfl⟩;rw[ae]at hv
   by_cases hlt:(i:Int)<s.size
   · have hi':i<s.size:=by omega
     have af:=zI8 s i hi';have n0:(0:Int)≤(i:Int):=by omega
     obtain⟨b,hb⟩:∃b,s[i]=b:=⟨_,rfl⟩;rw[hb]at af;have ah:((b.toNat:Int)).toNat.toUInt8=b:=by simp
     have ai:=zGj b;rcases Jf (zAM b) 0 with hd|hd
     · have hN:zAJ s.data.toList=none:=zKT (fun h=>by
        have:=zI7 h (i+1);rw[af,zCC,Zr,Zo]at this;omega)
       clear af hg ae;go_wp2_with (refine (Tryz.strings_IndexByte _ _ _).mono ?_;rintro e w1 ⟨rfl,rfl⟩;rw[ah,zCx]);go_ret2;exact⟨by unfold zBf;rw[hN];rfl,rfl⟩
     have ak:¬zAM b<0:=by omega
     have hval:Fi.val (s.data.toList.take (i+1))=v*16+zAM b:=by rw[af,zEx,ae]
     have aa:Fi.good (s.data.toList.take (i+1))=true:=by rw[af,zCC,hg,Zs hd];rfl
     have HV:=hy' hval;have HG:=hy' aa;have ag:=hy' ae;clear af hg hval aa ae;rw[ag.o];go_wp2_with (refine (Tryz.strings_IndexByte _ _ _).mono ?_;rintro e w1 ⟨rfl,rfl⟩;rw[ah,zCx]);exact⟨⟨i+1,by omega,by go_num,by rw[HV.o],HG.o⟩,by simp[intOf];omega⟩
   obtain rfl:i=s.size:=by omega
   rw[zJB]at hg ae ⊢;have HG:=hy' hg;have ag:=hy' ae;clear hg ae;rw[ag.o]
   by_cases hbig:v > 1114111
   · have hN:zAJ s.data.toList=none:=by unfold zAJ;rw[ag.o,decide_eq_false (by omega),Bool.and_false,Bool.and_false];rfl
     go_wp2;go_ret2;exact⟨by unfold zBf;rw[hN];rfl,rfl⟩
   have hN:zAJ s.data.toList=some v:=by unfold zAJ;rw[HL.o,HG.o,ag.o,decide_eq_true (by omega)];rfl
   have HN:=hy' hN;clear hN;go_wp2;go_ret2;exact⟨by unfold zBf;rw[HN.o];rfl,rfl⟩
 have i5:(s.size:Int) > 4:=by omega
 have i0:(0:Int)<s.size:=by omega
 have h0:0<s.size:=by omega
 obtain⟨b,hb⟩:∃b,s[0]=b:=⟨_,rfl⟩;have hh:=zGl s h0;rw[hb]at hh
 by_cases hz:b=48
 · have hN:zAJ s.data.toList=none:=zHw (by unfold zDg;rw[l4,l6,hh,hz,decide_eq_true (p:=4<s.data.toList.length) (by simp;omega)];rfl);have aj:(b.toNat:Int)=48:=by rw[hz];rfl
   clear hh hz;go_enter func122,ntmps122;go_wp2_with fail;go_ret2;exact⟨by unfold zBf;rw[hN];rfl,rfl⟩
 have hL:zDg s.data.toList=true:=by unfold zDg;rw[l4,l6,hh];simp[hz]
 have aj:¬(b.toNat:Int)=48:=fun h=>hz (UInt8.toNat_inj.1 (show b.toNat=48 by omega))
 have HL:=hy' hL;clear hh hz hL l4 l6;go_enter func122,ntmps122;go_wp2_with fail;go_loop [4,27] (fun vn vi=>∃i:Nat,i≤s.size∧vi=.int .i64 i∧vn=.int .i64 (Fi.val (s.data.toList.take i))∧Fi.good (s.data.toList.take i)=true) (fun _ vi=>s.size-(intOf vi).toNat)
 case atStart=>exact⟨0,by omega,rfl,rfl,rfl⟩
 obtain⟨i,hi,rfl,rfl,hg⟩:=hrel;have hv:=zNa _ hg i (by omega);rw[JI,Kc]at hv;obtain⟨v,ae⟩:∃v,Fi.val (s.data.toList.take i)=v:=⟨_,rfl⟩;rw[ae]at hv
 by_cases hlt:(i:Int)<s.size
 · have hi':i<s.size:=by omega
   have af:=zI8 s i hi';have n0:(0:Int)≤(i:Int):=by omega
   obtain⟨b,hb⟩:∃b,s[i]=b:=⟨_,rfl⟩;rw[hb]at af;have ah:((b.toNat:Int)).toNat.toUInt8=b:=by simp
   have ai:=zGj b;rcases Jf (zAM b) 0 with hd|hd
   · have hN:zAJ s.data.toList=none:=zKT (fun h=>by
      have:=zI7 h (i+1);rw[af,zCC,Zr,Zo]at this;omega)
     clear af hg ae;go_wp2_with (refine (Tryz.strings_IndexByte _ _ _).mono ?_;rintro e w1 ⟨rfl,rfl⟩;rw[ah,zCx]);go_ret2;exact⟨by unfold zBf;rw[hN];rfl,rfl⟩
   have ak:¬zAM b<0:=by omega
   have hval:Fi.val (s.data.toList.take (i+1))=v*16+zAM b:=by rw[af,zEx,ae]
   have aa:Fi.good (s.data.toList.take (i+1))=true:=by rw[af,zCC,hg,Zs hd];rfl
   have HV:=hy' hval;have HG:=hy' aa;have ag:=hy' ae;clear af hg hval aa ae;rw[ag.o];go_wp2_with (refine (Tryz.strings_IndexByte _ _ _).mono ?_;rintro e w1 ⟨rfl,rfl⟩;rw[ah,zCx]);exact⟨⟨i+1,by omega,by go_num,by rw[HV.o],HG.o⟩,by simp[intOf];omega⟩
 obtain rfl:i=s.size:=by omega
 rw[zJB]at hg ae ⊢;have HG:=hy' hg;have ag:=hy' ae;clear hg ae;rw[ag.o]
 by_cases hbig:v > 1114111
 · have hN:zAJ s.data.toList=none:=by unfold zAJ;rw[ag.o,decide_eq_false (by omega),Bool.and_false,Bool.and_false];rfl
   go_wp2;go_ret2;exact⟨by unfold zBf;rw[hN];rfl,rfl⟩
 have hN:zAJ s.data.toList=some v:=by unfold zAJ;rw[HL.o,HG.o,ag.o,decide_eq_true (by omega)];rfl
 have HN:=hy' hN;clear hN;go_wp2;go_ret2;exact⟨by unfold zBf;rw[HN.o];rfl,rfl⟩
theorem Fi.Laid.below {w w':World} (h:Fi.Laid w) (hb:Below w.heap.size w w'):Fi.Laid w':=by
 obtain⟨⟨m,h1⟩,h2⟩:=h;exact⟨⟨m,by rw[(zAU hb).1 _ _ (YK w _ h1)];exact h1⟩,by rw[(zAU hb).1 _ _ (YK w _ h2)];exact h2⟩
def Fi.LaidM (w:World):Prop:=∃m:Int,w.cell? ⟨1,0,none⟩=some (.int .i64 m)
theorem Fi.LaidM.below {w w':World} (h:Fi.LaidM w) (hb:Below w.heap.size w w'):Fi.LaidM w':=by
 obtain⟨m,h1⟩:=h;exact⟨m,by rw[(zAU hb).1 _ _ (YK w _ h1)];exact h1⟩
theorem zPr:∀d:Fin 16,Lib.upperB (zE6 d.val)=zBW d.val∧(zE6 d.val).toNat<128:=by decide
theorem zSv (l:List Nat) (h:∀d∈l,d<16):Lib.toUpperA (l.map zE6)=l.map zBW:=by
 unfold Lib.toUpperA;rw[Xd];exact YR fun d hd=>(zPr ⟨d,h d hd⟩).1
theorem zKU:∀c,Lib.repeatL [48] c=List.replicate c 48
 | 0=>rfl
 | c+1=>by rw[Lib.repeatL,zKU c];rfl
theorem zAO (a b:List UInt8):(⟨a.toArray⟩++⟨b.toArray⟩:ByteArray)=⟨(a++b).toArray⟩:=by
 apply Xw
 simp
theorem Fi.text_any (c:Nat) (hc:c<16777216) (w:World) (hL:Fi.Laid w) :
 Calls prog 90 #[.int .i32 c] w fun e w'=>e=.returned (.string ⟨(Fi.text c).toArray⟩)∧Below w.heap.size w w':=by
 obtain⟨n,hn⟩:∃n,zBk c=n:=⟨_,rfl⟩;have aq:=zJy c;have ap:zBk c≤6:=zBY 5 c (by rw[show (16:Nat) ^ (5+1)=16777216 from by decide];exact hc);rw[hn]at aq ap;have h1:∀W:World,Fi.Laid W→Calls prog 131 #[.int .i64 c,.int .i64 16] W fun e w'=>e=.returned (.string ⟨((Fi.low n c).map zE6).toArray⟩)∧Below W.heap.size W w':=fun W hW=>by rw[←hn];exact zLE c hc W hW
 have h2:∀W:World,Calls prog 130 #[.string ⟨((Fi.low n c).map zE6).toArray⟩] W fun e w'=>e=.returned (.string ⟨((Fi.low n c).map zBW).toArray⟩)∧Below W.heap.size W w':=fun W=>by
  have h:=Tryz.strings_ToUpper_ascii ⟨((Fi.low n c).map zE6).toArray⟩ W (by show ((Fi.low n c).map zE6).toArray.size≤_;simp[zCZ];omega) (by
   intro j b hb;have hm:=Zj hb;simp only[Jh]at hm;obtain⟨d,hd,rfl⟩:=hm;exact (zPr ⟨d,zE7 _ _ d hd⟩).2)
  rw[show Lib.toUpperA (⟨((Fi.low n c).map zE6).toArray⟩:ByteArray).data.toList=(Fi.low n c).map zBW from zSv _ (zE7 n c)]at h;exact h
 have h3:∀(W:World) (k:Nat),k≤4→Calls prog 101 #[.string ⟨#[48]⟩,.int .i64 k] W fun e w'=>e=.returned (.string ⟨(List.replicate k 48).toArray⟩)∧Below W.heap.size W w':=fun W k hk=>by
  have h:=Tryz.strings_Repeat ⟨#[48]⟩ k W (by omega) (by show 1*k≤_;omega);rw[show (⟨#[48]⟩:ByteArray).data.toList=[48] from rfl,zKU]at h;exact h
 have hlen:(⟨((Fi.low n c).map zBW).toArray⟩:ByteArray).size=n:=by show ((Fi.low n c).map zBW).toArray.size=n;simp[zCZ]
 have aa:(⟨(List.replicate (4-n) 48).toArray⟩++⟨((Fi.low n c).map zBW).toArray⟩:ByteArray)=⟨(Fi.text c).toArray⟩:=by
  rw[zAO,zQo,hn]
 have au:(⟨(List.replicate (4-n) 48).toArray⟩:ByteArray).size=4-n:=by show (List.replicate (4-n) (48:UInt8)).toArray.size=_;simp
 obtain⟨raw,af⟩:∃raw,(⟨((Fi.low n c).map zE6).toArray⟩:ByteArray)=raw:=⟨_,rfl⟩;obtain⟨ag,ae⟩:∃ag,(⟨((Fi.low n c).map zBW).toArray⟩:ByteArray)=ag:=⟨_,rfl⟩;obtain⟨zs,ai⟩:∃zs,(⟨(List.replicate (4-n) 48).toArray⟩:ByteArray)=zs:=⟨_,rfl⟩;rw[ae]at hlen aa;rw[ai]at aa au;simp only[af]at h1 h2;simp only[ae]at h2;have aj:=fun W=>h3 W (4-n) (by omega)
 simp only[ai]at aj;clear af ae ai h3 hn;have HR:=hy' aa;clear aa;have ao:¬9223372036854775807<zs.size+ag.size:=by omega
 go_enter func90,ntmps90;go_wp2_with fail;refine (h1 _ (by assumption)).mono ?_;rintro e w1 ⟨rfl,ah⟩;go_wp2_with fail;refine (h2 _).mono ?_;rintro e w2 ⟨rfl,ak⟩;have hm:max (4-(n:Int)) 0=((4-n:Nat):Int):=by omega
 go_wp2_with fail;refine (aj _).mono ?_;rintro e w3 ⟨rfl,ar⟩;go_wp2_with fail;go_ret;refine⟨by rw[HR.o];rfl,(ah.trans (ak.mono ah.size)).trans (ar.mono (Zh ah.size ak.size))⟩
def zBA (l:List UInt8):List UInt8:=Lib.trimB (Lib.cut l [35]).1 32
theorem zDO (w:World) (n:Nat):Below w.heap.size w (w.drewN n):=⟨rfl,rfl,rfl,by simp[Qx],fun k hk=>by simp[Qx]⟩
theorem zNb (s:ByteArray) (hs:s.size<4294967281) (w:World) (hL:Fi.LaidM w) :
 Calls prog 82 #[.string s] w fun e w'=>e=.returned (.string ⟨(zBA s.data.toList).toArray⟩)∧Below w.heap.size w w':=by
 obtain⟨m,hm⟩:=hL;have h1:=Tryz.strings_Cut s ⟨#[35]⟩ m w hs hm;obtain⟨a,ha⟩:∃a,(⟨(Lib.cut s.data.toList [35]).1.toArray⟩:ByteArray)=a:=⟨_,rfl⟩
 have aa:a.size≤s.size:=by
  rw[←ha];show (Lib.cut s.data.toList [35]).1.toArray.size≤s.size;have h2:s.data.toList.length=s.size:=by simp
  unfold Lib.cut;split <;> simp <;> omega
 have h2:∀W:World,Calls prog 121 #[.string a,.string ⟨#[32]⟩] W fun e w'=>e=.returned (.string ⟨(zBA s.data.toList).toArray⟩)∧Below W.heap.size W w':=fun W=>by
  refine (Tryz.strings_Trim_one a 32 (by decide) W (by omega)).mono ?_;rintro e w' ⟨rfl,hw⟩;refine⟨by rw[←ha];rfl,?_⟩;rcases hw with rfl|rfl
  · exact Zd _ _
  exact (Zd _ _).drew
 rw[show (⟨#[35]⟩:ByteArray).data.toList=[35] from rfl,ha]at h1;clear ha hm;go_enter func82,ntmps82;go_wp2_with fail;refine h1.mono ?_;rintro e w1 ⟨rfl,q,rfl⟩;go_wp2_with fail;refine (h2 _).mono ?_;rintro e w2 ⟨rfl,hb⟩;go_wp2_with fail;go_ret;exact⟨rfl,(zDO w q).trans (hb.mono (by simp[Qx]))⟩
def zQs (W:World) (l:List (List UInt8)) (e:Ending) (w':World):Prop :=
 ∃(A:Option Addr) (n c:Nat),e=.returned (.slice A n c)∧l.length=n∧Sl w' w'.heap.size A (l.map fun x=>Value.string ⟨x.toArray⟩)∧Below W.heap.size W w'
def zAm (c:UInt8):List UInt8→List UInt8→List (List UInt8)
 | w,[]=>[w]
 | w,b::r=>if b=c then w::zAm c [] r else zAm c (w++[b]) r
theorem zRE (c:UInt8):∀(l w:List UInt8),zAm c w l≠[]
 | [],w=>by simp[zAm]
 | b::r,w=>by
   unfold zAm;split
   · simp
   exact zRE c r _
theorem zHx (c:UInt8):∀(a w r:List UInt8),c∉a→zAm c w (a++r)=zAm c (w++a) r
 | [],w,r,_=>by simp
 | b::a,w,r,h=>by
   have hb:b≠c:=fun e=>h (by rw[e];exact ZI)
   rw[ZN,zAm,Zk hb,zHx c a _ r (fun h'=>h (ZT _ h')),Zz];rfl
theorem zBE (c:UInt8) (a r:List UInt8) (h:c∉a):zAm c [] (a++c::r)=a::zAm c [] r:=by
 rw[zHx c a [] _ h,zAm,Zl rfl];rfl
theorem zCq (c:UInt8) (a:List UInt8) (h:c∉a):zAm c [] a=[a]:=by
 have:=zHx c a [] [] h;rw[ZC]at this;rw[this];rfl
theorem zHy (c:UInt8):∀(l w:List UInt8),(zAm c w l).length≤l.length+1
 | [],w=>by simp[zAm]
 | b::r,w=>by
   unfold zAm;split
   · have:=zHy c r [];simp;omega
   have:=zHy c r (w++[b]);simp;omega
theorem zF8 (c:UInt8):∀(l w:List UInt8),∀x∈zAm c w l,x.length≤w.length+l.length
 | [],w,x,h=>by simp[zAm]at h;subst h;simp
 | b::r,w,x,h=>by
   unfold zAm at h;split at h
   · rcases List.mem_cons.1 h with rfl|h
     · simp
     have:=zF8 c r [] x h;simp at this ⊢;omega
   have:=zF8 c r (w++[b]) x h;simp at this ⊢;omega
theorem zCr (c:UInt8):∀l:List UInt8,Lib.indexByte l c = -1→c∉l
 | [],_=>by simp
 | b::l,h=>by
   unfold Lib.indexByte at h;split at h
   · cases h
   rename_i hb;split at h
   · rename_i h2;have:=zCr c l (by simpa using h2);simp at hb;simp[this,Yc hb]
   have:=Lib.indexByte_ge l c;rename_i h2;simp at h2;omega
theorem zCs (c:UInt8):∀(l:List UInt8) (i:Nat),Lib.indexByte l c=i→l=l.take i++c::l.drop (i+1)∧c∉l.take i
 | [],i,h=>by
   simp only[Lib.indexByte]at h;omega
 | b::l,i,h=>by
   unfold Lib.indexByte at h;split at h
   · rename_i hb;have hi:i=0:=by omega
     subst hi;simp at hb;subst hb;simp
   rename_i hb;simp at hb;split at h
   · omega
   obtain⟨j,rfl⟩:∃j,i=j+1:=⟨i-1,by have:=Lib.indexByte_ge l c;rename_i h2;simp at h2;omega⟩;obtain⟨h1,h2⟩:=zCs c l j (by omega);refine⟨?_,?_⟩
   · rw[Xl,Qa,ZN,←h1]
   rw[Xl];simp[h2,Yc hb]
theorem zOC (c:UInt8):∀(k:Nat) (s:ByteArray),Lib.countB s ⟨#[c]⟩≤k→(Lib.splitB ⟨#[c]⟩ 0 k s).map (·.data.toList)=zAm c [] s.data.toList:=by
 have ae:∀s:ByteArray,Lib.indexB s ⟨#[c]⟩=Lib.indexByte s.data.toList c:=fun s=>by
  show Lib.index s.data.toList [c]=_;exact Lib.index_one _ _
 intro k
 induction k with
 | zero =>
   intro s hk;rcases Lib.indexB_cases s ⟨#[c]⟩ with aa|⟨i,aa,_⟩
   · rw[Lib.splitB_miss _ _ _ _ aa,zCq c _ (zCr c _ (by rw[←ae];exact aa))];rfl
   have:=Lib.countB_hit s ⟨#[c]⟩ i (Za 1) aa;omega
 | succ k ih =>
   intro s hk;rcases Lib.indexB_cases s ⟨#[c]⟩ with aa|⟨i,aa,_⟩
   · rw[Lib.splitB_miss _ _ _ _ aa,zCq c _ (zCr c _ (by rw[←ae];exact aa))];rfl
   have hc:=Lib.countB_hit s ⟨#[c]⟩ i (Za 1) aa;obtain⟨h1,h2⟩:=zCs c s.data.toList i (by rw[←ae];exact aa);unfold Lib.splitB;rw[Zk (by rw[aa];simp;try omega),aa,ZU]
   have hd:(s.extract (i+1) s.size).data.toList=s.data.toList.drop (i+1):=by
    rw[Lib.extract_data,Zi (by simp)]
   have ht:(s.extract 0 i).data.toList=s.data.toList.take i:=by rw[Lib.extract_data];simp
   have af:=ih (s.extract (i+1) s.size) (by
    have e:(⟨#[c]⟩:ByteArray).size=1:=rfl;rw[e]at hc;omega)
   rw[hd]at af;show (s.extract 0 (((i:Int)).toNat+0)).data.toList::(Lib.splitB ⟨#[c]⟩ 0 k (s.extract (((i:Int)).toNat+1) s.size)).map (·.data.toList)=_;rw[Y5,YQ,ht,af]
   conv=>rhs;rw[h1]
   rw[zBE c _ _ h2]
theorem zOD (c:UInt8) (l:List UInt8):(zAm c [] l).head?=some (Lib.cut l [c]).1:=by
 unfold Lib.cut;rw[Lib.index_one]
 by_cases h:Lib.indexByte l c = -1
 · rw[Zk (by omega),zCq c l (zCr c l h)];rfl
 have hge:=Lib.indexByte_ge l c;obtain⟨i,hi⟩:∃i:Nat,Lib.indexByte l c=i:=⟨(Lib.indexByte l c).toNat,by omega⟩;obtain⟨h1,h2⟩:=zCs c l i hi;rw[Zl (by omega),hi]
 conv=>lhs;rw[h1]
 rw[zBE c _ _ h2];simp
def zAu (c:UInt8):List (List UInt8)→List UInt8
 | []=>[]
 | x::r=>x++(r.map fun y=>c::y).flatten
theorem zNc (c:UInt8) (l:List (List UInt8)) (x:List UInt8):zAu c (l++[x])=(if l=[] then x else zAu c l++c::x):=by
 rcases l with _|⟨y,t⟩
 · simp[zAu]
 simp[zAu]
theorem zGR (c:UInt8) (b:UInt8) (t:List UInt8):Lib.trimRightB (b::t) c=if Lib.trimRightB t c=[] then (if b=c then [] else [b]) else b::Lib.trimRightB t c:=by
 unfold Lib.trimRightB;rw[List.reverse_cons,List.dropWhile_append]
 by_cases h:(t.reverse.dropWhile (· == c))=[]
 · rw[h];simp[Yw];split <;> simp
 have h':(t.reverse.dropWhile (· == c)).isEmpty=false:=by simpa using h
 rw[h'];simp[h]
theorem zF9 (c:UInt8):∀l:List UInt8,Lib.trimB l c=Lib.trimRightB (Lib.trimLeftB l c) c
 | []=>rfl
 | b::t=>by
   have ih:=zF9 c t;unfold Lib.trimB Lib.trimLeftB at ih ⊢;rw[zGR,Yw]
   by_cases hb:b=c
   · subst hb;simp only[Q9,Yo];split
     · rename_i h;rw[←ih,h]
     rw[Yw];simp only[Q9,Yo];exact ih
   have aa:(b == c)=false:=by simpa using hb
   rw[aa];simp only[hb,Ye,ZF];rw[zGR];simp only[hb,Ye];split
   · rw[Yw,aa];simp
   rw[Yw,aa];simp
theorem zLF (c:UInt8) (l:List UInt8):Lib.trimRightB (l++[c]) c=Lib.trimRightB l c:=by
 unfold Lib.trimRightB;rw[JR];simp[Yw]
theorem zLG (c:UInt8) (l:List UInt8) (b:UInt8) (h:b≠c):Lib.trimRightB (l++[b]) c=l++[b]:=by
 unfold Lib.trimRightB;rw[JR];simp[Yw,h]
def zDh (l:List UInt8):Int:=l.foldl (fun n b=>10*n+((b.toNat:Int)-48)) 0
def zNd (b:UInt8):Bool:=decide (48≤b.toNat)&&decide (b.toNat≤57)
def zLH (l:List UInt8) (aa:Int):Bool:=(l == Lib.decDigits (zDh l).toNat)&&decide (zDh l≤aa)
def zDi (l:List UInt8) (aa:Int):Option Int:=if zLH l aa then some (zDh l) else none
theorem zNe (l:List UInt8) (b:UInt8):zDh (l++[b])=10*zDh l+((b.toNat:Int)-48):=by simp[zDh,Y4]
theorem zID (d:Nat) (h:d<10):(UInt8.ofNat (48+d)).toNat=48+d:=by rw[Qg,XE (by omega)]
theorem zGm (u:Nat):zDh (Lib.decDigits u)=(u:Int):=by
 rw[Lib.decDigits];split
 · rename_i h;simp only[zDh,Yy,QK,zID u h];omega
 · rename_i h;rw[zNe,zGm (u/10),zID _ (by omega)];omega
 termination_by u
 decreasing_by omega
theorem zEy (u:Nat):∀b∈Lib.decDigits u,zNd b=true:=by
 rw[Lib.decDigits];split
 · rename_i h;intro b hb;rw[ZE]at hb;subst hb;unfold zNd;rw[zID u h,Zs (by omega),Zs (by omega)];rfl
 · intro b hb;rcases List.mem_append.1 hb with h|h
   · exact zEy (u/10) b h
   rw[ZE]at h;subst h;unfold zNd;rw[zID _ (by omega),Zs (by omega),Zs (by omega)];rfl
 termination_by u
 decreasing_by omega
theorem zRF (u:Nat):Lib.decDigits u≠[]:=by
 rw[Lib.decDigits];split
 · simp
 simp
theorem zD0:∀(k u:Nat),u<10 ^ (k+1)→(Lib.decDigits u).length≤k+1
 | 0,u,h=>by rw[Lib.decDigits,dif_pos (by simpa using h)];simp
 | k+1,u,h=>by
   rw[Lib.decDigits];split
   · simp
   have:=zD0 k (u/10) (by rw[Y7]at h;omega);simp;omega
theorem zI9 (u:Nat) (aa:Int) (h:(u:Int)≤aa):zDi (Lib.decDigits u) aa=some (u:Int):=by
 unfold zDi zLH;rw[zGm,Y5,Q9,Zs h];rfl
theorem zOE {l:List UInt8} {aa v:Int} (h:zDi l aa=some v):∃u:Nat,v=u∧(u:Int)≤aa∧l=Lib.decDigits u:=by
 unfold zDi at h;split at h
 · rename_i h1;unfold zLH at h1;rw[Zr,YV,Zo]at h1;obtain⟨h2,h3⟩:=h1
   have h4:zDh l=((zDh l).toNat:Int):=by
    conv=>lhs;rw[h2,zGm]
   simp only[Zg]at h;exact⟨(zDh l).toNat,by rw[←h];exact h4,by omega,h2⟩
 cases h
theorem zFV {l:List UInt8} {aa:Int} (h:∀u:Nat,(u:Int)≤aa→l≠Lib.decDigits u):zDi l aa=none:=by
 rcases hn:zDi l aa with _|v
 · rfl
 obtain⟨u,_,h2,h3⟩:=zOE hn;exact absurd h3 (h u h2)
theorem zFW:∀(a:List UInt8) (b:UInt8) (acc:Nat),Lib.decFrom acc (a++[b])=(Lib.decFrom acc a).bind fun n=>(Lib.digitVal b).map fun d=>n*10+d
 | [],b,acc=>by
   simp only[ZV,Lib.decFrom];rcases Lib.digitVal b with _|d <;> rfl
 | c::t,b,acc=>by
   simp only[ZN,Lib.decFrom];rcases Lib.digitVal c with _|d
   · rfl
   exact zFW t b _
theorem zFa (d:Nat) (h:d<10):Lib.digitVal (UInt8.ofNat (48+d))=some d:=by
 have key:∀d:Fin 10,Lib.digitVal (UInt8.ofNat (48+d.val))=some d.val:=by decide
 exact key ⟨d,h⟩
theorem zFX (u:Nat):Lib.decFrom 0 (Lib.decDigits u)=some u:=by
 rw[Lib.decDigits];split
 · rename_i h;simp only[Lib.decFrom,zFa u h];simp
 · rename_i h;rw[zFW,zFX (u/10),Zv,zFa _ (by omega),Zw];congr 1;omega
 termination_by u
 decreasing_by omega
theorem zJC (u:Nat) (h:u<10000000000):Lib.atoiAll (Lib.decDigits u)=.ok (u:Int):=by
 have hl:(Lib.decDigits u).length≤10:=zD0 9 u (by rw[show (10:Nat) ^ (9+1)=10000000000 from by decide];exact h);rw[Lib.atoiAll_short _ (by omega)];have hne:=zRF u;have hd:=zEy u;have hf:=zFX u;rcases hc:Lib.decDigits u with _|⟨b,r⟩
 · exact absurd hc hne
 rw[hc]at hd hf;have hb:=hd b ZI;unfold zNd at hb;rw[Zr,Zo,Zo]at hb
 have ae:(b == 45)=false:=by
  rw[Xy];rintro rfl;exact absurd hb.1 (by decide)
 have aa:(b == 43)=false:=by
  rw[Xy];rintro rfl;exact absurd hb.1 (by decide)
 have hn:Lib.decNat (b::r)=some u:=by
  unfold Lib.decNat;simpa using hf
 unfold Lib.atoi;simp only[ae,aa,hn,ZF,Ye];rfl
def zAS:List UInt8→List UInt8→List (List UInt8)
 | w,[]=>if w=[] then [] else [w]
 | w,b::r=>if b=10 then w::zAS [] r else zAS (w++[b]) r
theorem zKV:∀(a w r:List UInt8),(10:UInt8)∉a→zAS w (a++r)=zAS (w++a) r
 | [],w,r,_=>by simp
 | b::a,w,r,h=>by
   have hb:b≠10:=fun e=>h (by rw[e];exact ZI)
   rw[ZN,zAS,Zk hb,zKV a _ r (fun h'=>h (ZT _ h')),Zz];rfl
theorem zQt (a r:List UInt8) (h:(10:UInt8)∉a):zAS [] (a++10::r)=a::zAS [] r:=by
 rw[zKV a [] _ h,zAS,Zl rfl];rfl
theorem zEz:∀(l:List (List UInt8)),(∀x∈l,(10:UInt8)∉x)→zAS [] (l.flatMap fun x=>x++[10])=l
 | [],_=>rfl
 | x::l,h=>by
   rw[Xu,Zz,List.singleton_append,zQt _ _ (h x ZI),zEz l fun y hy=>h y (ZT _ hy)]
theorem zHz:∀(l w:List UInt8),(zAS w l).length≤l.length+1
 | [],w=>by unfold zAS;split <;> simp
 | b::r,w=>by
   unfold zAS;split
   · have:=zHz r [];simp;omega
   have:=zHz r (w++[b]);simp;omega
def zCg (x:List UInt8):Bool:=x.all fun b=>decide (32≤b.toNat)&&decide (b.toNat≤126)
def zCh (x:List UInt8):Bool:=decide (x.length≤1000)&&zCg x
def Rw.mp (f:List UInt8):Option (List Int) :=
 if f=[]∨f.head?=some 60 then some []
 else if (zAm 32 [] f).all (fun x=>(zAJ x).isSome)=true∧(zAm 32 [] f).length≤2 then some ((zAm 32 [] f).map fun x=>(zAJ x).getD 0)
 else none
def Rw.row (F:List (List UInt8)):Option Rw.Row :=
 if F.length=15∧F.getD 1 []≠[] then
  (zAJ (F.getD 0 [])).bind fun c=>(zDi (F.getD 3 []) 254).bind fun k=>(Rw.mp (F.getD 5 [])).map fun m=>(c,k,m)
 else none
def Rw.quiet (r:Rw.Row):Bool:=decide (r.2.1=0)&&decide (r.2.2.length=0)
def Rw.first:List UInt8:=[44,32,70,105,114,115,116,62]
def Rw.last:List UInt8:=[44,32,76,97,115,116,62]
def zCH (s e:List UInt8):Bool:=decide (e.length≤s.length)&&(s.drop (s.length-e.length) == e)
def zC4 (s e:List UInt8):List UInt8:=if zCH s e then s.take (s.length-e.length) else s
def zBP (was name:List UInt8) (q:Bool):Option (List UInt8) :=
 if was≠[]∨zCH name Rw.last=true then (if zCH name Rw.last=true∧zC4 name Rw.last++Rw.first=was∧q=true then some [] else none)
 else if zCH name Rw.first=true then (if q then some (zC4 name Rw.first++Rw.first) else none)
 else some []
abbrev Rw.St:=List Rw.Row × Int × List UInt8
def Rw.step (st:Rw.St) (l:List UInt8):Option Rw.St :=
 (Rw.row (zAm 59 [] l)).bind fun r =>
   if st.2.1<r.1 then (zBP st.2.2 ((zAm 59 [] l).getD 1 []) (Rw.quiet r)).bind fun o =>
    if C.isC r.1=true∨Rw.quiet r=true then some (if Rw.quiet r then st.1 else st.1++[r],r.1,o) else none
   else none
def Rw.steps:Rw.St→List (List UInt8)→Option Rw.St
 | st,[]=>some st
 | st,l::r=>(Rw.step st l).bind fun st'=>Rw.steps st' r
theorem Rw.steps_app:∀(a b:List (List UInt8)) (st:Rw.St),Rw.steps st (a++b)=(Rw.steps st a).bind fun st'=>Rw.steps st' b
 | [],b,st=>rfl
 | l::a,b,st=>by
   rw[ZN,Rw.steps,Rw.steps];rcases Rw.step st l with _|st'
   · rfl
   exact Rw.steps_app a b st'
def Rw.parse (s:List UInt8):Option (List Rw.Row) :=
 if (zAS [] s).all zCh=true∧(zAS [] s).length≤40000 then (Rw.steps ([],-1,[]) (zAS [] s)).bind fun st=>if st.2.2=[] then some st.1 else none
 else none
def Rw.line (r:Rw.Row):List UInt8 :=
 Fi.text r.1.toNat++([59,88,59,59]++(Lib.decDigits r.2.1.toNat++([59,59]++(zAu 32 (r.2.2.map fun c=>Fi.text c.toNat)++[59,59,59,59,59,59,59,59,59]))))
def zFb (r:Rw.Row):List (List UInt8) :=
 [Fi.text r.1.toNat,[88],[],Lib.decDigits r.2.1.toNat,[],zAu 32 (r.2.2.map fun c=>Fi.text c.toNat),[],[],[],[],[],[],[],[],[]]
def Rw.right (r:Rw.Row):Prop:=0≤r.1∧r.1≤1114111∧0≤r.2.1∧r.2.1≤254∧r.2.2.length≤2∧∀c∈r.2.2,0≤c∧c≤1114111
theorem zOF:∀d:Fin 16,48≤(zBW d.val).toNat∧(zBW d.val).toNat≤70∧(zBW d.val)≠59:=by decide
theorem zCi (n:Nat):∀b∈Fi.text n,48≤b.toNat∧b.toNat≤70∧b≠59:=by
 intro b hb;unfold Fi.text at hb;obtain⟨d,hd,rfl⟩:=List.mem_map.1 hb;exact zOF ⟨d,zE7 _ _ d hd⟩
theorem zFD (n:Nat) (c:UInt8) (h:c.toNat<48∨c=59):c∉Fi.text n:=fun hb=>by
 have:=zCi n c hb;rcases h with h|h
 · omega
 exact this.2.2 h
theorem zRG:∀d:Fin 16,zBW d.val≠60:=by decide
theorem zOG (n:Nat):∀b∈Fi.text n,b≠60:=by
 intro b hb;unfold Fi.text at hb;obtain⟨d,hd,rfl⟩:=List.mem_map.1 hb;exact zRG ⟨d,zE7 _ _ d hd⟩
theorem zHA (n:Nat):Fi.text n≠[]:=fun h=>by
 have:=Fi.text_len n;rw[h,ZY]at this;omega
theorem zIa (n:Nat):∀b∈Lib.decDigits n,48≤b.toNat∧b.toNat≤57:=by
 intro b hb;have:=zEy n b hb;unfold zNd at this;rw[Zr,Zo,Zo]at this;exact this
theorem zRH (n:Nat) (c:UInt8) (h:c.toNat<48∨57<c.toNat):c∉Lib.decDigits n:=fun hb=>by
 have:=zIa n c hb;omega
theorem zJD (c:UInt8):∀(l:List (List UInt8)) (x:List UInt8),c∉x→(∀y∈l,c∉y)→zAm c [] (zAu c (x::l))=x::l
 | [],x,hx,_=>by simp[zAu];exact zCq c x hx
 | y::l,x,hx,h=>by
   have e:zAu c (x::y::l)=x++c::zAu c (y::l):=by simp[zAu]
   rw[e,zBE c _ _ hx,zJD c l y (h y ZI) fun z hz=>h z (ZT _ hz)]
theorem zLI (c:UInt8):∀(l:List (List UInt8)),∀b∈zAu c l,b=c∨∃x∈l,b∈x
 | [],b,h=>by simp[zAu]at h
 | x::l,b,h=>by
   simp only[zAu,Xj,List.mem_flatten,Jh]at h;rcases h with h|⟨y,⟨z,hz,rfl⟩,hb⟩
   · exact .inr ⟨x,ZI,h⟩
   rcases List.mem_cons.1 hb with h|h
   · exact .inl h
   exact .inr ⟨z,ZT _ hz,h⟩
theorem zIb (m:List Int):∀b∈zAu 32 (m.map fun c=>Fi.text c.toNat),b=32∨(48≤b.toNat∧b.toNat≤70∧b≠59):=by
 intro b hb;rcases zLI 32 _ b hb with h|⟨x,hx,aa⟩
 · exact .inl h
 obtain⟨c,_,rfl⟩:=List.mem_map.1 hx;exact .inr (zCi _ b aa)
theorem zK3 (r:Rw.Row):zAm 59 [] (Rw.line r)=zFb r:=by
 have hm:(59:UInt8)∉zAu 32 (r.2.2.map fun c=>Fi.text c.toNat):=fun h=>by
  rcases zIb _ _ h with h|h
  · exact absurd h (by decide)
  exact h.2.2 rfl
 unfold Rw.line zFb
 rw[show ∀x:List UInt8,[59,88,59,59]++x=59::([88]++59::([]++59::x)) from fun _=>rfl,zBE 59 _ _ (zFD _ _ (.inr rfl)),zBE 59 _ _ (by decide),zBE 59 _ _ (by decide),
  show ∀x:List UInt8,[59,59]++x=59::([]++59::x) from fun _=>rfl,zBE 59 _ _ (zRH _ _ (.inr (by decide))),zBE 59 _ _ (by decide),zBE 59 _ _ hm]
 rfl
theorem zE8 (r:Rw.Row) (hr:Rw.right r):zCh (Rw.line r)=true:=by
 obtain⟨c0,c1,k0,k1,hm,hc⟩:=hr;have l1:=zAI r.1.toNat (by omega);have l2:=zD0 9 r.2.1.toNat (by rw[show (10:Nat) ^ (9+1)=10000000000 from by decide];omega)
 have l3:(zAu 32 (r.2.2.map fun c=>Fi.text c.toNat)).length≤20:=by
  obtain⟨c,k,m⟩:=r;rcases m with _|⟨a,_|⟨b,_|⟨d,t⟩⟩⟩
  · simp[zAu]
  · have:=zAI a.toNat (by have:=(hc a (by simp)).2;omega);simp[zAu];omega
  · have h1:=zAI a.toNat (by have:=(hc a (by simp)).2;omega);have h2:=zAI b.toNat (by have:=(hc b (by simp)).2;omega);simp[zAu];omega
  simp at hm
 unfold zCh;rw[Zr,Zo];refine⟨?_,?_⟩
 · unfold Rw.line;simp only[Zc,ZB,ZY];omega
 unfold zCg;rw[Yg]
 have key:∀b:UInt8,(b=32∨b=59∨b=88∨(48≤b.toNat∧b.toNat≤70))→(decide (32≤b.toNat)&&decide (b.toNat≤126))=true:=by
  intro b hb;rw[Zr,Zo,Zo];rcases hb with rfl|rfl|rfl|hb
  · decide
  · decide
  · decide
  omega
 intro b hb;apply key
 unfold Rw.line at hb;simp only[Xj]at hb;rcases hb with hb|hb|hb|hb|hb|hb
 · have:=zCi _ b hb;exact .inr (.inr (.inr ⟨this.1,this.2.1⟩))
 · simp at hb;rcases hb with rfl|rfl|rfl|rfl <;> simp
 · have:=zIa _ b hb;exact .inr (.inr (.inr ⟨this.1,by omega⟩))
 · simp at hb;subst hb;simp
 · rcases zIb _ b hb with h|h
   · exact .inl h
   exact .inr (.inr (.inr ⟨h.1,h.2.1⟩))
 simp at hb;subst hb;simp
theorem zQu (r:Rw.Row) (hr:Rw.right r):(10:UInt8)∉Rw.line r:=fun h=>by
 have:=zE8 r hr;unfold zCh zCg at this;rw[Zr,Yg]at this;exact absurd (this.2 10 h) (by decide)
theorem zEA {c:Int} (h:0≤c):((c.toNat:Nat):Int)=c:=by omega
theorem zQv (m:List Int) (hm:m.length≤2) (hc:∀c∈m,0≤c∧c≤1114111):Rw.mp (zAu 32 (m.map fun c=>Fi.text c.toNat))=some m:=by
 rcases m with _|⟨a,t⟩
 · simp[zAu,Rw.mp]
 have hs:zAm 32 [] (zAu 32 ((a::t).map fun c=>Fi.text c.toNat))=(a::t).map fun c=>Fi.text c.toNat :=
  zJD 32 _ _ (zFD _ _ (.inl (by decide))) fun y hy=>by
   obtain⟨c,_,rfl⟩:=List.mem_map.1 hy;exact zFD _ _ (.inl (by decide))
 have hx:∀c∈a::t,zAJ (Fi.text c.toNat)=some c:=fun c aa=>by
  rw[zGk _ (by have:=(hc c aa).2;omega),zEA (hc c aa).1]
 have hne:¬(zAu 32 ((a::t).map fun c=>Fi.text c.toNat)=[]∨(zAu 32 ((a::t).map fun c=>Fi.text c.toNat)).head?=some 60):=by
  obtain⟨b,q,hb⟩:∃b q,Fi.text a.toNat=b::q:=by
   rcases h:Fi.text a.toNat with _|⟨b,q⟩
   · exact absurd h (zHA _)
   exact⟨b,q,rfl⟩
  have ag:=zOG a.toNat b (by rw[hb];exact ZI);rw[ZU,hb];simp only[zAu,ZN,Ku,Zg];rintro (h|h)
  · cases h
  subst h;exact ag rfl
 have ae:(((a::t).map fun c=>Fi.text c.toNat).all fun x=>(zAJ x).isSome)=true:=by
  rw[Yg];intro x af;obtain⟨c,aa,rfl⟩:=List.mem_map.1 af;rw[hx c aa];rfl
 unfold Rw.mp;rw[if_neg hne,hs,if_pos ⟨ae,by simpa using hm⟩,List.map_map];congr 1
 conv=>rhs;rw[←List.map_id (a::t)]
 refine YR fun c aa=>?_
 show (zAJ (Fi.text c.toNat)).getD 0=c;rw[hx c aa];rfl
theorem zLJ (r:Rw.Row) (hr:Rw.right r):Rw.row (zFb r)=some r:=by
 obtain⟨c0,c1,k0,k1,hm,hc⟩:=hr;unfold Rw.row;rw[Zl ⟨rfl,show ([88]:List UInt8)≠[] from by decide⟩];show (zAJ (Fi.text r.1.toNat)).bind (fun c=>(zDi (Lib.decDigits r.2.1.toNat) 254).bind fun k=>(Rw.mp (zAu 32 (r.2.2.map fun c=>Fi.text c.toNat))).map fun m=>(c,k,m))=_;rw[zGk _ (by omega),zI9 _ _ (by omega),zQv _ hm hc,zEA c0,zEA k0];rfl
theorem zIc (out:List Rw.Row) (c:Int) (r:Rw.Row) (hr:Rw.right r) (aa:c<r.1) (hq:C.isC r.1=true∨Rw.quiet r=true) :
 Rw.step (out,c,[]) (Rw.line r)=some (if Rw.quiet r then out else out++[r],r.1,[]):=by
 unfold Rw.step;rw[zK3,zLJ r hr,Zv,Zl aa]
 have:zBP [] ((zFb r).getD 1 []) (Rw.quiet r)=some []:=by
  show zBP [] [88] (Rw.quiet r)=some [];unfold zBP;rw[Zk (by decide),Zk (by decide)]
 show (zBP [] ((zFb r).getD 1 []) (Rw.quiet r)).bind _=_;rw[this,Zv,Zl hq]
def zDj:Int→List Rw.Row→Prop
 | _,[]=>True
 | c,r::l=>c<r.1∧zDj r.1 l
theorem zFY:∀(l:List Rw.Row) (out:List Rw.Row) (c:Int),(∀r∈l,Rw.right r∧(C.isC r.1=true∨Rw.quiet r=true))→zDj c l →
 ∃c',Rw.steps (out,c,[]) (l.map Rw.line)=some (out++l.filter (fun r=>!Rw.quiet r),c',[])
 | [],out,c,_,_=>⟨c,by simp[Rw.steps]⟩
 | r::l,out,c,h,hr=>by
   obtain⟨h1,h2⟩:=h r ZI;rw[ZU,Rw.steps,zIc out c r h1 hr.1 h2,Zv];obtain⟨c',aa⟩:=zFY l (if Rw.quiet r then out else out++[r]) r.1 (fun q hq=>h q (ZT _ hq)) hr.2;refine⟨c',?_⟩;rw[aa,YW]
   by_cases hq:Rw.quiet r=true
   · simp[hq]
   simp[hq]
theorem zK4 (l:List Rw.Row) (h:∀r∈l,Rw.right r∧(C.isC r.1=true∨Rw.quiet r=true)) (hr:zDj (-1) l) (hl:l.length≤40000) :
 Rw.parse ((l.map Rw.line).flatMap fun x=>x++[10])=some (l.filter fun r=>!Rw.quiet r):=by
 have hn:zAS [] ((l.map Rw.line).flatMap fun x=>x++[10])=l.map Rw.line:=zEz _ fun x hx=>by
  obtain⟨r,hm,rfl⟩:=List.mem_map.1 hx;exact zQu r (h r hm).1
 obtain⟨c',ae⟩:=zFY l [] (-1) h hr
 have aa:(l.map Rw.line).all zCh=true:=by
  rw[Yg];intro x hx;obtain⟨r,hm,rfl⟩:=List.mem_map.1 hx;exact zE8 r (h r hm).1
 unfold Rw.parse;rw[hn,Zl ⟨aa,by rw[Ze];exact hl⟩,ae];rfl
end Go.Proofs.YtdbpjmfflofadaaGreatDoor
