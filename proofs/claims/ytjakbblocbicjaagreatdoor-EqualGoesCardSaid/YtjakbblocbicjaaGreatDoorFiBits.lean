/- The layer nfd, by walking its text. -/
import Derived.Test.YtjakbblocbicjaaGreatDoorMdRef5
import Derived.Lib.Bytealg
import Derived.Lib.ItoaMem
set_option maxRecDepth 100000
set_option maxHeartbeats 4000000
set_option linter.unusedVariables false
set_option linter.unusedSimpArgs false
namespace Go.Proofs.YtjakbblocbicjaaGreatDoor
open Go.Proofs.Tryz
section
open Go.RowKit
theorem zQI {T:List Rw.Row} {S:List Int} (ok:Ud.Ok T S) {l:List Int} (h:∀c∈l,C.isC c=true):∀c∈Nf.fl T l,C.isC c=true:=fun c hc=>by
 unfold Nf.fl at hc;obtain⟨x,hx,hy⟩:=List.mem_flatMap.1 hc;exact zIK ok (h x hx) c hy
theorem Nf.chars_isC {T:List Rw.Row} {S:List Int} (ok:Ud.Ok T S) {l:List Int} (h:∀c∈l,C.isC c=true):∀c∈Nf.chars T l,C.isC c=true:=fun c hc =>
 zQI ok h c (((zBW (Md.cls T) _ (Nf.fl T l)).mem c).1 hc)
theorem Nf.chars_len (T:List Rw.Row) (l:List Int):(Nf.chars T l).length=(Nf.fl T l).length:=zEw _ _
theorem Nf.isC_i32 {c:Int} (h:C.isC c=true) : -2147483648≤c∧c≤2147483647:=by have:=Ud.isC_bd h;omega
theorem Nf.apart_any (v:Value) (T:List Rw.Row) (S:List Int) (A:Option Addr) (n c:Nat) (l:List Int) (w:World) (ok:Ud.Ok T S) (h:Ud.Is w v T S) (hl:l.length=n) (hn:n≤3000) (bc:∀x∈l,-2147483648≤x∧x≤2147483647) (hA:Sl w w.heap.size A (l.map (Value.int .i32))) :
 Calls prog 89 #[v,.slice A n c] w (Md.RetOwn (Nf.fl T l) w):=by
 obtain⟨i0,bi,br,bl,bq⟩:=Z2 zBL;have bt:Hy (∀x W,Below w.heap.size w W → -2147483648≤x→x≤2147483647→Calls prog 51 #[v,.int .i32 x] W (RetInts .i32 (Ud.full T x) W)):=hy' fun x W hW h3 h4=>Ud.full_any v T S x W ok (h.below hW) h3 h4
 obtain⟨pv,rfl,_⟩:=h.form;have HL:=hy' hl;have bj:=hy' bc;have HA:=hy' hA;have bm:=hy' (zEa (fun c=>zAS ok c));have ay:=hy' (fun c=>zAS ok c);clear hl bc hA h ok;go_enter func89,ntmps89;go_wp2_with fail;go_loopw [5,7,10] (fun v5 _ i wr=>∃(k:Nat) (sl:Value),k≤n∧i=.int .i64 k∧v5=sl∧wr.ownsRow w.heap.size 21 1 sl (Nf.fl T (l.take k)).length ((Nf.fl T (l.take k)).map (Value.int .i32))∧Below w.heap.size w wr) (fun _ _ i _=>n-(intOf i).toNat)
 case atStart=>exact⟨0,_,ZF _,rfl,rfl,ZE _ _ _ _,Zc _ _⟩
 obtain⟨k,sl,hk,rfl,rfl,aa,af⟩:=hrel;have a8:=af.size
 by_cases hlt:k<n
 · obtain⟨x,hx⟩:∃x,l[k]?=some x:=⟨_,Zb (by rw[HL.o];exact hlt)⟩;obtain⟨a7,a6⟩:=bj.o x (Zj hx);obtain⟨ab,ao,hA2,bz,bf⟩:=HA.o (by rw[Ze,HL.o];omega);have hc:=bf k (by rw[Ze,HL.o];exact hlt);rw[Zo,hx,Zz,←(zAQ af).1 _ _ (by omega)]at hc;have aw:=zFj (T:=T) hx;have au:=bm.o (l.take k);rw[Zr,HL.o]at au;have ar:=ay.o x;have ap:=bt.o x wr af a7 a6;obtain⟨m,hm⟩:∃m,Ud.full T x=m:=⟨_,rfl⟩;obtain⟨S,hS⟩:∃S,Nf.fl T (l.take k)=S:=⟨_,rfl⟩;obtain⟨ml,ak⟩:∃q,m.length=q:=⟨_,rfl⟩;obtain⟨sn,ae⟩:∃q,S.length=q:=⟨_,rfl⟩;unfold RetInts at ap;rw[hm,ak]at ap;rw[hS,ae]at aa;rw[hS,ae]at au;rw[hm,ak]at ar;rw[hS,hm]at aw;have kI:(k:Int)<n:=by omega
   have k0:(0:Int)≤k:=by omega
   have bh:=hy' aw;have ah:=hy' aa;have av:=hy' af;have bk:=hy' ak;have ax:=hy' ae;have bx:=hy' ap;have b1:sn≤32*k:=by omega
   have bb:(m.map (Value.int .i32)).length=ml*1:=by rw[Ze,ak];omega
   have az:∀u∈m.map (Value.int .i32),u.oneCell'=true:=zF8 .i32 _;have bu:=hy' bb;have bw:=hy' az;subst hA2;clear hx a7 a6 bf aw au hm hS ak ae ap aa af bb az;go_wp2_with (first|(go_at_call 51;refine bx.o.mono ?_;rintro e w1 ⟨A1,c1,rfl,a1,aq⟩;have aj:=hy' (zA4 ah.o aq (Za _));have bs:=hy' a1;have bg:=hy' (av.o.trans (aq.mono a8));have bo:w.heap.size≤w1.heap.size:=Zh a8 aq.size;clear a1 aq hc)|(at_builtin;refine zAe _ rfl _ _ _ rfl w.heap.size 21 i0 _ 1 4 underlying35 bi br bl bq rfl (by omega) _ sn _ rfl aj.o _ A1 ml c1 (m.map (Value.int .i32)) rfl bu.o bs.o bw.o (by simp only[maxLen];omega) (by omega) bo ?_;intro v1 w4 ag ba bp;have ai:=hy' ag;have bn:=hy' (bg.o.trans ba);clear ag ba bp)|fail);refine⟨⟨k+1,v1,by omega,by first|rfl|go_num,rfl,?_,bn.o⟩,by simp[intOf];omega⟩;rw[bh.o,Zd,ax.o,bk.o,ZL];exact ai.o
 obtain rfl:k=n:=by omega
 rw[Zi (by rw[HL.o];exact Za _)]at aa;obtain⟨S,hS⟩:∃S,Nf.fl T l=S:=⟨_,rfl⟩;obtain⟨sn,ae⟩:∃q,S.length=q:=⟨_,rfl⟩;rw[hS,ae]at aa;obtain⟨A4,c4,rfl⟩:=zA3 aa;have kI:¬(k:Int)<k:=by omega
 have HS:=hy' hS;have ax:=hy' ae;have HO:=hy' aa;have HB:=hy' af;clear aa hS ae af;go_wp2_with fail;go_ret;rw[HS.o];unfold Md.RetOwn;rw[ax.o];exact⟨_,_,rfl,HO.o,HB.o⟩
theorem Nf.Chars_any (v:Value) (T:List Rw.Row) (S:List Int) (A:Option Addr) (n c:Nat) (l:List Int) (w:World) (ok:Ud.Ok T S) (h:Ud.Is w v T S) (hl:l.length=n) (hn:n≤3000) (av:∀x∈l,-2147483648≤x∧x≤2147483647) (hA:Sl w w.heap.size A (l.map (Value.int .i32))) (af:∀ao cd k N,(∀(args:Array Value) (w:World),(callFunc ao args).run prog w=.ok (.enter ao args) w)→zE7 ao cd k N) :
 Calls prog 65 #[v,.slice A n c] w (Md.RetOwn (Nf.chars T l) w):=by
 have ap:=Nf.apart_any v T S A n c l w ok h hl hn av hA;have ai:Hy (∀A' m c' W,Below w.heap.size w W→(Nf.fl T l).length=m→m≤100000→Sl W W.heap.size A' ((Nf.fl T l).map (Value.int .i32))→Calls prog 88 #[v,.slice A' m c'] W (Md.RetOwn (Nf.chars T l) W)):=hy' fun A' m c' W hW h1 h2 h3=>Or.of_any v T S A' m c' (Nf.fl T l) W ok (h.below hW) h1 h2 h3 af
 have ar:=zEa (fun c=>zAS ok c) l;obtain⟨F,hF⟩:∃F,Nf.fl T l=F:=⟨_,rfl⟩;obtain⟨Z,hZ⟩:∃Z,Nf.chars T l=Z:=⟨_,rfl⟩;obtain⟨fn,ag⟩:∃k,F.length=k:=⟨_,rfl⟩;obtain⟨zn,ak⟩:∃k,Z.length=k:=⟨_,rfl⟩;unfold Md.RetOwn at *;rw[hF,ag]at ap;rw[hF,hZ,ak]at ai;rw[hF,ag]at ar;rw[hZ,ak];have ax:fn≤100000:=by omega
 have az:=hy' ag;have au:=hy' ap;obtain⟨pv,rfl,_⟩:=h.form;clear ap ar hF hZ ag ak ok h hl av hA af;go_enter func65,ntmps65;go_wp2_with fail;refine au.o.mono ?_;rintro e w1 ⟨A1,c1,rfl,ae,aj⟩;have HO:=hy' (ai.o A1 fn c1 w1 aj az.o ax (Sl.of_own ae));have ah:=hy' aj;clear ae aj ai au;go_wp2_with fail;refine HO.o.mono ?_;rintro e w2 ⟨A2,c2,rfl,aa,aq⟩;have ay:=hy' (zAR aa ah.o.size);have aw:=hy' (ah.o.trans (aq.mono ah.o.size));clear aa aq HO;go_wp2_with fail;go_ret;exact⟨_,_,rfl,ay.o,aw.o⟩
end
section
open Go.RowKit Go.Stop
def zBT (d:Nat):UInt8:=UInt8.ofNat (if d<10 then 48+d else 55+d)
def zDN (d:Nat):UInt8:=UInt8.ofNat (if d<10 then 48+d else 87+d)
def Fi.low:Nat→Nat→List Nat
 | 0,_=>[]
 | k+1,n=>Fi.low k (n/16)++[n%16]
def zBg (n:Nat):Nat:=if h:n<16 then 1 else zBg (n/16)+1
 termination_by n
 decreasing_by omega
def Fi.text (n:Nat):List UInt8:=(Fi.low (max 4 (zBg n)) n).map zBT
theorem zIZ (n:Nat):1≤zBg n:=by rw[zBg];split <;> omega
theorem zBU:∀(k n:Nat),n<16 ^ (k+1)→zBg n≤k+1
 | 0,n,h=>by rw[zBg,dif_pos (by simpa using h)];exact Nat.le_refl _
 | k+1,n,h=>by
   rw[zBg];split
   · omega
   have:=zBU k (n/16) (by rw[Xb]at h;omega);omega
theorem zGv (n:Nat):n<16 ^ zBg n:=by
 rw[zBg];split
 · simpa
 · have:=zGv (n/16);rw[Xb];omega
 termination_by n
 decreasing_by omega
theorem zOE (n k:Nat) (h:16 ^ k≤n):k+1≤zBg n:=by
 rcases Z0 (zBg n) (k+1) with hl|hl
 · have h1:=zGv n;have h2:16 ^ zBg n≤16 ^ k:=Xg (by decide) (by omega);omega
 exact hl
theorem zCP:∀k n,(Fi.low k n).length=k
 | 0,_=>rfl
 | k+1,n=>by simp[Fi.low,zCP k]
theorem zCh:∀(k n:Nat),Fi.low (k+1) n=(n/16 ^ k%16)::Fi.low k n
 | 0,n=>by simp[Fi.low]
 | k+1,n=>by
   rw[Fi.low,zCh k (n/16),Fi.low,Qf,Xb,Q6 16];rfl
theorem zKh:∀(k n j:Nat),j<k→(Fi.low k n)[j]?=some (n/16 ^ (k-1-j)%16)
 | 0,_,_,h=>by omega
 | k+1,n,0,_=>by rw[zCh];simp
 | k+1,n,j+1,h=>by
   rw[zCh,YN,zKh k n j (by omega),show k-1-j=k+1-1-(j+1) by omega]
theorem zKi (n:Nat):∀(j k:Nat),n<16 ^ k→Fi.low (j+k) n=List.replicate j 0++Fi.low k n
 | 0,k,_=>by simp
 | j+1,k,h=>by
   have hk:n<16 ^ (j+k):=Zf h (Xg (by decide) (by omega));rw[show j+1+k=(j+k)+1 by omega,zCh,J4 hk,zKi n j k h];rfl
theorem zDO:∀(k n:Nat),∀d∈Fi.low k n,d<16
 | 0,_,d,h=>by simp[Fi.low]at h
 | k+1,n,d,h=>by
   rw[Fi.low,Xc]at h;rcases h with h|h
   · exact zDO k _ d h
   simp at h;omega
theorem zPx (n:Nat):Fi.text n=List.replicate (4-zBg n) 48++(Fi.low (zBg n) n).map zBT:=by
 unfold Fi.text;rw[show max 4 (zBg n)=(4-zBg n)+zBg n by omega,zKi n _ _ (zGv n),ZL,JP];rfl
theorem Fi.text_len (n:Nat):(Fi.text n).length=max 4 (zBg n):=by simp[Fi.text,zCP]
theorem zAE (n:Nat) (h:n≤1114111):(Fi.text n).length≤6:=by
 rw[Fi.text_len]
 have:=zBU 5 n (by
  have:(16:Nat) ^ 6=16777216:=by decide
  rw[this];omega)
 omega
def zAH (b:UInt8):Int:=if 48≤b.toNat∧b.toNat≤57 then (b.toNat:Int)-48 else if 65≤b.toNat∧b.toNat≤70 then (b.toNat:Int)-55 else -1
theorem zJv:∀i:Fin 256,Lib.indexByte [48,49,50,51,52,53,54,55,56,57,65,66,67,68,69,70] (UInt8.ofNat i.val)=zAH (UInt8.ofNat i.val):=by decide +kernel
theorem zCp (b:UInt8):Lib.indexByte [48,49,50,51,52,53,54,55,56,57,65,66,67,68,69,70] b=zAH b:=by
 have h:=zJv ⟨b.toNat,b.toNat_lt⟩;simpa using h
theorem zJ0:∀d:Fin 16,zAH (zBT d.val)=d.val:=by decide
theorem zFX (b:UInt8):zAH b<16 ∧ -1≤zAH b:=by unfold zAH;split <;> (try split) <;> omega
theorem zNH (b:UInt8) (h:0≤zAH b):zBT (zAH b).toNat=b:=by
 have h2:=b.toNat_lt;apply UInt8.toNat_inj.1
 unfold zBT;unfold zAH at h ⊢;split at h
 · rename_i hc;rw[Zm hc,Zm (by omega),XC,Xv (by omega)];omega
 rename_i hc;rw[Zk hc];split at h
 · rename_i hd;rw[Zm hd,Zk (by omega),XC,Xv (by omega)];omega
 omega
def Fi.val (l:List UInt8):Int:=l.foldl (fun n b=>n*16+zAH b) 0
def Fi.good (l:List UInt8):Bool:=l.all fun b=>decide (0≤zAH b)
def zD4 (l:List UInt8):Bool:=decide (4≤l.length)&&(decide (l.length≤6)&&!(decide (4<l.length)&&l.head? == some 48))
def zAF (l:List UInt8):Option Int:=if zD4 l&&(Fi.good l&&decide (Fi.val l≤1114111)) then some (Fi.val l) else none
theorem zEe (l:List UInt8) (b:UInt8):Fi.val (l++[b])=Fi.val l*16+zAH b:=by simp[Fi.val,Y6]
theorem zCv (l:List UInt8) (b:UInt8):Fi.good (l++[b])=(Fi.good l&&decide (0≤zAH b)):=by simp[Fi.good,Kc]
theorem zKj:∀(k n:Nat),Fi.val ((Fi.low k n).map zBT)=((n%16 ^ k:Nat):Int)
 | 0,n=>by simp[Fi.low,Fi.val,Nat.mod_one]
 | k+1,n=>by
   rw[Fi.low,ZL,ZV,Yr,zEe,zKj k,zJ0 ⟨n%16,by omega⟩];have h1:n%16 ^ (k+1)=n%16+16*(n/16%16 ^ k):=by rw[Xb,Q6,Nat.mod_mul]
   rw[h1];simp only[Int.natCast_add,Kd];omega
theorem zNI (k n:Nat):Fi.good ((Fi.low k n).map zBT)=true:=by
 simp only[Fi.good,Yj,Ja];rintro b ⟨d,hd,rfl⟩;rw[zJ0 ⟨d,zDO _ _ d hd⟩];simp
theorem zNJ:∀(n:Nat) (l:List UInt8),l.length=n→Fi.good l=true→0≤Fi.val l∧Fi.val l<((16 ^ l.length:Nat):Int)∧(Fi.low l.length (Fi.val l).toNat).map zBT=l:=by
 intro n
 induction n with
 | zero =>
   intro l hl _;obtain rfl:l=[]:=List.length_eq_zero_iff.1 hl;simp[Fi.val,Fi.low]
 | succ n ih =>
   intro l hl h;rcases YW l with rfl|⟨m,b,hmb⟩
   · simp at hl
   rw[YX]at hmb;subst hmb;rw[Zd,YA]at hl;rw[zCv,Zw]at h;obtain⟨h1,h2⟩:=h;have h2:=YM h2;obtain⟨i0,i1,i2⟩:=ih m (by omega) h1;have h3:=(zFX b).1;rw[zEe,Zd,YA];refine⟨by omega,?_,?_⟩
   · rw[Xb,Kd];omega
   rw[Fi.low,ZL,XD,show (Fi.val m*16+zAH b).toNat/16=(Fi.val m).toNat by omega,i2,
    show (Fi.val m*16+zAH b).toNat%16=(zAH b).toNat by omega,zNH b h2]
theorem zPy (l:List UInt8) (h:Fi.good l=true):0≤Fi.val l∧Fi.val l<((16 ^ l.length:Nat):Int)∧(Fi.low l.length (Fi.val l).toNat).map zBT=l:=zNJ _ l rfl h
theorem zFY (c:Nat) (h:c≤1114111):zAF (Fi.text c)=some (c:Int):=by
 have hv:Fi.val (Fi.text c)=c:=by
  unfold Fi.text;rw[zKj];have h1:=zGv c;have h2:16 ^ zBg c≤16 ^ max 4 (zBg c):=Xg (by decide) (by omega);rw[Xv (by omega)]
 have hg:Fi.good (Fi.text c)=true:=zNI _ _;have hl:=zAE c h;have ag:=Fi.text_len c
 have aa:zD4 (Fi.text c)=true:=by
  unfold zD4;rw[Zp (by omega),Zp hl,YY,YY];rcases Z0 4 (Fi.text c).length with h4|h4
  rotate_left
  · rw[Zq (by omega)];rfl
  rw[Zp h4,YY];have ae:max 4 (zBg c)=zBg c:=by omega
  obtain⟨k,hk⟩:∃k,zBg c=k+1:=⟨zBg c-1,by have:=zIZ c;omega⟩;unfold Fi.text;rw[ae,hk,zCh,ZV];have h1:=zGv c;rw[hk,Xb]at h1;have h2:c/16 ^ k<16:=Nat.div_lt_of_lt_mul (by omega)
  have h3:16 ^ k≤c:=by
   rcases Z0 c (16 ^ k) with af|hge
   · have ah:1≤k:=by omega
     have:=zBU (k-1) c (by rw[show k-1+1=k by omega];exact af);omega
   exact hge
  have h4:0<c/16 ^ k:=Nat.div_pos h3 (Jw (by decide));rw[Xv h2];have key:∀d:Fin 16,0<d.val→zBT d.val≠48:=by decide
  have:=key ⟨c/16 ^ k,h2⟩ h4;simp[this]
 unfold zAF;rw[aa,hg,hv,Zp (by omega)];rfl
def Fi.Laid (w:World):Prop:=(∃m:Int,w.cell? ⟨1,0,none⟩=some (.int .i64 m))∧w.cell? ⟨9,15,none⟩=some (.int .u8 4)
theorem zNK (w:World):Calls prog 259 #[.int .i64 16] w fun e w'=>e=.returned (.bool true)∧w'=w:=by
 have h:bits .and .i64 16 15=0:=by decide +kernel
 go_enter func259,ntmps259;go_wp2;go_ret;exact⟨by simp[h],rfl⟩
theorem zNL (w:World) (hL:Fi.Laid w):Calls prog 276 #[.int .u64 16] w fun e w'=>e=.returned (.int .i64 4)∧w'=w:=by
 have hc:=hL.2;have h1:IntKind.u64.wrap (-16)=18446744073709551600:=by decide +kernel
 have h2:bits .and .u64 16 18446744073709551600=16:=by decide +kernel
 clear hL;go_enter func276,ntmps276;go_wp2_with fail;go_ret;exact⟨rfl,rfl⟩
theorem zQJ (w:World) (hL:Fi.Laid w):Calls prog 260 #[.int .u64 16] w fun e w'=>e=.returned (.int .i64 4)∧w'=w:=by
 go_enter func260,ntmps260;go_wp2_with (refine (zNL _ (by assumption)).mono ?_;rintro e w1 ⟨rfl,rfl⟩);go_ret;exact⟨rfl,rfl⟩
def zMn:ByteArray:=⟨#[48,49,50,51,52,53,54,55,56,57,97,98,99,100,101,102,103,104,105,106,107,108,109,110,111,112,113,114,115,116,117,118,119,120,121,122]⟩
theorem zQK:∀d:Fin 16,zMn.data.toList.getD d.val 0=zDN d.val:=by decide
theorem zJ1:zMn.size=36:=rfl
theorem zPz (W:World) (d:Nat) (h:d<16):(Instr.index 9 (.string ⟨#[48,49,50,51,52,53,54,55,56,57,97,98,99,100,101,102,103,104,105,106,107,108,109,110,111,112,113,114,115,116,117,118,119,120,121,122]⟩) (.int .u64 (d:Int))).run prog W=.ok (.int .u8 ((zDN d).toNat:Int)) W:=by
 show (Instr.index 9 (.string zMn) (.int .u64 (d:Int))).run prog W=_;rw[run_index_string W 9 zMn .u64 _ underlying9,dif_pos ⟨by omega,by rw[zJ1];omega⟩];have e:((d:Int)).toNat=d:=by omega
 simp only[e];rw[Lib.getD_at zMn d (by rw[zJ1];omega),zQK ⟨d,h⟩]
def zMo (c k j:Nat):Int:=if 65-k≤j then ((zDN (c/16 ^ (64-j)%16)).toNat:Int) else 0
def Fi.Arr (W:World) (B c k:Nat):Prop:=(∀j,j<65→W.cell? ⟨B,j,none⟩=some (.int .u8 (zMo c k j))∧W.frozen? ⟨B,j,none⟩=false)
theorem Fi.Arr.put {W:World} {B c k:Nat} (h:Fi.Arr W B c k) (hk:k<65) (v:Nat) (hv:(zDN (c/16 ^ k%16)).toNat=v):Fi.Arr (W.setCell ⟨B,64-k,none⟩ (.int .u8 (v:Int))) B c (k+1):=by
 intro j hj;refine⟨?_,by rw[World.frozen?_setCell];exact (h j hj).2⟩;rcases Nat.decEq j (64-k) with hne|rfl
 · rw[World.cell?_setCell_other _ _ _ _ (by simp;try omega),(h j hj).1];unfold zMo
   by_cases h1:65-k≤j
   · rw[Zm h1,Zm (by omega)]
   rw[Zk h1,Zk (by omega)]
 rw[World.cell?_setCell_same _ _ _ (h _ hj).1];unfold zMo;rw[Zm (by omega),show 64-(64-k)=k by omega,hv]
theorem zPA (j:Fin 65):(Tryz.zeroCells327)[j.val]?=some (.int .u8 0):=by
 have e:Tryz.zeroCells327=Array.replicate 65 (.int .u8 0):=by kernel_rfl
 rw[e];simp[j.isLt]
theorem Fi.Laid.alloc {w:World} (h:Fi.Laid w) (o:Obj):Fi.Laid (w.alloc o):=by
 obtain⟨⟨m,h1⟩,h2⟩:=h;exact⟨⟨m,by rw[Jy _ _ _ (YO w _ h1)];exact h1⟩,by rw[Jy _ _ _ (YO w _ h2)];exact h2⟩
theorem zNM (c:Nat) (hc:c<16777216) (w:World) (hL:Fi.Laid w) :
 Calls prog 231 #[.slice none 0 0,.int .u64 c,.int .i64 16,.bool false,.bool false] w fun e w'=>e=.returned (.tuple #[.slice none 0 0,.string ⟨((Fi.low (zBg c) c).map zDN).toArray⟩])∧Below w.heap.size w w':=by
 obtain⟨W1,aa⟩:∃W1,w.alloc (Obj.cells Tryz.zeroCells327 327)=W1:=⟨_,rfl⟩;have L1:Fi.Laid W1:=by rw[←aa];exact hL.alloc _
 have B1:Below w.heap.size w W1:=by rw[←aa];exact (Zc _ _).alloc (Za _) _
 have A1:Fi.Arr W1 w.heap.size c 0:=by
  rw[←aa];intro j hj;refine⟨?_,World.frozen?_alloc_new _ _ _ _⟩;rw[Jj,zPA ⟨j,hj⟩];unfold zMo;rw[Zk (by omega)]
 have S1:w.heap.size<W1.heap.size:=by rw[←aa];simp
 obtain⟨B,hB⟩:∃B,w.heap.size=B:=⟨_,rfl⟩;have au:=hy' hB;rw[hB]at B1 A1 S1;have HW:=hy' aa;have HB:=hy' B1;have HA:=hy' A1;have hq:1≤zBg c∧zBg c≤6:=⟨zIZ c,zBU 5 c (by rw[show (16:Nat) ^ (5+1)=16777216 from by decide];exact hc)⟩;clear aa B1 A1 hL;go_enter func231,ntmps231;go_upto_region 7 with (fail)
 rw[HW.o];go_wp2_with (fail);refine (zNK _).mono ?_;rintro e w1 ⟨rfl,rfl⟩;go_wp2_with (fail);refine (zQJ _ L1).mono ?_;rintro e w2 ⟨rfl,rfl⟩;go_wp2_with (fail);go_loopw [1,13] (fun vu vi wr=>∃k x:Nat,vu=.int .u64 x∧vi=.int .i64 (65-(k:Int))∧k+1≤zBg c∧x=c/16 ^ k∧Fi.Arr wr B c k∧Below B w wr∧B<wr.heap.size) (fun vu _ _=>(intOf vu).toNat)
 case atStart=>exact⟨0,c,rfl,rfl,by omega,by simp,HA.o,HB.o,S1⟩
 obtain⟨k,x,rfl,rfl,hk,hx,hA,af,hS⟩:=hrel;obtain⟨w3,rfl⟩:∃w3:World,w3=wr:=⟨_,rfl⟩;have hd:x%16<16:=by omega
 have az:x<16777216:=by
  have:=Ke c (16 ^ k);omega
 have ay:(0:Int)≤65-(k:Int)-1:=by omega
 have ao:(65-(k:Int)-1)<65:=by omega
 have hz:(65-(k:Int)-1).toNat=64-k:=by omega
 obtain⟨d,hdd⟩:∃d,x%16=d:=⟨_,rfl⟩;rw[hdd]at hd;have HK:=hy' hk;have HX:=hy' hx;have ai:=hy' af;have HD:=hy' hdd;obtain⟨v,hv⟩:∃v,(zDN d).toNat=v:=⟨_,rfl⟩;have hA2:Fi.Arr (w3.setCell ⟨B,64-k,none⟩ (.int .u8 (v:Int))) B c (k+1):=hA.put (by omega) v (by rw[←hx,hdd,hv]);have hcell:=(hA (64-k) (by omega)).1;have aj:=(hA (64-k) (by omega)).2;have av:=hy' hA2;have ap:∀W,(Instr.index 9 (.string ⟨#[48,49,50,51,52,53,54,55,56,57,97,98,99,100,101,102,103,104,105,106,107,108,109,110,111,112,113,114,115,116,117,118,119,120,121,122]⟩) (.int .u64 (d:Int))).run prog W=.ok (.int .u8 (v:Int)) W:=fun W=>by rw[←hv];exact zPz W d hd
 by_cases hge:(x:Int)≥16
 · have a7:bits .and .u64 (x:Int) 15=(d:Int):=by
    rw[show (15:Int)=((15:Nat):Int) from rfl,u64_and_nat x 15 (by omega) (by omega),show 15=2 ^ 4-1 from rfl,Yo,←hdd]
   have a1:((x:Int)).fdiv (2 ^ min (Int.toNat 4) IntKind.u64.bits)=((x/16:Nat):Int):=by
    rw[show (2:Int) ^ min (Int.toNat 4) IntKind.u64.bits=16 from rfl,Int.fdiv_eq_ediv_of_nonneg _ (by decide)];omega
   have ae:k+2≤zBg c:=by
    have h1:16 ^ (k+1)≤c:=by
     have aq:16≤c/16 ^ k:=by rw[←hx];omega
     have:=(Nat.le_div_iff_mul_le (Jw (by decide):0<16 ^ k)).1 aq;rw[Xb];omega
    have:=zOE c (k+1) h1;omega
   have ak:x/16=c/16 ^ (k+1):=by rw[hx,Qf,←Xb]
   have aw:=hy' ak;have ax:=hy' ae;clear hA hA2 hx af hdd hv hk ak ae;go_wp2_with (fail);exact⟨⟨k+1,x/16,by go_num,by go_num,ax.o,aw.o,av.o,ai.o.setCell (Nat.le_refl _) _,by simpa [World.setCell] using hS⟩,by simp[intOf];omega⟩
 have ar:d=x:=by omega
 subst ar
 have ae:zBg c=k+1:=by
  have:zBg c≤k+1:=zBU k c (by
   have h1:c/16 ^ k<16:=by rw[←hx];omega
   have:=(Nat.div_lt_iff_lt_mul (Jw (by decide):0<16 ^ k)).1 h1;rw[Xb];omega)
  omega
 have ag:prog.arrayLen 327=65:=by kernel_rfl
 have a6:∀W,(Instr.sliceAt 327 (.pointer (some ⟨B,0,none⟩)) (some (.int .i64 (65-(k:Int)-1))) none none).run prog W=.ok (.slice (some ⟨B,64-k,none⟩) (k+1) (k+1)) W:=fun W=>by
  rw[run_sliceAt_array_l W 327 ⟨B,0,none⟩ (by kernel_rfl) .i64 (65-(k:Int)-1) (by omega) (by rw[ag];omega),ag];go_simp;omega
 have hcv:(convert 98 9 (.slice (some ⟨B,64-k,none⟩) (k+1) (k+1))).run prog (w3.setCell ⟨B,64-k,none⟩ (.int .u8 (v:Int)))=.ok (.string ⟨((Fi.low (zBg c) c).map zDN).toArray⟩) (w3.setCell ⟨B,64-k,none⟩ (.int .u8 (v:Int))):=by
  have hlen:((Fi.low (zBg c) c).map zDN).length=k+1:=by rw[Ze,zCP,ae]
  have h:=run_convert_bytes_back (P:=prog) (w3.setCell ⟨B,64-k,none⟩ (.int .u8 (v:Int))) 98 9 5 ⟨B,64-k,none⟩ (k+1) ((Fi.low (zBg c) c).map zDN) underlying98 underlying5 underlying9 (fun j hj=>by
   rw[hlen]at hj;rw[Lib.add_plain,(hA2 (64-k+j) (by omega)).1];unfold zMo;rw[Zm (by omega),show 64-(64-k+j)=k-j by omega];congr 2
   have ah:(Fi.low (zBg c) c)[j]?=some (c/16 ^ (k-j)%16):=by
    rw[ae,zKh (k+1) c j (by omega)];congr 3
   rw[List.getElem_map,(List.getElem?_eq_some_iff.1 ah).2])
  rw[hlen]at h;exact h
 clear ag hA hA2 hx af hdd hv hk ae;go_wp2_with (fail);go_ret2;exact⟨rfl,by first|exact ai.o.setCell (Za _) _|(rw[au.o];exact ai.o.setCell (Za _) _)⟩
theorem zL4 (c:Nat) (hc:c<16777216) (w:World) (hL:Fi.Laid w) :
 Calls prog 163 #[.int .i64 c,.int .i64 16] w fun e w'=>e=.returned (.string ⟨((Fi.low (zBg c) c).map zDN).toArray⟩)∧Below w.heap.size w w':=by
 have inner:∀w:World,Fi.Laid w→Calls prog 197 #[.int .i64 c,.int .i64 16] w fun e w'=>e=.returned (.string ⟨((Fi.low (zBg c) c).map zDN).toArray⟩)∧Below w.heap.size w w':=by
  intro w hL;have aa:¬(c:Int)<0:=by omega
  go_enter func197,ntmps197;go_wp2_with (refine (zNM c hc _ (by assumption)).mono ?_;rintro e w1 ⟨rfl,hb⟩);go_ret;exact⟨rfl,hb⟩
 go_enter func163,ntmps163;go_wp2_with (refine (inner _ (by assumption)).mono ?_;rintro e w1 ⟨rfl,hb⟩);go_ret;exact⟨rfl,hb⟩
end
end Go.Proofs.YtjakbblocbicjaaGreatDoor
