/- Cut, Last, and the law UtfEnds' walk. -/
import Derived.Test.YthngjlllojiacaaGreatDoorUtfC
set_option maxRecDepth 100000
set_option maxHeartbeats 400000
set_option linter.unusedVariables false
set_option linter.unusedSimpArgs false
namespace Go.Proofs.YthngjlllojiacaaGreatDoor
open Go.Proofs.Tryz
open Go.RowKit
theorem zRo (s:ByteArray) (k:Nat):(s.extract k s.size).data.toList=s.data.toList.drop k:=by
 have h:s.data.toList.length=s.size:=by simp
 simp only[QX,Jf];rw[List.extract_eq_take_drop,Zi (by rw[ZM];omega)]
theorem zL9 (s:ByteArray):s.data.toList.length=s.size:=by simp
def zRf (s:ByteArray) (n:Nat):ByteArray:=if n<s.size then s.extract 0 n else s
theorem zPA (s:ByteArray) (n:Nat):(zRf s n).data.toList=s.data.toList.take n:=by
 unfold zRf;split
 · exact zPz s n
 rw[Zi (by rw[zL9];omega)]
theorem zS7 (s:ByteArray) (n:Nat):(zRf s n).size≤n:=by
 rw[←zL9,zPA,Zr];omega
theorem U.cut_any (s:ByteArray) (n:Nat) (w:World) (hs:s.size≤maxLen) :
 Calls prog 22 #[.string s,.int .i64 n] w fun e w'=>e=.returned (.string (zRf s n))∧w=w':=by
 unfold maxLen at hs
 by_cases h:n<s.size
 · have hc:zRf s n=s.extract 0 n:=by unfold zRf;rw[if_pos h]
   have HC:=hy' hc;clear hc;go_enter func22,ntmps22;go_wp2;go_ret;rw[HC.o];exact⟨rfl,rfl⟩
 have hc:zRf s n=s:=by unfold zRf;rw[if_neg h]
 have HC:=hy' hc;clear hc;go_enter func22,ntmps22;go_wp2;go_ret;rw[HC.o];exact⟨rfl,rfl⟩
theorem zLa {l:List UInt8} {c:Int} {k:Nat} (h:zAa l=some (c,k)):zAz l=(c,k,true):=by unfold zAz;rw[h]
theorem zLb {l:List UInt8} (h:zAa l=none):zAz l=(0,0,false):=by unfold zAz;rw[h]
def zAx (cs:List Int):List UInt8:=cs.flatMap zAk
theorem zAA (c:Int) (cs:List Int):zAx (c::cs)=zAk c++zAx cs:=rfl
theorem zDT (a b:List Int):zAx (a++b)=zAx a++zAx b:=by unfold zAx;rw[List.flatMap_append]
theorem zCq (c:Int):1≤(zAk c).length∧(zAk c).length≤4:=by unfold zAk;grind
theorem zOl (cs:List Int):cs.length≤(zAx cs).length:=by
 induction cs with
 | nil=>simp
 | cons c cs ih=>rw[zAA,Zd,ZF];have:=(zCq c).1;omega
def zKa (l:List UInt8) (cs:List Int) (r:List UInt8):Prop:=l=zAx cs++r∧(∀c∈cs,U.isC c=true)∧zAa r=none
theorem zRg (l:List UInt8):∃cs r,zKa l cs r:=by
 have:∀n,∀l:List UInt8,l.length≤n→∃cs r,zKa l cs r:=by
  intro n
  induction n with
  | zero =>
     intro l h;have h0:l=[]:=ZD (by omega)
     exact⟨[],l,rfl,by simp,by rw[h0];rfl⟩
  | succ n ih =>
    intro l h;rcases hn:zAa l with _|⟨c,k⟩
    · exact⟨[],l,rfl,by simp,hn⟩
    obtain⟨hc,_,t,rfl⟩:=zGY l c k hn;obtain⟨cs,r,h1,h2,h3⟩:=ih t (by rw[Zd]at h;have:=(zCq c).1;omega);refine⟨c::cs,r,by rw[zAA,Zz,←h1],?_,h3⟩;intro x hx;rcases List.mem_cons.1 hx with rfl|hx
    · exact hc
    exact h2 x hx
 exact this l.length l (Za _)
theorem zDx {c:Int} {b:List Int} {r:List UInt8} (hc:U.isC c=true):zAa (zAx (c::b)++r)=some (c,(zAk c).length):=by
 rw[zAA,Zz];exact zBX c hc _
theorem zGZ {l:List UInt8} {cs cs':List Int} {r r':List UInt8} (h:zKa l cs r) (h':zKa l cs' r'):cs=cs'∧r=r':=by
 obtain⟨rfl,h2,h3⟩:=h;obtain⟨g1,g2,g3⟩:=h'
 induction cs generalizing cs' with
 | nil =>
   cases cs' with
   | nil=>exact⟨rfl,g1⟩
   | cons c b =>
     have e:zAx []++r=r:=rfl;rw[e]at g1;rw[g1,zDx (g2 c (by simp))]at h3;cases h3
 | cons c b ih =>
   cases cs' with
   | nil =>
     have e:zAx []++r'=r':=rfl;rw[e]at g1;rw[←g1,zDx (h2 c (by simp))]at g3;cases g3
   | cons c' b' =>
     have e1:=zDx (r:=r) (b:=b) (h2 c (by simp));have e2:=zDx (r:=r') (b:=b') (g2 c' (by simp));rw[g1,e2]at e1;simp only[Zg,YB]at e1;obtain⟨rfl,_⟩:=e1;rw[zAA,zAA,Zz,Zz]at g1;have:=ih (cs':=b') (fun x hx=>h2 x (Zv _ hx)) (QO g1) (fun x hx=>g2 x (Zv _ hx));exact⟨by rw[this.1],this.2⟩
end Go.Proofs.YthngjlllojiacaaGreatDoor
