/- What the model's own decoding (of 'for range' over a string) answers at a character's bytes. -/
import Derived.Test.YtddbccflcekdpaaGreatDoorUtf
import Derived.Lib.DecodeN
set_option maxHeartbeats 4000000
set_option linter.unusedVariables false
set_option linter.unusedSimpArgs false
namespace Go.Proofs.YtddbccflcekdpaaGreatDoor
theorem ba_get (s:ByteArray) (i:Nat):s.get! i=s.data.toList.getD i 0:=by
 cases s with
 | mk d =>
   show d[i]! = d.toList.getD i 0
   by_cases h:i<d.size
   · rw[Jg d i h];simp[List.getD,h]
   rw[getElem!_neg d i h];simp[List.getD,h];rfl
theorem U.u8_nat {x:Int} (h0:0≤x) (h1:x<256):(U.u8 x).toNat=x.toNat:=by
 unfold U.u8;rw[XF];omega
theorem U.dec_at (s:ByteArray) (a r:List UInt8) (c:Int) (hs:s.data.toList=a++(zAl c++r)) (h0:0≤c) (h1:c≤1114111) (h2:¬(55296≤c∧c≤57343)):Utf8.decode s a.length=(c.toNat,(zAl c).length):=by
 have hg:∀k,s.get! (a.length+k)=(zAl c++r).getD k 0:=fun k=>by
  rw[ba_get,hs,YR,YR,ZJ (by omega),Qc]
 have hl:s.size-a.length=(zAl c++r).length:=by
  have:s.data.toList.length=s.size:=by simp
  rw[←this,hs,Zd];omega
 have aa:=hg 0;rw[YV]at aa;rw[Go.Lib.decode_at,hl,aa,hg 1,hg 2,hg 3];clear hg aa hl hs;have hb:∀x:UInt8,x.toNat<256:=fun x=>x.toNat_lt
 unfold zAl;split
 · have e1:=U.u8_nat h0 (show c<256 by omega);simp only[Zx,ZH,XZ,e1,ZE,Z2];unfold Go.Lib.decodeN;rw[Zo (by omega)]
 split
 · have e1:=U.u8_nat (x:=192+c/64) (by omega) (by omega);have e2:=U.u8_nat (x:=128+c%64) (by omega) (by omega);simp only[Zx,ZH,XZ,QM,e1,e2,ZE,Z2];unfold Go.Lib.decodeN;rw[Zl (by omega),Zo (by omega),Zo (by omega)];exact QF (by simp only;omega) rfl
 split
 · have e1:=U.u8_nat (x:=224+c/4096) (by omega) (by omega);have e2:=U.u8_nat (x:=128+c/64%64) (by omega) (by omega);have e3:=U.u8_nat (x:=128+c%64) (by omega) (by omega);simp only[Zx,ZH,XZ,QM,e1,e2,e3,ZE,Z2];have f0:(224+c/4096).toNat/16=14:=by omega
   have f1:(224+c/4096).toNat%16=(c/4096).toNat:=by omega
   have f2:(128+c/64%64).toNat%64=(c/64%64).toNat:=by omega
   have f3:(128+c%64).toNat%64=(c%64).toNat:=by omega
   have f4:(c/4096).toNat*4096+(c/64%64).toNat*64+(c%64).toNat=c.toNat:=by omega
   unfold Go.Lib.decodeN;rw[f0,f1,f2,f3,f4,Zl (by omega),Zl (by omega),Zo (by omega),Zo (by omega)]
 have e1:=U.u8_nat (x:=240+c/262144) (by omega) (by omega);have e2:=U.u8_nat (x:=128+c/4096%64) (by omega) (by omega);have e3:=U.u8_nat (x:=128+c/64%64) (by omega) (by omega);have e4:=U.u8_nat (x:=128+c%64) (by omega) (by omega);simp only[Zx,ZH,XZ,QM,e1,e2,e3,e4,ZE,Z2];have f0:(240+c/262144).toNat/8=30:=by omega
 have f1:(240+c/262144).toNat%8=(c/262144).toNat:=by omega
 have f2:(128+c/4096%64).toNat%64=(c/4096%64).toNat:=by omega
 have f3:(128+c/64%64).toNat%64=(c/64%64).toNat:=by omega
 have f5:(128+c%64).toNat%64=(c%64).toNat:=by omega
 have f4:(c/262144).toNat*262144+(c/4096%64).toNat*4096+(c/64%64).toNat*64+(c%64).toNat=c.toNat:=by omega
 unfold Go.Lib.decodeN;rw[f0,f1,f2,f3,f5,f4,Zl (by omega),Zl (by omega),Zl (by omega),Zo (by omega),Zo (by omega)]
end Go.Proofs.YtddbccflcekdpaaGreatDoor
