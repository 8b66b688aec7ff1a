/- May bytes be the beginning of a character's? (plain) -/
import Derived.Test.YtdbpjmfflofadaaGreatDoorUtfC
set_option linter.unusedVariables false
set_option linter.unusedSimpArgs false
namespace Go.Proofs.YtdbpjmfflofadaaGreatDoor
def Sm.pre (s:List UInt8):Prop:=∃c t,U.isC c=true∧t≠[]∧zAp c=s++t
theorem zKM {c:Int} (h:¬c<128) (h':c<2048):zAp c=[U.u8 (192+c/64),U.u8 (128+c%64)]:=by unfold zAp;rw[if_neg h,if_pos h']
theorem zDD {c:Int} (h:¬c<128) (h':¬c<2048) (aa:c<65536):zAp c=[U.u8 (224+c/4096),U.u8 (128+c/64%64),U.u8 (128+c%64)]:=by unfold zAp;rw[if_neg h,if_neg h',if_pos aa]
theorem zDd {c:Int} (h:¬c<128) (h':¬c<2048) (aa:¬c<65536):zAp c=[U.u8 (240+c/262144),U.u8 (128+c/4096%64),U.u8 (128+c/64%64),U.u8 (128+c%64)]:=by unfold zAp;rw[if_neg h,if_neg h',if_neg aa]
theorem Sm.fill {s t:List UInt8} {c:Int} (hc:U.isC c=true) (hs:s≠[]) (ht:t≠[]) (h:zAp c=s++t):∃(c':Int) (b:UInt8),(b=128∨b=191)∧U.isC c'=true∧zAp c'=s++List.replicate t.length b:=by
 have hi:=(U.isC_iff c).1 hc;have aa:∀d:Int,0≤d→d≤1114111→(d<55296∨57343<d)→U.isC d=true:=fun d h1 h2 h3=>(U.isC_iff d).2 ⟨h1,h2,h3⟩
 by_cases h1:c<128
 · have e:zAp c=[U.u8 c]:=by unfold zAp;rw[if_pos h1]
   rw[e]at h;cases s with
   | nil=>exact absurd rfl hs
   | cons a s =>
     have:=ZR List.length h;simp at this;exact absurd this.2 ht
 by_cases h2:c<2048
 · rw[zKM h1 h2]at h
   match s,t,h,hs,ht with
   | [a],[b],h,_,_ =>
     simp only[ZN,ZV,Z7,Yl]at h;refine⟨c/64*64,128,.inl rfl,aa _ (by omega) (by omega) (by omega),?_⟩;rw[zKM (by omega) (by omega),show c/64*64/64=c/64 by omega,show c/64*64%64=0 by omega,h.1];rfl
   | a::b::s,t,h,_,ht =>
     have e:=ZR List.length h;simp only[ZB,ZY,Zc]at e;exact absurd (ZK (show t.length=0 by omega)) ht
   | [a],b::d::t,h,_,_=>exact absurd (ZR List.length h) (by simp)
 by_cases h3:c<65536
 · rw[zDD h1 h2 h3]at h
   match s,t,h,hs,ht with
   | [a],[b,d],h,_,_ =>
     simp only[ZN,ZV,Z7,Yl]at h
     by_cases h0:c/4096=0
     · refine⟨4095,191,.inr rfl,rfl,?_⟩;rw[zDD (by omega) (by omega) (by omega),←h.1,h0];rfl
     refine⟨c/4096*4096,128,.inl rfl,aa _ (by omega) (by omega) (by omega),?_⟩;rw[zDD (by omega) (by omega) (by omega),show c/4096*4096/4096=c/4096 by omega,show c/4096*4096/64%64=0 by omega,show c/4096*4096%64=0 by omega,h.1];rfl
   | [a,b],[d],h,_,_ =>
     simp only[ZN,ZV,Z7,Yl]at h;refine⟨c/64*64,128,.inl rfl,aa _ (by omega) (by omega) (by omega),?_⟩;rw[zDD (by omega) (by omega) (by omega),show c/64*64/4096=c/4096 by omega,show c/64*64/64%64=c/64%64 by omega,show c/64*64%64=0 by omega,h.1,h.2.1];rfl
   | [a],[b],h,_,_=>exact absurd (ZR List.length h) (by simp)
   | [a],b::d::e::t,h,_,_=>exact absurd (ZR List.length h) (by simp)
   | [a,b],d::e::t,h,_,_=>exact absurd (ZR List.length h) (by simp)
   | a::b::d::s,e::t,h,_,_=>exact absurd (ZR List.length h) (by simp)
 rw[zDd h1 h2 h3]at h
 match s,t,h,hs,ht with
 | [a],[b,d,e],h,_,_ =>
   simp only[ZN,ZV,Z7,Yl]at h
   by_cases h0:c/262144=0
   · refine⟨262143,191,.inr rfl,rfl,?_⟩;rw[zDd (by omega) (by omega) (by omega),←h.1,h0];rfl
   refine⟨c/262144*262144,128,.inl rfl,aa _ (by omega) (by omega) (by omega),?_⟩;rw[zDd (by omega) (by omega) (by omega),show c/262144*262144/262144=c/262144 by omega,show c/262144*262144/4096%64=0 by omega,show c/262144*262144/64%64=0 by omega,show c/262144*262144%64=0 by omega,h.1];rfl
 | [a,b],[d,e],h,_,_ =>
   simp only[ZN,ZV,Z7,Yl]at h;refine⟨c/4096*4096,128,.inl rfl,aa _ (by omega) (by omega) (by omega),?_⟩;rw[zDd (by omega) (by omega) (by omega),show c/4096*4096/262144=c/262144 by omega,show c/4096*4096/4096%64=c/4096%64 by omega,show c/4096*4096/64%64=0 by omega,show c/4096*4096%64=0 by omega,h.1,h.2.1];rfl
 | [a,b,d],[e],h,_,_ =>
   simp only[ZN,ZV,Z7,Yl]at h;refine⟨c/64*64,128,.inl rfl,aa _ (by omega) (by omega) (by omega),?_⟩;rw[zDd (by omega) (by omega) (by omega),show c/64*64/262144=c/262144 by omega,show c/64*64/4096%64=c/4096%64 by omega,show c/64*64/64%64=c/64%64 by omega,show c/64*64%64=0 by omega,h.1,h.2.1,h.2.2.1];rfl
 | [a],[b],h,_,_=>exact absurd (ZR List.length h) (by simp)
 | [a],[b,d],h,_,_=>exact absurd (ZR List.length h) (by simp)
 | [a],b::d::e::f::t,h,_,_=>exact absurd (ZR List.length h) (by simp)
 | [a,b],[d],h,_,_=>exact absurd (ZR List.length h) (by simp)
 | [a,b],d::e::f::t,h,_,_=>exact absurd (ZR List.length h) (by simp)
 | [a,b,d],e::f::t,h,_,_=>exact absurd (ZR List.length h) (by simp)
 | a::b::d::e::s,f::t,h,_,_=>exact absurd (ZR List.length h) (by simp)
theorem zMZ {s t:List UInt8} {c:Int} {n:Nat} (hs:zAe s=none) (h:zAe (s++t)=some (c,n)):Sm.pre s:=by
 obtain⟨h1,h2,h3,h4,h5,_⟩:=zEd _ _ _ h;rcases Z3 s.length n with hn|hn
 · refine⟨c,t.take (n-s.length),h4,fun e=>?_,by rw[h5,List.take_append,Zi (by omega)]⟩;have:=ZR List.length e;rw[Zn,ZY]at this;rw[Zc]at h3;omega
 have:=zIK s c n hn h4 (by rw[h5,Yp hn]);rw[hs]at this;cases this
def zDe (s:List UInt8):Bool:=(zAe (s++List.replicate 3 128)).isSome||(zAe (s++List.replicate 3 191)).isSome
theorem zJp {s:List UInt8} (h0:s≠[]) (hs:zAe s=none):zDe s=true↔Sm.pre s:=by
 unfold zDe;rw[XM,Q0,Q0];constructor
 · rintro (⟨⟨c,n⟩,h⟩|⟨⟨c,n⟩,h⟩)
   · exact zMZ hs h
   exact zMZ hs h
 rintro⟨c,t,hc,ht,h⟩
 have hl:t.length≤3:=by
  have h1:=ZR List.length h;rw[Zc,zDS c hc]at h1;have h2:=zCN c;have h3:0<s.length:=List.length_pos_iff.2 h0;omega
 obtain⟨c',b,hb,aa,he⟩:=Sm.fill hc h0 ht h
 have hn:zAe (s++List.replicate 3 b)=some (c',(zAp c').length):=by
  have:=zCl c' aa (List.replicate (3-t.length) b);rw[he,Zz,Xx,show t.length+(3-t.length)=3 by omega,←he]at this;exact this
 rcases hb with rfl|rfl
 · exact .inl ⟨_,hn⟩
 exact .inr ⟨_,hn⟩
end Go.Proofs.YtdbpjmfflofadaaGreatDoor
