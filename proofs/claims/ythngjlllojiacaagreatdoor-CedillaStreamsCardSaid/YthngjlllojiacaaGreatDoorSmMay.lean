/- May bytes be the beginning of a character's? (plain) -/
import Derived.Test.YthngjlllojiacaaGreatDoorUtfC
set_option linter.unusedVariables false
set_option linter.unusedSimpArgs false
set_option linter.unusedSectionVars false
namespace Go.Proofs.YthngjlllojiacaaGreatDoor
def Sm.pre (s:List UInt8):Prop:=∃c t,U.isC c=true∧t≠[]∧zAk c=s++t
theorem Sm.u80:U.u8 128=128:=rfl
theorem Sm.uBF:U.u8 191=191:=rfl
theorem Sm.enc_two {c:Int} (h:¬c<128) (h':c<2048):zAk c=[U.u8 (192+c/64),U.u8 (128+c%64)]:=by unfold zAk;rw[if_neg h,if_pos h']
theorem Sm.enc_three {c:Int} (h:¬c<128) (h':¬c<2048) (aa:c<65536):zAk c=[U.u8 (224+c/4096),U.u8 (128+c/64%64),U.u8 (128+c%64)]:=by unfold zAk;rw[if_neg h,if_neg h',if_pos aa]
theorem Sm.enc_four {c:Int} (h:¬c<128) (h':¬c<2048) (aa:¬c<65536):zAk c=[U.u8 (240+c/262144),U.u8 (128+c/4096%64),U.u8 (128+c/64%64),U.u8 (128+c%64)]:=by unfold zAk;rw[if_neg h,if_neg h',if_neg aa]
theorem Sm.fill {s t:List UInt8} {c:Int} (hc:U.isC c=true) (hs:s≠[]) (ht:t≠[]) (h:zAk c=s++t):∃(c':Int) (b:UInt8),(b=128∨b=191)∧U.isC c'=true∧zAk c'=s++List.replicate t.length b:=by
 have hi:=(U.isC_iff c).1 hc;have aa:∀d:Int,0≤d→d≤1114111→(d<55296∨57343<d)→U.isC d=true:=fun d h1 h2 h3=>(U.isC_iff d).2 ⟨h1,h2,h3⟩
 by_cases h1:c<128
 · have e:zAk c=[U.u8 c]:=by unfold zAk;rw[if_pos h1]
   rw[e]at h;cases s with
   | nil=>exact absurd rfl hs
   | cons a s =>
     have:=ZT List.length h;simp at this;exact absurd this.2 ht
 by_cases h2:c<2048
 · rw[Sm.enc_two h1 h2]at h
   match s,t,h,hs,ht with
   | [a],[b],h,_,_ =>
     simp only[Zo,ZH,Yb,YH]at h;refine⟨c/64*64,128,.inl rfl,aa _ (by omega) (by omega) (by omega),?_⟩;rw[Sm.enc_two (by omega) (by omega),show c/64*64/64=c/64 by omega,show c/64*64%64=0 by omega,h.1];rfl
   | a::b::s,t,h,_,ht =>
     have e:=ZT List.length h;simp only[ZF,Z0,Zd]at e;exact absurd (ZD (show t.length=0 by omega)) ht
   | [a],b::d::t,h,_,_=>exact absurd (ZT List.length h) (by simp)
 by_cases h3:c<65536
 · rw[Sm.enc_three h1 h2 h3]at h
   match s,t,h,hs,ht with
   | [a],[b,d],h,_,_ =>
     simp only[Zo,ZH,Yb,YH]at h
     by_cases h0:c/4096=0
     · refine⟨4095,191,.inr rfl,rfl,?_⟩;rw[Sm.enc_three (by omega) (by omega) (by omega),←h.1,h0];rfl
     refine⟨c/4096*4096,128,.inl rfl,aa _ (by omega) (by omega) (by omega),?_⟩;rw[Sm.enc_three (by omega) (by omega) (by omega),show c/4096*4096/4096=c/4096 by omega,show c/4096*4096/64%64=0 by omega,show c/4096*4096%64=0 by omega,h.1];rfl
   | [a,b],[d],h,_,_ =>
     simp only[Zo,ZH,Yb,YH]at h;refine⟨c/64*64,128,.inl rfl,aa _ (by omega) (by omega) (by omega),?_⟩;rw[Sm.enc_three (by omega) (by omega) (by omega),show c/64*64/4096=c/4096 by omega,show c/64*64/64%64=c/64%64 by omega,show c/64*64%64=0 by omega,h.1,h.2.1];rfl
   | [a],[b],h,_,_=>exact absurd (ZT List.length h) (by simp)
   | [a],b::d::e::t,h,_,_=>exact absurd (ZT List.length h) (by simp)
   | [a,b],d::e::t,h,_,_=>exact absurd (ZT List.length h) (by simp)
   | a::b::d::s,e::t,h,_,_=>exact absurd (ZT List.length h) (by simp)
 rw[Sm.enc_four h1 h2 h3]at h
 match s,t,h,hs,ht with
 | [a],[b,d,e],h,_,_ =>
   simp only[Zo,ZH,Yb,YH]at h
   by_cases h0:c/262144=0
   · refine⟨262143,191,.inr rfl,rfl,?_⟩;rw[Sm.enc_four (by omega) (by omega) (by omega),←h.1,h0];rfl
   refine⟨c/262144*262144,128,.inl rfl,aa _ (by omega) (by omega) (by omega),?_⟩;rw[Sm.enc_four (by omega) (by omega) (by omega),show c/262144*262144/262144=c/262144 by omega,show c/262144*262144/4096%64=0 by omega,show c/262144*262144/64%64=0 by omega,show c/262144*262144%64=0 by omega,h.1];rfl
 | [a,b],[d,e],h,_,_ =>
   simp only[Zo,ZH,Yb,YH]at h;refine⟨c/4096*4096,128,.inl rfl,aa _ (by omega) (by omega) (by omega),?_⟩;rw[Sm.enc_four (by omega) (by omega) (by omega),show c/4096*4096/262144=c/262144 by omega,show c/4096*4096/4096%64=c/4096%64 by omega,show c/4096*4096/64%64=0 by omega,show c/4096*4096%64=0 by omega,h.1,h.2.1];rfl
 | [a,b,d],[e],h,_,_ =>
   simp only[Zo,ZH,Yb,YH]at h;refine⟨c/64*64,128,.inl rfl,aa _ (by omega) (by omega) (by omega),?_⟩;rw[Sm.enc_four (by omega) (by omega) (by omega),show c/64*64/262144=c/262144 by omega,show c/64*64/4096%64=c/4096%64 by omega,show c/64*64/64%64=c/64%64 by omega,show c/64*64%64=0 by omega,h.1,h.2.1,h.2.2.1];rfl
 | [a],[b],h,_,_=>exact absurd (ZT List.length h) (by simp)
 | [a],[b,d],h,_,_=>exact absurd (ZT List.length h) (by simp)
 | [a],b::d::e::f::t,h,_,_=>exact absurd (ZT List.length h) (by simp)
 | [a,b],[d],h,_,_=>exact absurd (ZT List.length h) (by simp)
 | [a,b],d::e::f::t,h,_,_=>exact absurd (ZT List.length h) (by simp)
 | [a,b,d],e::f::t,h,_,_=>exact absurd (ZT List.length h) (by simp)
 | a::b::d::e::s,f::t,h,_,_=>exact absurd (ZT List.length h) (by simp)
theorem Sm.pre_of {s t:List UInt8} {c:Int} {n:Nat} (hs:zAa s=none) (h:zAa (s++t)=some (c,n)):Sm.pre s:=by
 obtain⟨h1,h2,h3,h4,h5,_⟩:=zBl _ _ _ h;rcases ZZ s.length n with hn|hn
 · refine⟨c,t.take (n-s.length),h4,fun e=>?_,by rw[h5,List.take_append,Zi (by omega)]⟩;have:=ZT List.length e;rw[Zr,Z0]at this;rw[Zd]at h3;omega
 have:=zFz s c n hn h4 (by rw[h5,YX hn]);rw[hs]at this;cases this
def Sm.mayP (s:List UInt8):Bool:=(zAa (s++List.replicate 3 128)).isSome||(zAa (s++List.replicate 3 191)).isSome
theorem Sm.mayP_iff {s:List UInt8} (h0:s≠[]) (hs:zAa s=none):Sm.mayP s=true↔Sm.pre s:=by
 unfold Sm.mayP;rw[Xn,QL,QL];constructor
 · rintro (⟨⟨c,n⟩,h⟩|⟨⟨c,n⟩,h⟩)
   · exact Sm.pre_of hs h
   exact Sm.pre_of hs h
 rintro⟨c,t,hc,ht,h⟩
 have hl:t.length≤3:=by
  have h1:=ZT List.length h;rw[Zd,zDw c hc]at h1;have h2:=zCF c;have h3:0<s.length:=List.length_pos_iff.2 h0;omega
 obtain⟨c',b,hb,aa,he⟩:=Sm.fill hc h0 ht h
 have hn:zAa (s++List.replicate 3 b)=some (c',(zAk c').length):=by
  have:=zBX c' aa (List.replicate (3-t.length) b);rw[he,Zz,List.replicate_append_replicate,show t.length+(3-t.length)=3 by omega,←he]at this;exact this
 rcases hb with rfl|rfl
 · exact .inl ⟨_,hn⟩
 exact .inr ⟨_,hn⟩
def Sm.mayL (s:List UInt8):Bool:=(List.range 256).any (fun i=>decide ((zCn (s++[UInt8.ofNat i])).2=s.length+1)) ||
 (decide (s.length≤2)&&[List.replicate 2 (128:UInt8),List.replicate 2 191,List.replicate 3 128,List.replicate 3 191].any fun t=>decide ((zCn (s++t)).2=s.length+t.length))
theorem Sm.mayL_iff {s:List UInt8} (h0:s≠[]):Sm.mayL s=true↔Sm.pre s:=by
 have hp:0<s.length:=List.length_pos_iff.2 h0
 have back:∀t:List UInt8,t≠[]→(zCn (s++t)).2=s.length+t.length→Sm.pre s:=fun t ht h=>by
  cases hn:zAa (s++t) with
  | none=>rw[zEr hn]at h;simp at h;omega
  | some q =>
    obtain⟨c,n⟩:=q;rw[zEq hn]at h;obtain⟨h1,h2,h3,h4,h5,_⟩:=zBl _ _ _ hn;exact⟨c,t,h4,ht,by rw[h5,Zi (by rw[Zd];exact Nat.le_of_eq h.symm)]⟩
 unfold Sm.mayL;rw[Xn,Yo,Zs,Yo];constructor
 · rintro (⟨i,_,h⟩|⟨_,t,ht,h⟩)
   · exact back [UInt8.ofNat i] (by simp) (YI h)
   refine back t (fun e=>?_) (YI h);subst e;simp at ht
 rintro⟨c,t,hc,ht,h⟩;have hl:=ZT List.length h;rw[Zd,zDw c hc]at hl;have h4:=zCF c;have ag:0<t.length:=List.length_pos_iff.2 ht
 have aa:∀(c':Int) (r:List UInt8),U.isC c'=true→zAk c'=s++r→(zCn (s++r)).2=s.length+r.length:=fun c' r ae he=>by
  have hn:=zBX c' ae [];rw[Z3,he]at hn;rw[zEq hn,Zd]
 by_cases h1:t.length=1
 · left
   match t,h1 with
   | [b],_ =>
     refine⟨b.toNat,List.mem_range.2 b.toNat_lt,Zu ?_⟩;rw[UInt8.ofNat_toNat];exact aa c [b] hc h
 right
 refine⟨Zu (by omega),?_⟩;obtain⟨c',b,hb,ae,he⟩:=Sm.fill hc h0 ht h;have hf:=aa c' _ ae he;have af:t.length=2∨t.length=3:=by omega
 refine⟨List.replicate t.length b,?_,Zu hf⟩;rcases af with e|e <;> rcases hb with rfl|rfl <;> rw[e] <;> simp
theorem Sm.may_same {s:List UInt8} (h0:s≠[]) (hs:zAa s=none):Sm.mayP s=Sm.mayL s:=by
 rw[Yg,Sm.mayP_iff h0 hs,Sm.mayL_iff h0]
end Go.Proofs.YthngjlllojiacaaGreatDoor
