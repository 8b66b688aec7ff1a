/- Parts of a text beside one another (plain): what equal.Index looks at. -/
import Derived.Test.YtddbccflcekdpaaGreatDoorSpParts
set_option linter.unusedVariables false
set_option linter.unusedSimpArgs false
namespace Go.Proofs.YtddbccflcekdpaaGreatDoor
def Eq.mid (L:List (List Int)) (i n:Nat):List (List Int):=(L.drop i).take n
theorem Eq.mid_succ {L:List (List Int)} {i k:Nat} {u:List Int} (h:L[i+k]?=some u):Eq.mid L i (k+1)=Eq.mid L i k++[u]:=by
 unfold Eq.mid;rw[ZB,Xe,h];rfl
theorem Eq.mid_zero (L:List (List Int)) (i:Nat):Eq.mid L i 0=[]:=Ks
theorem Eq.mid_split (L:List (List Int)) (i n:Nat):L.flatten=(L.take i).flatten++((Eq.mid L i n).flatten++(L.drop (i+n)).flatten):=by
 have h1:Eq.mid L i n++L.drop (i+n)=L.drop i:=by
  unfold Eq.mid;rw[←XS,ZF]
 conv=>lhs;rw[←ZF i L,JO,←h1,JO]
theorem Eq.mid_str {s:ByteArray} {L:List (List Int)} (hs:s.data.toList=zA5 L.flatten) (i n:Nat):s.extract (zA5 (L.take i).flatten).length ((zA5 (L.take i).flatten).length+(zA5 (Eq.mid L i n).flatten).length)=⟨(zA5 (Eq.mid L i n).flatten).toArray⟩:=by
 apply Qz
 apply Array.toList_inj.1
 rw[Eq.mid_split L i n,Sp.encs_app,Sp.encs_app]at hs;rw[Lib.extract_data,hs];show _=zA5 (Eq.mid L i n).flatten;rw[Qc,Xv,QS]
theorem Eq.mid_flat (F:List Int→List Int) (L:List (List Int)) (i:Nat) {k m:Nat} (h:k≤m):∃R,(Eq.mid L i m).flatMap F=(Eq.mid L i k).flatMap F++R:=by
 have:Eq.mid L i m=Eq.mid L i k++((L.drop i).drop k).take (m-k):=by
  unfold Eq.mid
  conv=>lhs;rw[show m=k+(m-k) by omega,Qy]
 exact⟨_,by rw[this,Yr]⟩
theorem Eq.mid_len {L:List (List Int)} {i n:Nat} (h:i+n≤L.length):(Eq.mid L i n).length=n:=by
 unfold Eq.mid;rw[Zq,ZO];omega
def Eq.no (F:List Int→List Int) (L:List (List Int)) (W:List Int) (i:Nat):Prop:=∀n,0<n→i+n≤L.length→(Eq.mid L i n).flatMap F≠W
theorem Eq.no_of {F:List Int→List Int} {L:List (List Int)} {W:List Int} {i k:Nat} (h:∀n,0<n→n<k→(Eq.mid L i n).flatMap F≠W) (hk:¬ ∃R,W=(Eq.mid L i k).flatMap F++R):Eq.no F L W i:=fun n h0 _ e=>by
 rcases ZY n k with hn|hn
 · exact h n h0 hn e
 obtain⟨R,hR⟩:=Eq.mid_flat F L i hn;exact hk ⟨R,by rw[←e,hR]⟩
theorem Eq.mem_mid {L:List (List Int)} {i n:Nat} {u:List Int} (h:u∈Eq.mid L i n):u∈L:=Xj (Z5 h)
theorem Sp.cut_one {p:Int→Bool} (c:Int):Sp.cut p [c]=[[c]]:=rfl
theorem Sp.cut_between {p:Int→Bool} {a b x:Int} {l:List Int} (hx:p x=true) (hb:p b=true):Sp.cut p ([a]++((x::l)++[b]))=[[a]]++(Sp.cut p (x::l)++[[b]]):=by
 have h1:=Sp.cut_app hx [a] (l++[b]);have h2:=Sp.cut_app hb (x::l) [];rw[Sp.cut_one]at h1 h2;rw[show [a]++((x::l)++[b])=[a]++x::(l++[b]) from rfl,h1,←h2];rfl
end Go.Proofs.YtddbccflcekdpaaGreatDoor
