/- The layer stream: a long text of one letter. -/
import Derived.Test.YtdbpjmfflofadaaGreatDoorSmFlow
set_option linter.unusedVariables false
set_option linter.unusedSimpArgs false
set_option linter.unusedSectionVars false
namespace Go.Proofs.YtdbpjmfflofadaaGreatDoor
open Go.RowKit
def zB6 (n:Nat):List Int:=List.replicate n 97
def zEP (n:Nat):List UInt8:=List.replicate n 97
theorem zDo (s m:Nat):zB6 s++zB6 m=zB6 (s+m):=Xx
theorem zNF (s m:Nat):zEP s++zEP m=zEP (s+m):=Xx
theorem zFP:∀n:Nat,zA4 (zB6 n)=zEP n
 | 0=>rfl
 | n+1=>by
   show zA4 (97::zB6 n)=97::zEP n;rw[zAW,zFP n];rfl
theorem zCE (n:Nat):∀c∈zB6 n,C.isC c=true:=fun c hc=>by rw[List.eq_of_mem_replicate hc];decide
section
variable {T:List Rw.Row} {S:List Int} (hf:Ud.full T 97=[97]) (hc:Md.cls T 97=0)
include hf
theorem zEK:∀n:Nat,Nf.fl T (zB6 n)=zB6 n
 | 0=>rfl
 | n+1=>by
   show Nf.fl T (97::zB6 n)=97::zB6 n;rw[zE2,hf,zEK n];rfl
include hc
theorem zPd (n:Nat):Sm.F T S false (zB6 n)=zB6 n:=by
 show Nf.chars T (zB6 n)=zB6 n;unfold Nf.chars;rw[zEK hf]
 induction n with
 | zero=>rfl
 | succ n ih =>
   show Or.of (Md.cls T) (97::zB6 n)=97::zB6 n;rw[zKv (by rw[hc];decide),ih]
end
theorem zS8 {p:Int→Bool} {fl:Int→Nat} {x:Sm.St} (he:x.e=0) (hg:x.g=[]) (hn:x.n=1024) (hf:fl 97=1):Sm.feed p fl x [97]=Sm.bad 7:=by
 obtain⟨z,k,g,n,e⟩:=x;have he:e=0:=he;have hg:g=[]:=hg;have hn:n=1024:=hn;subst he hg;have h1:zAe ([]++[97])=some (97,1):=by decide +kernel
 have h2:Sm.feed p fl ⟨z,k,[],n,0⟩ [97]=Sm.byte p fl ⟨z,k,[],n,0⟩ 97:=by
  unfold Sm.feed;rw[Yy,QK,Zl rfl]
 rw[h2];unfold Sm.byte;simp only[h1];unfold Sm.char;rw[Zl (show 1024<n+fl 97 by omega)]
def zEN (T:List Rw.Row) (S:List Int) (s:Nat):Sm.St:=if s≤1024 then zAi T S (zB6 s) [] else Sm.bad 7
def zDP (T:List Rw.Row) (S:List Int) (s:Nat):Nat:=(zA5 (Sm.F T S false (zAb T S (zB6 s)))).size
theorem Sm.encS_cat {x y:List Int} (hx:∀c∈x,C.isC c=true) (hy:∀c∈y,C.isC c=true):(zA5 (x++y)).size=(zA5 x).size+(zA5 y).size:=by
 rw[zAG hx,zAG hy,zAG (fun c hc=>(List.mem_append.1 hc).elim (hx c) (hy c)),zAq];exact Zc
section
variable (pb:Nat) (T:List Rw.Row) (S:List Int) (w0:World) (g:Nat) (ok:Ud.Ok T S) (his:Ud.Is w0 (Sm.v pb) T S) (hH:Heads w0) (hg:w0.heap.size≤g) (hf:Ud.full T 97=[97]) (hc:Md.cls T 97=0)
include ok his hH hg hf hc
theorem zS9 (s m:Nat) (hs:s≤1024) (hm:1024<s+m):Sm.feed (zA7 T S) (Sm.fl T) (zAi T S (zB6 s) []) (zEP m)=Sm.bad 7:=by
 obtain⟨k,hk⟩:∃k,m=(1024-s)+(1+k):=⟨m-(1024-s)-1,by omega⟩
 have e:zEP m=zEP (1024-s)++([97]++zEP k):=by
  rw[hk,←zNF,←zNF];rfl
 have aa:Sm.sum (Sm.fl T) (zB6 s++zB6 (1024-s))≤1024:=by
  rw[zBN,zDo,zEK hf];show (List.replicate _ _).length≤1024;rw[Yh];omega
 obtain⟨d,r',h',e1,f1,r1,j1,s1⟩:=zGh (p:=zA7 T S) (fl:=Sm.fl T) (j0:=zAF (zA7 T S) (zB6 s)) (zEP (1024-s)) (a:=zB6 s) (b:=zB6 (1024-s)) (g:=[]) (R:=[]) (fun c hc=>by rw[zDo]at hc;exact zCE _ c hc) aa (.inl rfl) (by rw[zFP,ZC];rfl) (Za _);obtain⟨rfl,rfl,rfl⟩:=zDf (d2:=zB6 (1024-s)) (r2:=[]) (h2:=[]) (by rw[ZC];exact e1.symm) f1 (.inl rfl) r1 rfl;rw[zDo,show s+(1024-s)=1024 by omega]at s1;unfold zAi;rw[e,zGg,zCY,s1,zGg]
 have hn:Sm.sum (Sm.fl T) (zB6 1024)=1024:=by
  rw[zBN,zEK hf];exact Yh
 have hb:=zS8 (p:=zA7 T S) (fl:=Sm.fl T) (x:=Sm.mid (zA7 T S) (Sm.fl T) (zAF (zA7 T S) (zB6 s)) (zB6 1024) []) rfl rfl hn (by unfold Sm.fl;rw[hf];rfl);rw[hb,zDE (by decide)]
theorem zQO (s m:Nat) (hs:s+m≤2000) (w:World) (hw:Below w0.heap.size w0 w) (aa:Sm.At w g (Sm.v pb) (Sm.fv false) (zEN T S s)) :
 Calls Tryz.prog 11 #[.pointer (some ⟨g,0,none⟩),.string ⟨(zEP m).toArray⟩] w fun e w'=>w.grownBy w' (some g)∧Sm.At w' g (Sm.v pb) (Sm.fv false) (zEN T S (s+m))∧∃y:ByteArray,e=.returned (.tuple #[.string y,.int .i64 (if s+m≤1024 then 0 else 7)])∧y.size≤5000∧(s+m≤1024→zDP T S s+y.size=zDP T S (s+m)):=by
 by_cases h1:s+m≤1024
 · have e0:zEN T S s=zAi T S (zB6 s) []:=Zl (by omega);have e1:zEN T S (s+m)=zAi T S (zB6 (s+m)) []:=Zl h1;rw[e0]at aa;rw[e1]
   have hl:(Nf.fl T (zB6 s++zB6 m)).length≤1024:=by
    rw[zDo,zEK hf];show (List.replicate _ _).length≤1024;rw[Yh];omega
   refine (zBO pb T S false w0 g ok his hH hg (zB6 s) (zB6 m) [] (zEP m) [] w hw (fun c hc=>by rw[zDo]at hc;exact zCE _ c hc) hl (.inl rfl) (by rw[zFP,ZC];rfl) aa).mono ?_;rintro e w' ⟨ae,d,r',h',y,k1,k2,k3,rfl,k5,k6,k7⟩;obtain⟨rfl,rfl,rfl⟩:=zDf (d2:=zB6 m) (r2:=[]) (h2:=[]) (by rw[ZC];exact k1.symm) k2 (.inl rfl) k3 rfl;rw[zDo]at k6 k7;have hX:∀c∈Sm.F T S false (zAb T S (zB6 s)),C.isC c=true:=zEw ok false fun c hc=>zCE s c (Z0 hc)
   have ho:zDP T S s+(zA5 y).size=zDP T S (s+m):=by
    unfold zDP;rw[←k6,Sm.encS_cat hX k5]
   refine⟨ae,k7,zA5 y,by rw[Zl h1],?_,fun _=>ho⟩;have h4:=zJx ok false (a:=zB6 (s+m)) (r:=[]) (l:=zB6 (s+m)) (by rw[ZC]) (zCE _) (by rw[←zDo];exact hl);unfold zDP at ho;omega
 have e1:zEN T S (s+m)=Sm.bad 7:=Zk h1;rw[e1,Zk h1]
 by_cases h2:s≤1024
 · have e0:zEN T S s=zAi T S (zB6 s) []:=Zl h2;rw[e0]at aa
   have af:Sm.sum (Sm.fl T) (zB6 s++[])≤1024:=by
    rw[zBN,ZC,zEK hf];show (List.replicate _ _).length≤1024;rw[Yh];exact h2
   have ag:Sm.Ok (Sm.fl T) (zAi T S (zB6 s) []):=by
    unfold zAi;rw[zCY];exact zGO (b:=[]) (by rw[ZC];exact zCE s) af (.inl rfl) (Za _)
   refine (zI4 pb T S (Sm.fid false) (Sm.F T S false) w0 g ok his hH hg (Sm.enter false) (fun z W=>zGP pb T S false w0 ok his hH z W) (zAi T S (zB6 s) []) (zEP m) w hw ag (by show (List.replicate _ _).length≤1000000;rw[Yh];omega) aa).mono ?_;rintro e w' ⟨ae,hh⟩;rw[zS9 pb T S w0 g ok his hH hg hf hc s m h2 (by omega)]at hh;rcases hh with ⟨_,rfl,hA⟩|⟨he,_⟩
   · exact⟨ae,hA,⟨#[]⟩,rfl,Zq _,fun h=>absurd h h1⟩
   cases he
 have e0:zEN T S s=Sm.bad 7:=Zk h2;rw[e0]at aa;refine (zN5 pb (Sm.fid false) g 7 (by decide) ⟨(zEP m).toArray⟩ w aa).mono ?_;rintro e w' ⟨rfl,ae,hA⟩;exact⟨ae,hA,⟨#[]⟩,rfl,Zq _,fun h=>absurd h h1⟩
theorem zSL (n:Nat) (w:World) (hw:Below w0.heap.size w0 w) (aa:Sm.At w g (Sm.v pb) (Sm.fv false) (zEN T S n)) :
 Calls Tryz.prog 12 #[.pointer (some ⟨g,0,none⟩)] w fun e w'=>w.grownBy w' (some g)∧∃y:ByteArray,e=.returned (.tuple #[.string y,.int .i64 (if n≤1024 then 0 else 7)])∧(1024<n→y=⟨#[]⟩)∧(n≤1024→zDP T S n+y.size=n):=by
 by_cases h1:n≤1024
 · have e0:zEN T S n=zAi T S (zB6 n) []:=Zl h1;rw[e0]at aa;rw[Zl h1];refine (zE5 pb T S false w0 g ok his hH hg (zB6 n) w hw (zCE n) (by rw[zEK hf];show (List.replicate _ _).length≤1024;rw[Yh];exact h1) aa).mono ?_;rintro e w' ⟨ae,y,rfl,k5,k6,_⟩;have hX:∀c∈Sm.F T S false (zAb T S (zB6 n)),C.isC c=true:=zEw ok false fun c hc=>zCE n c (Z0 hc)
   refine⟨ae,zA5 y,rfl,fun h=>by omega,fun _=>?_⟩;unfold zDP;rw[←Sm.encS_cat hX k5,k6,zPd hf hc,zAG (zCE n),zFP];exact Yh
 have e0:zEN T S n=Sm.bad 7:=Zk h1;rw[e0]at aa;rw[Zk h1];refine (zHv pb T S (Sm.fid false) (Sm.F T S false) w0 g ok (Sm.enter false) (fun z W=>zGP pb T S false w0 ok his hH z W) (Sm.bad 7) w hw (fun h=>by cases h) (Zq 3) aa).mono ?_;rintro e w' ⟨ae,⟨_,rfl,_⟩|⟨he,_⟩|⟨he,_⟩⟩
 · exact⟨ae,⟨#[]⟩,rfl,fun _=>rfl,fun h=>absurd h h1⟩
 · cases he
 cases he
end
end Go.Proofs.YtdbpjmfflofadaaGreatDoor
