/- Texts that are the same in order, in plain words: an equivalence that goes through what stands ahead and behind. -/
import Derived.Test.YtbeakahjbkdeiaaGreatDoorAl1
import Derived.Test.YtbeakahjbkdeiaaGreatDoorOrPlain
import Derived.Test.YtbeakahjbkdeiaaGreatDoorSoWalkA
import Derived.Test.YtbeakahjbkdeiaaGreatDoorMap
import Derived.Test.YtbeakahjbkdeiaaGreatDoorSlt
import Derived.BigRegion
import Derived.Test.YtbeakahjbkdeiaaGreatDoorFaCh
set_option linter.unusedVariables false
set_option linter.unusedSimpArgs false
namespace Go.Proofs.YtbeakahjbkdeiaaGreatDoor
set_option linter.unusedVariables false
set_option linter.unusedSimpArgs false
theorem Or.cut (f:Int→Int):∀l:List Int,(∀x∈l,0<f x)∨∃a c m,l=a++c::m∧(∀x∈a,0<f x)∧¬0<f c
 | []=>.inl fun x h=>absurd h Y7
 | y::l=>by
   by_cases h:0<f y
   · rcases Or.cut f l with h1|⟨a,c,m,rfl,h1,h2⟩
     · exact .inl fun x hx=>by rcases List.mem_cons.1 hx with rfl|hx;exact h;exact h1 x hx
     · exact .inr ⟨y::a,c,m,rfl,fun x hx=>by rcases List.mem_cons.1 hx with rfl|hx;exact h;exact h1 x hx,h2⟩
   · exact .inr ⟨[],y,l,rfl,fun x hx=>absurd hx Y7,h⟩
inductive Or.Q (f:Int→Int):List Int→List Int→Prop
 | run {a b:List Int}:(∀x∈a,0<f x)→Ss.eqv f a b→Or.Q f a b
 | cons {a b l m:List Int} {c:Int}:(∀x∈a,0<f x)→Ss.eqv f a b→¬0<f c→Or.Q f l m→Or.Q f (a++c::l) (b++c::m)
theorem Ss.eqv.pos {f:Int→Int} {a b:List Int} (h:Ss.eqv f a b) (ha:∀x∈a,0<f x):∀x∈b,0<f x:=fun x hx=>ha x ((h.mem x).1 hx)
theorem Or.R.toQ {f:Int→Int} {l m:List Int} (h:Or.R f l m):Or.Q f l m:=by
 induction h with
 | run h1 h2 h3=>exact .run h1 h3
 | cons h1 h2 h3 h4 h5 ih=>exact .cons h1 h3 h4 ih
theorem Or.Q.symm {f:Int→Int} {l m:List Int} (h:Or.Q f l m):Or.Q f m l:=by
 induction h with
 | run h1 h2=>exact .run (h2.pos h1) h2.symm
 | cons h1 h2 h3 h4 ih=>exact .cons (h2.pos h1) h2.symm h3 ih
theorem Or.Q.R {f:Int→Int} {l m:List Int} (h:Or.Q f l m):∀{r:List Int},Or.R f l r→Or.R f m r:=by
 induction h with
 | @run a b h1 h2 =>
   intro r h'
   generalize he:a=a0 at h'
   cases h' with
   | run g1 g2 g3=>subst he;exact .run (h2.pos h1) g2 (h2.symm.trans g3)
   | @cons a' b' l' m'' c' g1 g2 g3 g4 g5=>exact absurd (h1 c' (by rw[he];simp)) g4
 | @cons a b l m c h1 h2 h3 h4 ih =>
   intro r h'
   generalize he:a++c::l=a0 at h'
   cases h' with
   | run g1 g2 g3=>exact absurd (g1 c (by rw[←he];simp)) h3
   | @cons a' b' l' m'' c' g1 g2 g3 g4 g5 =>
     obtain⟨rfl,rfl,rfl⟩:=Or.split h1 g1 h3 g4 he
     exact .cons (h2.pos h1) g2 (h2.symm.trans g3) h3 (ih g5)
theorem Or.Q.of {f:Int→Int} {l m:List Int} (h:Or.Q f l m):Or.of f l=Or.of f m:=(h.R (Or.of_R f l)).unique (Or.of_R f m) |>.symm
theorem Or.Q_of (f:Int→Int) (l:List Int):Or.Q f l (Or.of f l):=(Or.of_R f l).toQ
theorem Or.Q.trans {f:Int→Int} {l m r:List Int} (h:Or.Q f l m) (h':Or.Q f m r):Or.Q f l r:=by
 have h1:=h'.R (h.R (Or.of_R f l))
 have:∀{x y},Or.R f x y→∀{z},Or.R f z y→Or.Q f x z:=by
  intro x y aa
  induction aa with
  | @run a b g1 g2 g3 =>
    intro z hz
    generalize he:b=b0 at hz
    cases hz with
    | run k1 k2 k3=>subst he;exact .run g1 (g3.trans k3.symm)
    | @cons a' b' l' m'' c' k1 k2 k3 k4 k5=>exact absurd (g3.pos g1 c' (by rw[he];simp)) k4
  | @cons a b l m c g1 g2 g3 g4 g5 ih =>
    intro z hz
    generalize he:b++c::m=b0 at hz
    cases hz with
    | run k1 k2 k3=>exact absurd (k3.pos k1 c (by rw[←he];simp)) g4
    | @cons a' b' l' m'' c' k1 k2 k3 k4 k5 =>
      obtain⟨rfl,rfl,rfl⟩:=Or.split (g3.pos g1) (k3.pos k1) g4 k4 he
      exact .cons g1 (g3.trans k3.symm) g4 (ih k5)
 exact this (Or.of_R f l) h1
theorem Or.Q.refl (f:Int→Int) (l:List Int):Or.Q f l l:=(Or.Q_of f l).trans (Or.Q_of f l).symm
theorem Or.Q.app {f:Int→Int} {l m p q:List Int} (h:Or.Q f l m) (h':Or.Q f p q):Or.Q f (l++p) (m++q):=by
 induction h with
 | @run a b h1 h2 =>
   cases h' with
   | run g1 g2=>exact .run (fun x hx=>by rcases List.mem_append.1 hx with h|h;exact h1 x h;exact g1 x h) (h2.app g2)
   | @cons a' b' l' m' c g1 g2 g3 g4 =>
     rw[←ZN,←ZN]
     exact .cons (fun x hx=>by rcases List.mem_append.1 hx with h|h;exact h1 x h;exact g1 x h) (h2.app g2) g3 g4
 | @cons a b l m c h1 h2 h3 h4 ih =>
   rw[ZN,ZN,ZP,ZP]
   exact .cons h1 h2 h3 ih
theorem Or.Q.flip {f:Int→Int} {a b:List Int} (ha:∀x∈a,0<f x) (hb:∀x∈b,0<f x) (h:∀x∈a,∀y∈b,f x≠f y):Or.Q f (a++b) (b++a) :=
 .run (fun x hx=>by rcases List.mem_append.1 hx with h|h;exact ha x h;exact hb x h) (Ss.eqv.flip h)
theorem Or.Q.swap {f:Int→Int} {x y:Int} (hx:0<f x) (hy:0<f y) (h:f x≠f y) (p q:List Int):Or.Q f (p++x::y::q) (p++y::x::q):=by
 have h1:Or.Q f ([x]++[y]) ([y]++[x]):=Or.Q.flip (by simpa using hx) (by simpa using hy) (by simpa using h)
 exact (Or.Q.refl f p).app (h1.app (Or.Q.refl f q))
theorem Or.of_of (f:Int→Int) (l:List Int):Or.of f (Or.of f l)=Or.of f l:=(Or.Q_of f l).of.symm
theorem Or.of_mem (f:Int→Int) (l:List Int) (x:Int):x∈Or.of f l↔x∈l:=(Or.of_R f l).mem x
def Or.inB (f:Int→Int):Int→List Int→Bool
 | _,[]=>true
 | last,c::l=>if 0<f c∧f c<last then false else Or.inB f (f c) l
theorem Or.inB_pos {f:Int→Int}:∀(a:List Int) (last:Int),(∀x∈a,0<f x)→(Or.inB f last a=true↔(∀x∈a,last≤f x)∧Ss.so f a)
 | [],last,_=>by simp[Or.inB,Ss.so]
 | c::a,last,h=>by
   have hc:=h c Zw
   have ih:=Or.inB_pos a (f c) fun x hx=>h x (ZB _ hx)
   unfold Or.inB Ss.so
   rw[Xk]
   by_cases h1:f c<last
   · rw[Zv ⟨hc,h1⟩]
     simp only[ZE,false_iff,not_and]
     intro h2
     have:=h2 c Zw
     omega
   · rw[Zs (fun h=>h1 h.2),ih]
     constructor
     · rintro⟨h2,h3⟩
       exact⟨fun x hx=>by rcases List.mem_cons.1 hx with rfl|hx;omega;have:=h2 x hx;omega,h2,h3⟩
     · rintro⟨h2,h3,h4⟩
       exact⟨h3,h4⟩
theorem Or.inB_cut {f:Int→Int} {c:Int} (hc:¬0<f c) (m:List Int):∀(a:List Int) (last:Int),Or.inB f last (a++c::m)=(Or.inB f last a&&Or.inB f (f c) m)
 | [],last=>by
   rw[ZZ]
   conv=>lhs;unfold Or.inB
   rw[Zs (fun h=>hc h.1)]
   rfl
 | y::a,last=>by
   have ih:=Or.inB_cut hc m a (f y)
   rw[ZP]
   show (if 0<f y∧f y<last then false else Or.inB f (f y) (a++c::m))=((if 0<f y∧f y<last then false else Or.inB f (f y) a)&&Or.inB f (f c) m)
   split
   · rfl
   · exact ih
theorem Or.R.inB {f:Int→Int} (h0:∀x,0≤f x) {l m:List Int} (h:Or.R f l m):Or.inB f 0 m=true:=by
 induction h with
 | @run a b h1 h2 h3=>exact (Or.inB_pos b 0 (h3.pos h1)).2 ⟨fun x _=>h0 x,h2⟩
 | @cons a b l m c h1 h2 h3 h4 h5 ih =>
   have aa:f c=0:=by have:=h0 c;omega
   rw[Or.inB_cut h4,aa,ih,(Or.inB_pos b 0 (h3.pos h1)).2 ⟨fun x _=>h0 x,h2⟩]
   rfl
theorem Or.R_inB {f:Int→Int} (h0:∀x,0≤f x):∀(n:Nat) (l:List Int),l.length≤n→Or.inB f 0 l=true→Or.R f l l
 | n,l,hn,hi=>by
   rcases Or.cut f l with h|⟨a,c,m,rfl,h1,h2⟩
   · exact .run h ((Or.inB_pos l 0 h).1 hi).2 (Ss.eqv.refl _ _)
   · cases n with
     | zero=>simp at hn
     | succ n =>
       have hm:m.length≤n:=by simp at hn;omega
       have aa:f c=0:=by have:=h0 c;omega
       rw[Or.inB_cut h2,aa,Zx,Or.inB_pos a 0 h1]at hi
       exact .cons h1 hi.1.2 (Ss.eqv.refl _ _) h2 (Or.R_inB h0 n m hm hi.2)
theorem Or.in_of {f:Int→Int} (h0:∀x,0≤f x) (l:List Int):Or.inB f 0 (Or.of f l)=true:=(Or.of_R f l).inB h0
theorem Or.in_iff {f:Int→Int} (h0:∀x,0≤f x) (l:List Int):Or.inB f 0 l=true↔Or.of f l=l :=
 ⟨fun h=>(Or.R_inB h0 _ l (Zb _) h).unique (Or.of_R f l),fun h=>h▸Or.in_of h0 l⟩
end Go.Proofs.YtbeakahjbkdeiaaGreatDoor
namespace Go.Proofs.YtbeakahjbkdeiaaGreatDoor
open Go.RowKit
set_option linter.unusedSimpArgs false
set_option linter.unusedVariables false
theorem Or.inB_take {f:Int→Int}:∀(l:List Int) (t:Int) (k:Nat) {x:Int},l[k]?=some x→Or.inB f t (l.take k)=true→Or.inB f t l=Or.inB f ((l.take k).foldl (fun _ y=>f y) t) (l.drop k)
 | [],t,k,x,h,_=>by simp at h
 | y::l,t,0,x,h,_=>rfl
 | y::l,t,k+1,x,h,hi=>by
   rw[Xg]at hi ⊢
   unfold Or.inB at hi
   split at hi
   · cases hi
   · rename_i hh
     rw[List.foldl_cons,List.drop_succ_cons,←Or.inB_take l (f y) k (by simpa using h) hi]
     conv=>lhs;unfold Or.inB
     rw[Zs hh]
set_option maxRecDepth 100000 in
set_option maxHeartbeats 4000000 in
theorem Or.in_any (v:Value) (T:List Rw.Row) (S:List Int) (A:Option Addr) (n c:Nat) (l:List Int) (w:World) (ok:Ud.Ok T S) (h:Ud.Is w v T S) (hn:l.length=n) (bc:n≤1000000) (hA:Sl w w.heap.size A (l.map (Value.int .i32))) :
 Calls Tryz.prog 35 #[v,.slice A n c] w fun e w'=>e=.returned (.bool (Or.inB (Md.cls T) 0 l))∧Below w.heap.size w w':=by
 have a6:Hid (∀x W,Below w.heap.size w W→Calls Tryz.prog 26 #[v,.int .i32 x] W fun e w'=>e=.returned (.int .i64 (Md.cls T x))∧Below W.heap.size W w'):=Za fun x W hW=>Ud.class_any v T S x W ok (h.below hW)
 obtain⟨pv,rfl,_⟩:=h.form
 have HN:=Za hn
 have HA:=Za hA
 obtain⟨r,hr⟩:∃r,Or.inB (Md.cls T) 0 l=r:=⟨_,rfl⟩
 rw[hr]
 have HR:=Za hr
 obtain⟨f,hf⟩:∃f,Md.cls T=f:=⟨_,rfl⟩
 rw[hf]at HR
 simp only[hf]at a6
 clear hn hA h ok hr hf
 go_enter Tryz.func35,Tryz.ntmps35
 go_wp2_with fail
 go_loopw [5,7,8,11] (fun t _ _ i wr=>∃(k:Nat),k≤n∧i=.int .i64 k∧t=.int .i64 ((l.take k).foldl (fun _ y=>f y) 0)∧Or.inB f 0 (l.take k)=true∧Below w.heap.size w wr) (fun _ _ _ i _=>n-(intOf i).toNat)
 case atStart=>exact⟨0,Zz _,rfl,rfl,rfl,Zd _ _⟩
 case round =>
  obtain⟨k,hk,rfl,rfl,ah,aa⟩:=hrel
  have ay:=aa.size
  by_cases hlt:k<n
  · obtain⟨x,hx⟩:∃x,l[k]?=some x:=⟨_,Zc (by rw[HN.out];exact hlt)⟩
    obtain⟨ab,ao,hA2,bf,a8⟩:=HA.out (by rw[Zf,HN.out];omega)
    have hc:=a8 k (by rw[Zf,HN.out];exact hlt)
    rw[Zl,hx,Zn,←(bcell aa).1 _ _ (by omega)]at hc
    have hit:=Or.inB_take l 0 k hx ah
    obtain⟨ar,a1⟩:=List.getElem?_eq_some_iff.1 hx
    have hdr:l.drop k=x::l.drop (k+1):=by rw[←a1];exact ZS ar
    have ak:l.take (k+1)=l.take k++[x]:=by rw[Zr,hx];rfl
    have aw:(l.take (k+1)).foldl (fun _ y=>f y) 0=f x:=by rw[ak,YY];rfl
    obtain⟨t,ht⟩:∃t,(l.take k).foldl (fun _ y=>f y) 0=t:=⟨_,rfl⟩
    obtain⟨q,hq⟩:∃q,f x=q:=⟨_,rfl⟩
    have av:=a6.out x wr aa
    rw[hq]at av
    rw[ht,hdr]at hit
    rw[show Or.inB f t (x::l.drop (k+1))=if 0<f x∧f x<t then false else Or.inB f (f x) (l.drop (k+1)) from rfl,hq]at hit
    have aj:¬(0<q∧q<t)→Or.inB f 0 (l.take (k+1))=true:=fun hh=>by
     have h2:=Or.inB_take (f:=f) (l.take (k+1)) 0 k (x:=x) (by rw[ak];rw[ZF (by simp;omega)];simp[Nat.min_eq_left (Z3 ar)]) (by rw[XM,Nat.min_eq_left (ZW k)];exact ah)
     rw[h2,XM,Nat.min_eq_left (ZW k),ht,ak,List.drop_append_of_le_length (by simp;omega),Yo (by rw[Zm];omega),ZZ]
     unfold Or.inB
     rw[hq,Zs hh]
     rfl
    rw[ht]
    rw[hq]at aw
    have af:=Za aj
    have ax:=Za aw
    have au:=Za hit
    have ag:=Za aa
    have aq:=Za av
    have kI:(k:Int)<n:=by omega
    have k0:(0:Int)≤k:=by omega
    subst hA2
    clear hx a8 ah hit ar a1 hdr ak aw ht hq av aj aa
    rcases hb:decide (0<q∧q<t) with _|_
    · have a7:=af.out (Xq hb)
      have az:=Za a7
      have ba:¬0<q∨(0<q∧¬q<t):=by have:=Xq hb;omega
      clear a7 af au hb
      rcases ba with h1|⟨h1,h2⟩
      · go_wp2_with (go_at_call 26;refine aq.out.mono ?_;rintro e w1 ⟨rfl,ae⟩;have ai:=Za (ag.out.trans (ae.mono ay));clear ae)
        exact⟨⟨k+1,by omega,by first|rfl|go_num,by rw[ax.out],az.out,ai.out⟩,by simp[intOf];omega⟩
      · go_wp2_with (go_at_call 26;refine aq.out.mono ?_;rintro e w1 ⟨rfl,ae⟩;have ai:=Za (ag.out.trans (ae.mono ay));clear ae)
        exact⟨⟨k+1,by omega,by first|rfl|go_num,by rw[ax.out],az.out,ai.out⟩,by simp[intOf];omega⟩
    · have hh:=Yd hb
      have ap:=au.out
      rw[Zv hh,HR.out]at ap
      have bb:=Za ap
      obtain⟨h1,h2⟩:=hh
      clear ap af au hb ax
      go_wp2_with (go_at_call 26;refine aq.out.mono ?_;rintro e w1 ⟨rfl,ae⟩;have ai:=Za (ag.out.trans (ae.mono ay));clear ae)
      go_ret
      rw[bb.out]
      exact⟨rfl,ai.out⟩
  · obtain rfl:k=n:=by omega
    rw[Zj (by rw[HN.out];exact Zb _),HR.out]at ah
    have kI:¬(k:Int)<k:=by omega
    have HI:=Za ah
    have HB:=Za aa
    clear ah aa
    go_wp2_with fail
    go_ret
    rw[HI.out]
    exact⟨rfl,HB.out⟩
theorem Ss.wrN {z:Int} {k:Nat} (h:z=k) (hk:k≤4000000):wrap64 z=k:=by
 subst h
 unfold wrap64
 omega
theorem Ss.wrI {z y:Int} (h:z=y) (hk:0≤y∧y≤4000000):wrap64 z=y:=by
 subst h
 unfold wrap64
 omega
def Ss.At (w:World) (g sz:Nat) (Z:List Int):Prop:=∃R:List Value,Z.length+R.length=sz∧Rw.At w g 21 (Z.map (Value.int .i32)++R)
theorem Ss.At.cell {w:World} {g sz:Nat} {Z:List Int} (h:Ss.At w g sz Z) {i:Nat} {x:Int} (hx:Z[i]?=some x):w.cell? ⟨g,i,none⟩=some (.int .i32 x):=by
 obtain⟨R,hs,h⟩:=h
 refine Rw.At.cell h i ?_
 rw[ZU (by rw[Zf];exact (List.getElem?_eq_some_iff.1 hx).1),Zl,hx]
 rfl
theorem Ss.At.fro {w:World} {g sz:Nat} {Z:List Int} (h:Ss.At w g sz Z) (i:Nat):w.frozen? ⟨g,i,none⟩=false:=by
 obtain⟨R,hs,h⟩:=h
 exact Rw.At.frozen h i
theorem Ss.At.lt {w:World} {g sz:Nat} {Z:List Int} (h:Ss.At w g sz Z):g<w.heap.size:=by
 obtain⟨R,hs,h⟩:=h
 exact Rw.At.lt h
theorem Ss.At.set {w:World} {g sz:Nat} {Z:List Int} (h:Ss.At w g sz Z) (i:Nat) (hi:i<Z.length) (x:Int):Ss.At (w.setCell ⟨g,i,none⟩ (.int .i32 x)) g sz (Z.set i x):=by
 obtain⟨R,hs,h⟩:=h
 refine⟨R,by rw[Xc];exact hs,?_⟩
 rw[List.map_set,←List.set_append_left _ _ (by rw[Zf];exact hi)]
 exact Rw.At.set h i _
theorem Ss.At.swapA {w:World} {g sz:Nat} {P M Q:List Int} {x y:Int} (h:Ss.At w g sz (P++x::(M++y::Q))):Ss.At ((w.setCell ⟨g,P.length,none⟩ (.int .i32 y)).setCell ⟨g,P.length+1+M.length,none⟩ (.int .i32 x)) g sz (P++y::(M++x::Q)):=by
 have:=(h.set P.length (by simp) y).set (P.length+1+M.length) (by simp;omega) x
 rw[Ss.swap2]at this
 exact this
theorem Ss.At.swapB {w:World} {g sz:Nat} {P M Q:List Int} {x y:Int} (h:Ss.At w g sz (P++x::(M++y::Q))):Ss.At ((w.setCell ⟨g,P.length+1+M.length,none⟩ (.int .i32 x)).setCell ⟨g,P.length,none⟩ (.int .i32 y)) g sz (P++y::(M++x::Q)):=by
 have:=(h.set (P.length+1+M.length) (by simp;omega) x).set P.length (by simp) y
 rw[Ss.swap2']at this
 exact this
theorem Ss.At.below {w w':World} {g sz:Nat} {Z:List Int} (h:Ss.At w g sz Z) (hb:Below w.heap.size w w'):Ss.At w' g sz Z:=by
 obtain⟨R,hs,h⟩:=h
 exact⟨R,hs,Rw.At.below h hb⟩
theorem Ss.grown_drew {w w':World} {row:Option Nat} (h:w.grownBy w' row):w.grownBy w'.drew row:=⟨h.os,h.tape,h.output,h.size,h.block⟩
theorem Ss.grown_refl (w:World) (row:Option Nat):w.grownBy w row:=⟨rfl,rfl,rfl,Zb _,fun _ _ _=>rfl⟩
theorem Ss.grown_below {w w':World} {row:Option Nat} (h:Below w.heap.size w w'):w.grownBy w' row:=⟨h.os,h.tape,h.output,h.size,fun k hk _=>h.block k hk⟩
theorem Ss.grown_set {w w':World} {g:Nat} (h:w.grownBy w' (some g)) (i:Nat) (v:Value):w.grownBy (w'.setCell ⟨g,i,none⟩ v) (some g):=Rw.grown_trans h (Rw.grown_set g i v)
set_option maxRecDepth 100000 in
set_option maxHeartbeats 2000000 in
theorem Ss.swapRange_any (sz g o n0 cap a b n:Nat) (cv:Value) (P X M Y Q:List Int) (w:World) (hZ:Ss.At w g sz (P++(X++(M++(Y++Q))))) (hP:P.length=o+a) (hX:X.length=n) (hY:Y.length=n) (hM:a+n+M.length=b) (hn:b+n≤n0) (au:n0≤1000000) :
 Calls Tryz.prog 239 #[.slice (some ⟨g,o,none⟩) n0 cap,.int .i64 a,.int .i64 b,.int .i64 n,cv] w fun e w'=>e=.returned (.tuple #[])∧Ss.At w' g sz (P++(Y++(M++(X++Q))))∧w.grownBy w' (some g):=by
 have af:=Za (Ss.mid_all (P:=P) (M:=M) (Q:=Q) hX hY)
 have HZ:=Za hZ
 have HX:=Za hX
 have HY:=Za hY
 have HP:=Za hP
 have HM:=Za hM
 clear hZ hX hY hP hM
 go_enter Tryz.func239,Tryz.ntmps239
 go_wp2_with fail
 go_loopw [10] (fun i wr=>∃t:Nat,t≤n∧i=.int .i64 t∧Ss.At wr g sz (Ss.mid P X M Y Q t)∧w.grownBy wr (some g)) (fun i _=>n-(intOf i).toNat)
 case atStart=>exact⟨0,Zz _,rfl,by rw[Ss.mid_zero];exact HZ.out,Ss.grown_refl _ _⟩
 case round =>
  obtain⟨t,ht,rfl,aa,ag⟩:=hrel
  have ai:=Za ag
  by_cases hlt:t<n
  · obtain⟨x,hx⟩:∃x,X[t]?=some x:=⟨_,Zc (by rw[HX.out];exact hlt)⟩
    obtain⟨y,hy⟩:∃y,Y[t]?=some y:=⟨_,Zc (by rw[HY.out];exact hlt)⟩
    obtain⟨e1,e2⟩:=Ss.mid_step (P:=P) (M:=M) (Q:=Q) hx hy
    obtain⟨l1,l2⟩:=Ss.mid_len (P:=P) (M:=M) HX.out HY.out hlt
    rw[HP.out]at l1 l2
    have ao:(P++Y.take t).length+1+(X.drop (t+1)++(M++X.take t)).length=o+(b+t):=by have:=HM.out;omega
    have ah:(P++Y.take t).length=o+(a+t):=by omega
    have aj:=Za ah
    have ak:=Za ao
    clear l1 l2 ah ao
    rw[e1]at aa
    have c1:=aa.cell (Ss.get_first _ _ _)
    have c2:=aa.cell (Ss.get_second _ _ _ _ _)
    rw[aj.out]at c1
    rw[ak.out]at c2
    have f1:=aa.fro (o+(a+t))
    have f2:=aa.fro (o+(b+t))
    have gl:=aa.lt
    have ae:=aa.swapA
    rw[←e2,ak.out,aj.out]at ae
    have tI:(t:Int)<n:=by omega
    have a0:(0:Int)≤(a:Int)+t:=by omega
    have a1:(a:Int)+t<n0:=by have:=HM.out;omega
    have b0:(0:Int)≤(b:Int)+t:=by omega
    have b1:(b:Int)+t<n0:=by omega
    have aq:¬a=b:=by have:=HM.out;omega
    have av:¬b=a:=fun h=>aq h.symm
    have wA:wrap64 ((a:Int)+t)=(a:Int)+t:=Ss.wrI (by omega) (by omega)
    have wB:wrap64 ((b:Int)+t)=(b:Int)+t:=Ss.wrI (by omega) (by omega)
    have tA:((a:Int)+t).toNat=a+t:=by omega
    have tB:((b:Int)+t).toNat=b+t:=by omega
    have ap:=Za ae
    clear hx hy e1 e2 aa ag ae
    go_wp2
    go_region
    go_wp2
    exact⟨⟨t+1,by omega,by go_num,ap.out,Ss.grown_drew (Ss.grown_set (Ss.grown_set ai.out _ _) _ _)⟩,by simp[intOf];omega⟩
  · obtain rfl:t=n:=by omega
    have tI:¬(t:Int)<t:=by omega
    rw[af.out]at aa
    have ar:=Za aa
    clear aa ag
    go_wp2_with fail
    go_end0
    exact⟨rfl,ar.out,ai.out⟩
def Ss.cmp (a b:Int):Int:=if a<b then -1 else if b<a then 1 else 0
theorem Ss.cmp_lt (a b:Int):Ss.cmp a b<0↔a<b:=by
 unfold Ss.cmp
 split
 · simp;assumption
 · split
   · constructor
     · intro h;omega
     · intro h;omega
   · constructor
     · intro h;omega
     · intro h;omega
def Ss.Cmp (aa:FuncId) (cd:Option Addr) (k:Int→Int) (g:Nat) (w:World):Prop:=∀W,w.grownBy W (some g)→∀x y:Int,Calls Tryz.prog aa #[.int .i32 x,.int .i32 y,.pointer cd] W fun e w'=>e=.returned (.int .i64 (Ss.cmp (k x) (k y)))∧Below W.heap.size W w'
theorem Ss.Cmp.grown {aa:FuncId} {cd:Option Addr} {k:Int→Int} {g:Nat} {w w':World} (h:Ss.Cmp aa cd k g w) (hg:w.grownBy w' (some g)):Ss.Cmp aa cd k g w':=fun W hW=>h W (Rw.grown_trans hg hW)
set_option maxRecDepth 100000 in
set_option maxHeartbeats 2000000 in
theorem Ss.rotate_any (sz g o n0 cap a m b:Nat) (cv:Value) (P U V Q:List Int) (w:World) (hZ:Ss.At w g sz (P++(U++(V++Q)))) (hP:P.length=o+a) (hU:a+U.length=m) (hV:m+V.length=b) (hu:a<m) (hv:m<b) (hn:b≤n0) (bl:n0≤1000000) :
 Calls Tryz.prog 207 #[.slice (some ⟨g,o,none⟩) n0 cap,.int .i64 a,.int .i64 m,.int .i64 b,cv] w fun e w'=>e=.returned (.tuple #[])∧Ss.At w' g sz (P++(V++(U++Q)))∧w.grownBy w' (some g):=by
 have a1:=Za (fun i k n P X M Y Q W h1 h2 h3 h4 h5 h6=>Ss.swapRange_any sz g o n0 cap i k n cv P X M Y Q W h1 h2 h3 h4 h5 h6 bl)
 have HZ:=Za hZ
 have HP:=Za hP
 have HU:=Za hU
 have HV:=Za hV
 clear hZ hP hU hV
 go_enter Tryz.func207,Tryz.ntmps207
 go_wp2_with fail
 go_loopw [10,11] (fun vi vj wr=>∃(i j:Nat) (X Y Pl Sr:List Int),1≤i∧1≤j∧i≤m∧m+j≤b∧vi=.int .i64 i∧vj=.int .i64 j∧X.length=i∧Y.length=j∧Ss.At wr g sz (Pl++(X++(Y++Sr)))∧Pl.length=o+(m-i)∧Pl++(Y++(X++Sr))=P++(V++(U++Q))∧w.grownBy wr (some g)) (fun vi vj _=>(intOf vi).toNat+(intOf vj).toNat)
 case atStart=>exact⟨m-a,b-m,U,V,P,Q,by omega,by omega,by omega,by omega,Z5 (Value.int .i64) (by omega),Z5 (Value.int .i64) (by omega),by have:=HU.out;omega,by have:=HV.out;omega,HZ.out,by rw[HP.out];omega,rfl,Ss.grown_refl _ _⟩
 case round =>
  obtain⟨i,j,X,Y,Pl,Sr,bj,bk,bf,bn,rfl,rfl,hX,hY,ai,ak,ap,aq⟩:=hrel
  have av:=Za aq
  have az:=Za ap
  have bc:=Za ak
  have HX:=Za hX
  have HY:=Za hY
  rcases Nat.lt_trichotomy i j with hij|hij|hij
  · have ag:Y=Y.take (j-i)++Y.drop (j-i):=(ZH _ _).symm
    have bb:(Y.take (j-i)).length=j-i:=by rw[Zm];omega
    have au:(Y.drop (j-i)).length=i:=by rw[ZL];omega
    obtain⟨Y1,aw⟩:∃l,Y.take (j-i)=l:=⟨_,rfl⟩
    obtain⟨Y2,a6⟩:∃l,Y.drop (j-i)=l:=⟨_,rfl⟩
    rw[aw,a6]at ag
    rw[aw]at bb
    rw[a6]at au
    have aa:Ss.At wr g sz (Pl++(X++(Y1++(Y2++Sr)))):=by rw[ag]at ai;simpa using ai
    have hS:=Za (a1.out (m-i) (m+j-i) i Pl X Y1 Y2 Sr wr aa ak hX au (by omega) (by omega))
    have hne:((i:Int) != (j:Int))=true:=by simp;omega
    have hgt:¬((i:Int) > (j:Int)):=by omega
    have ba:=Za ag
    have bg:=Za bb
    have bh:=Za au
    clear ai aa ag aw a6 aq ap ak hX hY bb au
    go_wp2_with fail
    rw[show (m:Int)-i=((m-i:Nat):Int) from by omega,show (m:Int)+j-i=((m+j-i:Nat):Int) from by omega]
    refine hS.out.mono ?_
    rintro e w1 ⟨rfl,ae,aj⟩
    have af:=Za ae
    have ao:=Za (Rw.grown_trans av.out aj)
    clear ae aj hS
    go_wp2_with fail
    exact⟨⟨i,j-i,Y2,Y1,Pl,X++Sr,bj,by omega,bf,by omega,rfl,Z5 (Value.int .i64) (by omega),bh.out,bg.out,af.out,bc.out,by rw[←az.out,ba.out];simp,ao.out⟩,by simp[intOf];omega⟩
  · subst hij
    have aa:Ss.At wr g sz (Pl++(X++([]++(Y++Sr)))):=by simpa using ai
    have hS:=Za (a1.out (m-i) m i Pl X [] Y Sr wr aa ak hX hY (by simp;omega) (by omega))
    have hne:((i:Int) != (i:Int))=false:=by simp
    clear ai aa aq ap ak hX hY
    go_wp2_with fail
    rw[show (m:Int)-i=((m-i:Nat):Int) from by omega]
    refine hS.out.mono ?_
    rintro e w1 ⟨rfl,ae,aj⟩
    have af:=Za ae
    have ao:=Za (Rw.grown_trans av.out aj)
    clear ae aj hS
    go_wp2_with fail
    go_end0
    exact⟨rfl,by rw[←az.out];simpa using af.out,ao.out⟩
  · have ah:X=X.take j++X.drop j:=(ZH _ _).symm
    have ar:(X.take j).length=j:=by rw[Zm];omega
    have a7:(X.drop j).length=i-j:=by rw[ZL];omega
    obtain⟨X1,ax⟩:∃l,X.take j=l:=⟨_,rfl⟩
    obtain⟨X2,ay⟩:∃l,X.drop j=l:=⟨_,rfl⟩
    rw[ax,ay]at ah
    rw[ax]at ar
    rw[ay]at a7
    have aa:Ss.At wr g sz (Pl++(X1++(X2++(Y++Sr)))):=by rw[ah]at ai;simpa using ai
    have hS:=Za (a1.out (m-i) m j Pl X1 X2 Y Sr wr aa ak ar hY (by omega) (by omega))
    have hne:((i:Int) != (j:Int))=true:=by simp;omega
    have hgt:(i:Int) > (j:Int):=by omega
    have a8:=Za ah
    have bm:=Za ar
    have bi:=Za a7
    clear ai aa ah ax ay aq ap ak hX hY ar a7
    go_wp2_with fail
    rw[show (m:Int)-i=((m-i:Nat):Int) from by omega]
    refine hS.out.mono ?_
    rintro e w1 ⟨rfl,ae,aj⟩
    have af:=Za ae
    have ao:=Za (Rw.grown_trans av.out aj)
    clear ae aj hS
    go_wp2_with fail
    exact⟨⟨i-j,j,X2,X1,Pl++Y,Sr,by omega,bk,by omega,bn,congrArg (Value.int .i64) (by omega),rfl,bi.out,bm.out,by simpa using af.out,by rw[List.length_append,bc.out,HY.out];omega,by rw[←az.out,a8.out];simp,ao.out⟩,by simp[intOf];omega⟩
theorem Ss.concat_cases (l:List Int):l=[]∨∃s x,l=s++[x]:=by
 rcases YI l with h|⟨s,x,h⟩
 · exact .inl h
 · exact .inr ⟨s,x,by rw[h,YJ]⟩
set_option maxRecDepth 100000 in
set_option maxHeartbeats 4000000 in
theorem Ss.insertion_any (av:FuncId) (cd:Option Addr) (k:Int→Int) (aj:∀(args:Array Value) (w:World),(callFunc av args).run Tryz.prog w=.ok (.enter av args) w)
 (sz g o n0 cap a b:Nat) (P B Q:List Int) (w:World) (hC:Ss.Cmp av cd k g w) (hZ:Ss.At w g sz (P++(B++Q))) (hP:P.length=o+a) (hB:a+B.length=b) (hn:b≤n0) (b3:n0≤1000000) :
 Calls Tryz.prog 162 #[.slice (some ⟨g,o,none⟩) n0 cap,.int .i64 a,.int .i64 b,.func (.func av) #[] #[.pointer cd]] w fun e w'=>e=.returned (.tuple #[])∧(∃B',Ss.so k B'∧Ss.eqv k B B'∧Ss.At w' g sz (P++(B'++Q)))∧w.grownBy w' (some g):=by
 have bc:=Za aj
 have HC:=Za hC
 have HZ:=Za hZ
 have HP:=Za hP
 have HB:=Za hB
 clear aj hC hZ hP hB
 go_enter Tryz.func162,Tryz.ntmps162
 go_wp2_with fail
 go_loopw [8,9] (fun i _ wr=>∃(t:Nat) (S:List Int),1≤t∧t≤B.length+1∧i=.int .i64 ((a+t:Nat):Int)∧Ss.so k S∧Ss.eqv k (B.take t) S∧Ss.At wr g sz (P++(S++(B.drop t++Q)))∧w.grownBy wr (some g)) (fun i _ _=>b+1-(intOf i).toNat)
 case atStart =>
  refine⟨1,B.take 1,Zb _,by omega,Z5 (Value.int .i64) (Ss.wrN (by omega) (by have:=HB.out;omega)),?_,Ss.eqv.refl _ _,by rw[←ZN (B.take 1),ZH];exact HZ.out,Ss.grown_refl _ _⟩
  cases B with
  | nil=>exact Ss.so_nil k
  | cons x l=>exact Ss.so_one k x
 case round =>
  obtain⟨t,S,bs,bz,rfl,au,ak,aa,af⟩:=hrel
  by_cases hlt:t<B.length
  · obtain⟨x,hx⟩:∃x,B[t]?=some x:=⟨_,Zc hlt⟩
    obtain⟨a1,b1⟩:=List.getElem?_eq_some_iff.1 hx
    have hdr:B.drop t=x::B.drop (t+1):=by rw[ZS a1,b1]
    have aq:B.take (t+1)=B.take t++[x]:=by rw[Zr,hx];rfl
    obtain⟨D,hD⟩:∃D,B.drop (t+1)=D:=⟨_,rfl⟩
    rw[hD]at hdr
    rw[hdr]at aa
    have bb:S.length=t:=by rw[ak.length,Zm];omega
    have jI:((a+t:Nat):Int)<b:=by have:=HB.out;omega
    have a7:=Za au
    have bi:=Za ak
    have ax:=Za af
    have bp:=Za aq
    have HD:=Za hD
    have br:=Za aa
    have a8:=Za bb
    have bq:=Za HB.out
    clear au ak af aq hD hdr hx aa bb
    go_wp2_with fail
    obtain⟨w1,rfl⟩:∃w1:World,w1=wr:=⟨_,rfl⟩
    go_loopw [9] (fun j wq=>∃(S1 G:List Int) (jj:Nat),S1++G=S∧j=.int .i64 jj∧jj=a+S1.length∧(∀y∈G,k x<k y)∧Ss.At wq g sz (P++(S1++(x::(G++(D++Q)))))∧w1.grownBy wq (some g)) (fun j _=>(intOf j).toNat-a)
    case atStart=>exact⟨S,[],a+t,by simp,rfl,by rw[a8.out],fun y hy=>by simp at hy,br.out,Ss.grown_refl _ _⟩
    case round =>
     obtain⟨S1,G,jj,ai,rfl,ao,hG,aa,af⟩:=hrel
     have ag:(∀y∈S1,k y≤k x)→Ss.so k (S1++x::G)∧Ss.eqv k (B.take (t+1)) (S1++x::G)∧P++(S1++(x::(G++(D++Q))))=P++((S1++x::G)++(B.drop (t+1)++Q)):=fun bh=>by
      have h1:=a7.out
      rw[←ai]at h1
      obtain⟨h2,h3⟩:=Ss.insert h1 bh hG
      refine⟨h2,?_,by rw[HD.out];simp⟩
      rw[bp.out]
      have h4:=bi.out.app (Ss.eqv.refl k [x])
      rw[←ai]at h4
      exact h4.trans h3
     rcases Ss.concat_cases S1 with rfl|⟨S2,s,rfl⟩
     · obtain⟨f1,f2,f3⟩:=ag (fun y hy=>by simp at hy)
       rw[f3]at aa
       have F1:=Za f1
       have F2:=Za f2
       have F3:=Za aa
       have ar:=Za (Rw.grown_trans ax.out af)
       have hj:¬(a<jj):=by simp at ao;omega
       have gl:=aa.lt
       clear ag f1 f2 f3 aa ai hG af ao
       go_wp2_with fail
       refine wp_region_ext (by kernel_rfl) (by kernel_rfl) ?_
       repeat (go_big_quiet_step (fail))
       refine wpQuiet_nil ?_
       intro xw
       have ay:=Za (F3.out.below xw.below)
       have ap:=Za (Rw.grown_trans ar.out (Ss.grown_below xw.below))
       go_wp2_with fail
       exact⟨⟨t+1,[]++x::G,by omega,by omega,by go_num,F1.out,F2.out,ay.out,ap.out⟩,by simp[intOf];omega⟩
     · obtain⟨j1,rfl⟩:∃j1,jj=j1+1:=⟨a+S2.length,by rw[ao,Zi];rfl⟩
       have az:j1=a+S2.length:=by simp at ao;omega
       have e1:P++((S2++[s])++(x::(G++(D++Q))))=(P++S2)++s::([]++x::(G++(D++Q))):=by simp
       have e2:(P++S2)++x::([]++s::(G++(D++Q)))=P++(S2++(x::((s::G)++(D++Q)))):=by simp
       have ae:=aa
       rw[e1]at ae
       have l1:(P++S2).length=o+j1:=by rw[Zi,HP.out];omega
       have l2:(P++S2).length+1+([]:List Int).length=o+(j1+1):=by rw[l1];rfl
       have L1:=Za l1
       have L2:=Za l2
       clear l1 l2
       have c1:=ae.cell (Ss.get_first _ _ _)
       have c2:=ae.cell (Ss.get_second _ _ _ _ _)
       rw[L1.out]at c1
       rw[L2.out]at c2
       have gl:=aa.lt
       have f1:=aa.fro (o+j1)
       have f2:=aa.fro (o+(j1+1))
       have bx:j1+1<n0:=by
        have h1:=Z5 List.length ai
        have h2:=a8.out
        have h3:=bq.out
        simp at h1
        omega
       have j0:(0:Int)≤j1:=by omega
       have b2:(j1:Int)<n0:=by omega
       have bt:(0:Int)≤(j1:Int)+1:=by omega
       have bg:(j1:Int)+1<n0:=by omega
       have bu:(a:Int)<(j1:Int)+1:=by omega
       have tj:((j1:Int)+1).toNat=j1+1:=by omega
       have a6:=Za ae
       have bn:=Za aa
       have ar:=Za (Rw.grown_trans ax.out af)
       have bj:=Za af
       have C1:=Za (Ext.call (w:=wr) fun W hW=>HC.out W (Rw.grown_trans (Rw.grown_trans ax.out af) (Ss.grown_below hW)) x s)
       have x1:=Ext.cells c1 gl
       have x2:=Ext.cells c2 gl
       by_cases hk:k x<k s
       · have hv:Ss.cmp (k x) (k s) = -1:=Zv hk
         rw[hv]at C1
         have bl:Hid (∀y∈s::G,k x<k y):=Za fun y hy=>by
          rcases List.mem_cons.1 hy with rfl|hy
          · exact hk
          · exact hG y hy
         have bk:Hid (S2++(s::G)=S):=Za (by rw[←ai];simp)
         have E2:=Za e2
         have bm:=Za az
         clear ag aa ae hG ai af ao e1 e2 hv az
         go_wp2_with fail
         refine wp_region_ext (by kernel_rfl) (by kernel_rfl) ?_
         have aj:=bc.out
         repeat (go_big_quiet_step (with_reducible exact C1.out _))
         clear aj
         refine wpQuiet_nil ?_
         intro xw
         have ah:=a6.out.below xw.below
         have aw:=ah.swapB
         rw[E2.out,L2.out,L1.out]at aw
         have bf:=Za aw
         have ap:=Za (Rw.grown_trans bj.out (Ss.grown_below xw.below))
         have k1:=x1 xw
         have k2:=x2 xw
         have g1:=ah.fro (o+j1)
         have g2:=ah.fro (o+(j1+1))
         have bo:=ah.lt
         obtain⟨wx,ba⟩:∃wx,xw.val=wx:=⟨_,rfl⟩
         rw[ba]at bf ap k1 k2 g1 g2 bo ⊢
         clear x1 x2 c1 c2 f1 f2 gl ah aw ba
         go_wp2_with fail
         go_region
         go_wp2
         exact⟨⟨S2,s::G,j1,bk.out,rfl,bm.out,bl.out,bf.out,Ss.grown_drew (Ss.grown_set (Ss.grown_set ap.out _ _) _ _)⟩,by simp[intOf];omega⟩
       · obtain⟨v,hv⟩:∃v,Ss.cmp (k x) (k s)=v:=⟨_,rfl⟩
         have bw:¬v<0:=by rw[←hv,Ss.cmp_lt];exact hk
         rw[hv]at C1
         have hle:∀y∈S2++[s],k y≤k x:=by
          have h1:=a7.out
          rw[←ai]at h1
          have h2:=h1.left
          intro y hy
          rcases List.mem_append.1 hy with hy|hy
          · have:=h2.cross y hy s Zw
            omega
          · rw[Zy]at hy
            rw[hy]
            omega
         obtain⟨q1,q2,q3⟩:=ag hle
         rw[q3]at aa
         have F1:=Za q1
         have F2:=Za q2
         have F3:=Za aa
         clear ag aa ae hG ai af ao e1 e2 hv az q1 q2 q3 hle hk
         go_wp2_with fail
         refine wp_region_ext (by kernel_rfl) (by kernel_rfl) ?_
         have aj:=bc.out
         repeat (go_big_quiet_step (with_reducible exact C1.out _))
         clear aj
         refine wpQuiet_nil ?_
         intro xw
         have ay:=Za (F3.out.below xw.below)
         have ap:=Za (Rw.grown_trans ar.out (Ss.grown_below xw.below))
         go_wp2_with fail
         exact⟨⟨t+1,(S2++[s])++x::G,by omega,by omega,by go_num,F1.out,F2.out,ay.out,ap.out⟩,by simp[intOf];omega⟩
  · have hd:B.drop t=[]:=Yo (by omega)
    have aq:B.take t=B:=Zj (by omega)
    rw[hd,ZZ]at aa
    rw[aq]at ak
    have jI:¬((a+t:Nat):Int)<b:=by have:=HB.out;omega
    have F1:=Za au
    have F2:=Za ak
    have F3:=Za aa
    have ar:=Za af
    clear au ak aa af hd aq
    go_wp2_with fail
    go_end0
    exact⟨rfl,⟨S,F1.out,F2.out,F3.out⟩,ar.out⟩
end Go.Proofs.YtbeakahjbkdeiaaGreatDoor
