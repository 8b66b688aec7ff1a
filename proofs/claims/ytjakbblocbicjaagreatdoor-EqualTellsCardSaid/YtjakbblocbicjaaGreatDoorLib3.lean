/- The layer hangul: what each function answers, by walking its text. -/
import Derived.Test.YtjakbblocbicjaaGreatDoorNcJoin2
import Derived.BigQuiet
import Derived.Deep.RegionHeld3
import Derived.Deep.AppendLies
set_option maxHeartbeats 1000000
set_option linter.unusedVariables false
set_option linter.unusedSimpArgs false
namespace Go.Proofs.YtjakbblocbicjaaGreatDoor
open Go.Proofs.Tryz
section
open Go.RowKit
theorem Hg.in_any (c a n:Int) (w:World) (h1:0≤a) (h2:0≤n) (h3:a+n≤100000) :
 Calls prog 80 #[.int .i32 c,.int .i32 a,.int .i32 n] w fun e w'=>e=.returned (.bool (decide (a≤c∧c<a+n)))∧w=w':=by
 go_enter func80,ntmps80;go_wp2
 all_goals
  go_ret;exact⟨zB9 (by simp;try omega),rfl⟩
def zA2 (c:Int):Int :=
 if 4352≤c∧c<4371 then 1 else if 4449≤c∧c<4470 then 2 else if 4520≤c∧c<4547 then 3
 else if ¬(44032≤c∧c<55204) then 0 else if (c-44032)%28=0 then 4 else 5
theorem Hg.of_any (c:Int) (w:World) (h1 : -2147483648≤c) (h2:c≤2147483647) :
 Calls prog 54 #[.int .i32 c] w fun e w'=>e=.returned (.int .i64 (zA2 c))∧w=w':=by
 go_enter func54,ntmps54;go_wp2
 all_goals
  go_ret;refine⟨zBN ?_,rfl⟩
  try simp only[YT,Xq,Yu,JJ,Zn,ZX]at *
  unfold zA2;grind
def zAh (c:Int):Int × Int × Bool :=
 if zA2 c=4 then (4352+(c-44032)/588,4449+(c-44032)%588/28,true)
 else if zA2 c=5 then (c-(c-44032)%28,4519+(c-44032)%28,true)
 else (0,0,false)
theorem zAt (c:Int) (h:zA2 c=4∨zA2 c=5):44032≤c∧c<55204:=by
 unfold zA2 at h;grind
theorem zBX (c:Int) (w:World) (h1 : -2147483648≤c) (h2:c≤2147483647) :
 Calls prog 111 #[.int .i32 c] w fun e w'=>e=.returned (.tuple #[.int .i32 (zAh c).1,.int .i32 (zAh c).2.1,.bool (zAh c).2.2])∧w=w':=by
 by_cases h4:zA2 c=4
 · have hs:=zAt c (.inl h4);obtain⟨af,ae⟩:=hs;have hb:=beq_iff_eq.2 h4;have H4:=hy' h4;clear h4;go_enter func111,ntmps111;go_wp2_with (go_at_call 54;refine (Hg.of_any _ _ h1 h2).mono ?_;rintro e w' ⟨rfl,rfl⟩);go_ret3;refine⟨zGG ?_,rfl⟩;unfold zAh;rw[Zm H4.o]
 by_cases h5:zA2 c=5
 · have hs:=zAt c (.inr h5);obtain⟨af,ae⟩:=hs;have hb:(zA2 c == 4)=false:=by rw[h5];rfl
   have aa:=beq_iff_eq.2 h5;have H5:=hy' h5;have H4:=hy' h4;clear h4 h5;go_enter func111,ntmps111;go_wp2_with (go_at_call 54;refine (Hg.of_any _ _ h1 h2).mono ?_;rintro e w' ⟨rfl,rfl⟩);go_ret3;refine⟨zGG ?_,rfl⟩;unfold zAh;rw[Zk H4.o,Zm H5.o]
 have hb:(zA2 c == 4)=false:=beq_eq_false_iff_ne.2 h4;have aa:(zA2 c == 5)=false:=beq_eq_false_iff_ne.2 h5;have H5:=hy' h5;have H4:=hy' h4;clear h4 h5;go_enter func111,ntmps111;go_wp2_with (go_at_call 54;refine (Hg.of_any _ _ h1 h2).mono ?_;rintro e w' ⟨rfl,rfl⟩);go_ret3;refine⟨zGG ?_,rfl⟩;unfold zAh;rw[Zk H4.o,Zk H5.o]
def zA6 (c:Int):List Int :=
 if zA2 c=4 then [4352+(c-44032)/588,4449+(c-44032)%588/28]
 else if zA2 c=5 then [4352+(c-44032)/588,4449+(c-44032)%588/28,4519+(c-44032)%28]
 else []
theorem zCT (c:Int) (h1:44032≤c) (h2:c<55204) (h:(c-44032)%28=0):zA2 c=4:=by
 unfold zA2;grind
theorem zAO (c:Int) (h:zA2 c=4):zAh c=(4352+(c-44032)/588,4449+(c-44032)%588/28,true):=by
 unfold zAh;rw[if_pos h]
theorem zAW (c:Int) (h:zA2 c=5):zAh c=(c-(c-44032)%28,4519+(c-44032)%28,true):=by
 unfold zAh;rw[if_neg (by rw[h];decide),if_pos h]
theorem zBM (c:Int) (h4:¬zA2 c=4) (h5:¬zA2 c=5):zAh c=(0,0,false):=by
 unfold zAh;rw[if_neg h4,if_neg h5]
theorem zLF (c:Int) (h1:44032≤c) (h2:c<55204):zAh (4352+(c-44032)/588)=(0,0,false):=by
 have a:4352≤4352+(c-44032)/588∧4352+(c-44032)/588<4371:=by omega
 refine zBM _ ?_ ?_ <;> unfold zA2 <;> rw[if_pos a] <;> decide
theorem zIj (c:Int) (h1:44032≤c) (h2:c<55204):zAh (c-(c-44032)%28)=(4352+(c-44032)/588,4449+(c-44032)%588/28,true):=by
 rw[zAO _ (zCT _ (by omega) (by omega) (by omega))];refine Qv ?_ (Qv ?_ rfl) <;> simp only[] <;> omega
theorem Hg.split_any (c:Int) (w:World) (h1 : -2147483648≤c) (h2:c≤2147483647) :
 Calls prog 76 #[.int .i32 c] w (RetInts .i32 (zA6 c) w):=by
 by_cases h4:zA2 c=4
 · have hs:=zAt c (.inl h4);obtain⟨ae,aa⟩:=hs;have hp:=zAO c h4;have hq:=zLF c ae aa;have H4:=hy' h4;clear h4;go_enter func76,ntmps76;go_wp2_with (fail);refine (zBX _ _ h1 h2).mono ?_;rintro e w' ⟨rfl,rfl⟩;rw[hp];clear hp;go_wp2_with (fail);refine (zBX _ _ (by omega) (by omega)).mono ?_;rintro e w' ⟨rfl,rfl⟩;rw[hq];clear hq;go_wp2;go_ret;unfold zA6;rw[Zm H4.o];exact⟨_,_,rfl,Sl.lit rfl _ _ (ZT _ _),(Zc _ _).alloc (Za _) _⟩
 by_cases h5:zA2 c=5
 · have hs:=zAt c (.inr h5);obtain⟨ae,aa⟩:=hs;have hp:=zAW c h5;have hq:=zIj c ae aa;have H5:=hy' h5;have H4:=hy' h4;clear h4 h5;go_enter func76,ntmps76;go_wp2_with (fail);refine (zBX _ _ h1 h2).mono ?_;rintro e w' ⟨rfl,rfl⟩;rw[hp];clear hp;go_wp2_with (fail);refine (zBX _ _ (by omega) (by omega)).mono ?_;rintro e w' ⟨rfl,rfl⟩;rw[hq];clear hq;go_wp2;go_ret;unfold zA6;rw[Zk H4.o,Zm H5.o];exact⟨_,_,rfl,Sl.lit rfl _ _ (ZT _ _),(Zc _ _).alloc (Za _) _⟩
 have hp:=zBM c h4 h5;have H5:=hy' h5;have H4:=hy' h4;clear h4 h5;go_enter func76,ntmps76;go_wp2_with (fail);refine (zBX _ _ h1 h2).mono ?_;rintro e w' ⟨rfl,rfl⟩;rw[hp];clear hp;go_wp2;go_ret;unfold zA6;rw[Zk H4.o,Zk H5.o];exact⟨_,_,rfl,fun h=>absurd h (by simp),Zc _ _⟩
def Hg.joinK (a b:Int):Int × Bool :=
 if zA2 a=1∧zA2 b=2 then (44032+((a-4352)*21+b-4449)*28,true)
 else if zA2 a=4∧zA2 b=3 then (a+b-4519,true) else (0,false)
theorem zFK (c:Int) (h:zA2 c=1):4352≤c∧c<4371:=by unfold zA2 at h;grind
theorem zEx (c:Int) (h:zA2 c=2):4449≤c∧c<4470:=by unfold zA2 at h;grind
theorem zHh (c:Int) (h:zA2 c=3):4520≤c∧c<4547:=by unfold zA2 at h;grind
theorem Hg.join_any (a b:Int) (w:World) (h1 : -2147483648≤a) (h2:a≤2147483647) (h3 : -2147483648≤b) (h4:b≤2147483647) :
 Calls prog 121 #[.int .i32 a,.int .i32 b] w fun e w'=>e=.returned (.tuple #[.int .i32 (Hg.joinK a b).1,.bool (Hg.joinK a b).2])∧w=w':=by
 by_cases ha:zA2 a=1
 · have ae:=zFK a ha;obtain⟨ai,ah⟩:=ae;have q1:(zA2 a == 1)=true:=beq_iff_eq.2 ha;have q4:(zA2 a == 4)=false:=by rw[ha];rfl
   by_cases hb:zA2 b=2
   · have af:=zEx b hb;obtain⟨aj,ag⟩:=af;have q2:(zA2 b == 2)=true:=beq_iff_eq.2 hb;have HA:=hy' ha;have HB:=hy' hb;clear ha hb;go_enter func121,ntmps121;go_wp2_with (go_at_call 54;refine (Hg.of_any _ _ (by omega) (by omega)).mono ?_;rintro e w' ⟨rfl,rfl⟩);go_ret2;refine⟨zDy ?_,rfl⟩;unfold Hg.joinK;rw[Zm ⟨HA.o,HB.o⟩]
   have q2:(zA2 b == 2)=false:=beq_eq_false_iff_ne.2 hb;have HA:=hy' ha;have HB:=hy' hb;clear ha hb;go_enter func121,ntmps121;go_wp2_with (go_at_call 54;refine (Hg.of_any _ _ (by omega) (by omega)).mono ?_;rintro e w' ⟨rfl,rfl⟩);go_ret2;refine⟨zDy ?_,rfl⟩;unfold Hg.joinK;rw[Zk (fun h=>HB.o h.2),Zk (fun h=>by have:=HA.o;omega)]
 have q1:(zA2 a == 1)=false:=beq_eq_false_iff_ne.2 ha
 by_cases ha4:zA2 a=4
 · have ae:=zAt a (.inl ha4);obtain⟨ai,ah⟩:=ae;have q4:(zA2 a == 4)=true:=beq_iff_eq.2 ha4
   by_cases hb:zA2 b=3
   · have af:=zHh b hb;obtain⟨aj,ag⟩:=af;have q2:(zA2 b == 3)=true:=beq_iff_eq.2 hb;have HA:=hy' ha;have aa:=hy' ha4;have HB:=hy' hb;clear ha ha4 hb;go_enter func121,ntmps121;go_wp2_with (go_at_call 54;refine (Hg.of_any _ _ (by omega) (by omega)).mono ?_;rintro e w' ⟨rfl,rfl⟩);go_ret2;refine⟨zDy ?_,rfl⟩;unfold Hg.joinK;rw[Zk (fun h=>HA.o h.1),Zm ⟨aa.o,HB.o⟩]
   have q2:(zA2 b == 3)=false:=beq_eq_false_iff_ne.2 hb;have HA:=hy' ha;have aa:=hy' ha4;have HB:=hy' hb;clear ha ha4 hb;go_enter func121,ntmps121;go_wp2_with (go_at_call 54;refine (Hg.of_any _ _ (by omega) (by omega)).mono ?_;rintro e w' ⟨rfl,rfl⟩);go_ret2;refine⟨zDy ?_,rfl⟩;unfold Hg.joinK;rw[Zk (fun h=>HA.o h.1),Zk (fun h=>HB.o h.2)]
 have q4:(zA2 a == 4)=false:=beq_eq_false_iff_ne.2 ha4;have HA:=hy' ha;have aa:=hy' ha4;clear ha ha4;go_enter func121,ntmps121;go_wp2_with (go_at_call 54;refine (Hg.of_any _ _ (by omega) (by omega)).mono ?_;rintro e w' ⟨rfl,rfl⟩);go_ret2;refine⟨zDy ?_,rfl⟩;unfold Hg.joinK;rw[Zk (fun h=>HA.o h.1),Zk (fun h=>aa.o h.1)]
theorem zFL (c:Int) (w:World) (h1 : -2147483648≤c) (h2:c≤2147483647) :
 Calls prog 86 #[.int .i64 c] w fun e w'=>e=.returned (.int .i64 (zA2 c))∧w=w':=by
 go_enter func86,ntmps86;go_wp2
 all_goals
  go_ret;refine⟨zBN ?_,rfl⟩
  try simp only[YT,Xq,Yu,JJ,Zn,ZX]at *
  unfold zA2;grind
theorem zHi (
 c:Int) (w:World) (h1 : -2147483648≤c) (h2:c≤2147483647) :
 Calls prog 83 #[.int .i64 c] w (RetInts .i64 (zA6 c) w):=by
 go_enter func83,ntmps83;go_wp2;go_loop [3,4] (fun n l=>∃k:Int,0≤k∧k≤19∧n=.int .i64 (44032+588*k)∧l=.int .i64 (4352+k)∧(k=0∨44032+588*k≤c)) (fun _ l=>(5000-intOf l).toNat)
 case atStart=>exact⟨0,by omega,by omega,rfl,rfl,.inl rfl⟩
 obtain⟨k,af,ae,rfl,rfl,hk⟩:=hrel
 by_cases hl:4352+k≤4370
 rotate_left
 · have HS:Hy (zA6 c=[]):=by
    show zA6 c=[];have:¬(44032≤c∧c<55204):=by omega
    unfold zA6;rw[Zk (fun h=>this (zAt c (.inl h))),Zk (fun h=>this (zAt c (.inr h)))]
   go_wp2;go_ret;rw[HS.o];exact⟨_,_,rfl,fun h=>absurd h (by simp),Zc _ _⟩
 by_cases hc:44032+588*k+588≤c
 · go_wp2;exact⟨⟨k+1,by omega,by omega,by go_num,by go_num,.inr (by omega)⟩,by simp[intOf];omega⟩
 go_wp2;go_loop [3,5] (fun n v=>∃j:Int,0≤j∧j≤21∧n=.int .i64 (44032+588*k+28*j)∧v=.int .i64 (4449+j)∧(j=0∨44032+588*k+28*j≤c)) (fun _ v=>(5000-intOf v).toNat)
 case atStart=>exact⟨0,by omega,by omega,by go_num,rfl,.inl rfl⟩
 obtain⟨j,hj0,aa,rfl,rfl,hj⟩:=hrel
 by_cases hv:4449+j≤4469
 rotate_left
 · omega
 by_cases hd:44032+588*k+28*j+28≤c
 · go_wp2;exact⟨⟨j+1,by omega,by omega,by go_num,by go_num,.inr (by omega)⟩,by simp[intOf];omega⟩
 by_cases he:c=44032+588*k+28*j
 · have hb:(c == 44032+588*k+28*j)=true:=beq_iff_eq.2 he;have H4:=zCT c (by omega) (by omega) (by omega)
   have HS:Hy (zA6 c=[4352+k,4449+j]):=by
    show zA6 c=[4352+k,4449+j];unfold zA6;rw[Zm H4,show (c-44032)/588=k from by omega,show (c-44032)%588/28=j from by omega]
   clear H4;have HE:=hy' he;clear he;go_wp2;go_ret;rw[HS.o];exact⟨_,_,rfl,Sl.lit rfl _ _ (ZT _ _),(Zc _ _).alloc (Za _) _⟩
 have hb:(c == 44032+588*k+28*j)=false:=beq_eq_false_iff_ne.2 he
 by_cases hg:44032+588*k+28*j<c
 · have H5:zA2 c=5:=by unfold zA2;grind
   have HS:Hy (zA6 c=[4352+k,4449+j,4519+c-(44032+588*k+28*j)]):=by
    show zA6 c=[4352+k,4449+j,4519+c-(44032+588*k+28*j)];unfold zA6
    rw[Zk (by rw[H5];decide),Zm H5,show (c-44032)/588=k from by omega,show (c-44032)%588/28=j from by omega,
     show 4519+(c-44032)%28=4519+c-(44032+588*k+28*j) from by omega]
   clear H5;go_wp2;go_ret;rw[HS.o];exact⟨_,_,rfl,Sl.lit rfl _ _ (ZT _ _),(Zc _ _).alloc (Za _) _⟩
 have HS:Hy (zA6 c=[]):=by
  show zA6 c=[];have:¬(44032≤c∧c<55204):=by omega
  unfold zA6;rw[Zk (fun h=>this (zAt c (.inl h))),Zk (fun h=>this (zAt c (.inr h)))]
 go_wp2;go_ret;rw[HS.o];exact⟨_,_,rfl,fun h=>absurd h (by simp),Zc _ _⟩
end
def Md.one (mp:Int→List Int) (c:Int):List Int:=if mp c=[] then [c] else mp c
def Md.step (mp:Int→List Int) (L:List Int):List Int:=L.flatMap (Md.one mp)
def Md.plain (mp:Int→List Int) (L:List Int):Bool:=L.all fun c=>(mp c).isEmpty
def zDX (mp:Int→List Int):Nat→List Int→Option (List Int)
 | 0,_=>none
 | k+1,L=>if Md.plain mp L=true then some L else if (Md.step mp L).length > 32 then none else zDX mp k (Md.step mp L)
def zEy (out:List Int) (c:Int):Option (List Int):=if out.length<32 then some (out++[c]) else none
def zBF (f:List Int→Int→Option (List Int)):List Int→List Int→Option (List Int)
 | out,[]=>some out
 | out,d::r=>(f out d).bind fun o=>zBF f o r
def zBR (mp:Int→List Int):Nat→List Int→Int→Option (List Int)
 | 0,out,c=>if mp c=[] then zEy out c else none
 | k+1,out,c=>if mp c=[] then zEy out c else zBF (zBR mp k) out (mp c)
def zAp (f:Int→Option (List Int)):List Int→Option (List Int)
 | []=>some []
 | d::r=>(f d).bind fun a=>(zAp f r).map (a ++ ·)
def Md.lv (mp:Int→List Int):Nat→Int→Option (List Int)
 | 0,c=>if mp c=[] then some [c] else none
 | k+1,c=>if mp c=[] then some [c] else zAp (Md.lv mp k) (mp c)
def Md.fit (out:List Int) (l:List Int):Option (List Int):=if out.length+l.length≤32 then some (out++l) else none
theorem zF7 {f:Int→Option (List Int)} (hf:∀c l,f c=some l→1≤l.length):∀(L l:List Int),zAp f L=some l→L.length≤l.length
 | [],l,_=>ZF _
 | d::r,l,h=>by
   unfold zAp at h;cases hd:f d with
   | none=>rw[hd]at h;cases h
   | some a =>
     rw[hd,ZC]at h;cases hr:zAp f r with
     | none=>rw[hr]at h;cases h
     | some b =>
       rw[hr,Zz]at h;cases h
       have h1:=hf d a hd;have h2:=zF7 hf r b hr;simp;omega
theorem zGg (mp:Int→List Int):∀(k:Nat) (c:Int) (l:List Int),Md.lv mp k c=some l→1≤l.length
 | 0,c,l,h=>by
   unfold Md.lv at h;split at h
   · cases h;simp
   cases h
 | k+1,c,l,h=>by
   unfold Md.lv at h;split at h
   · cases h;simp
   rename_i hne;have:=zF7 (zGg mp k) _ _ h
   have h2:1≤(mp c).length:=by
    cases hm:mp c with
    | nil=>exact absurd hm hne
    | cons a b=>simp
   omega
theorem zOQ (mp:Int→List Int) {c:Int} (k:Nat) {l:List Int} (h:Md.lv mp k c=some l) (hc:mp c≠[]):(mp c).length≤l.length:=by
 cases k with
 | zero=>unfold Md.lv at h;rw[if_neg hc]at h;cases h
 | succ k=>unfold Md.lv at h;rw[if_neg hc]at h;exact zF7 (zGg mp k) _ _ h
theorem zJH {f:List Int→Int→Option (List Int)} {g:Int→Option (List Int)} (hf:∀out c,out.length≤32→f out c=(g c).bind (Md.fit out)) :
 ∀(L out:List Int),out.length≤32→zBF f out L=(zAp g L).bind (Md.fit out)
 | [],out,ho=>by
   unfold zBF zAp Md.fit;simp[ho]
 | d::r,out,ho=>by
   unfold zBF zAp;rw[hf out d ho];cases hd:g d with
   | none=>rfl
   | some a =>
     rw[ZC,ZC]
     by_cases h1:out.length+a.length≤32
     · rw[show Md.fit out a=some (out++a) by unfold Md.fit;rw[if_pos h1],Option.bind_some,zJH hf r (out++a) (by simpa using h1)];cases hr:zAp g r with
       | none=>rfl
       | some b =>
         rw[ZC,Zz,ZC];unfold Md.fit;simp[Yn]
     rw[show Md.fit out a=none by unfold Md.fit;rw[if_neg h1],Option.bind_none];cases hr:zAp g r with
     | none=>rfl
     | some b =>
       rw[Zz,ZC];unfold Md.fit;rw[Zk (by simp;omega)]
theorem zIk (out:List Int) (c:Int):zEy out c=Md.fit out [c]:=by
 unfold zEy Md.fit
 by_cases h:out.length<32
 · rw[Zm h,Zm (by simp;omega)]
 rw[Zk h,Zk (by simp;omega)]
theorem zBx (mp:Int→List Int):∀(k:Nat) (out:List Int) (c:Int),out.length≤32→zBR mp k out c=(Md.lv mp k c).bind (Md.fit out)
 | 0,out,c,ho=>by
   unfold zBR Md.lv
   by_cases h:mp c=[]
   · rw[Zm h,Zm h,zIk];rfl
   rw[Zk h,Zk h];rfl
 | k+1,out,c,ho=>by
   unfold zBR Md.lv
   by_cases h:mp c=[]
   · rw[Zm h,Zm h,zIk];rfl
   rw[Zk h,Zk h];exact zJH (fun o d hd=>zBx mp k o d hd) _ _ ho
theorem zJI (f:Int→Option (List Int)):∀(a b:List Int),zAp f (a++b)=(zAp f a).bind fun x=>(zAp f b).map (x ++ ·)
 | [],b=>by simp[zAp]
 | d::r,b=>by
   rw[Zx,zAp,zAp,zJI f r b];cases f d with
   | none=>rfl
   | some x =>
     cases zAp f r with
     | none=>rfl
     | some y =>
       cases zAp f b with
       | none=>rfl
       | some z=>simp
theorem zBr (mp:Int→List Int) (k:Nat) {c:Int} (h:mp c=[]):Md.lv mp k c=some [c]:=by
 cases k with
 | zero=>unfold Md.lv;rw[if_pos h]
 | succ k=>unfold Md.lv;rw[if_pos h]
theorem zQ1 (mp:Int→List Int) (k:Nat) (c:Int):Md.lv mp (k+1) c=zAp (Md.lv mp k) (Md.one mp c):=by
 unfold Md.one
 by_cases h:mp c=[]
 · rw[Zm h,zBr mp _ h,zAp,zBr mp _ h];rfl
 rw[Zk h,Md.lv,Zk h]
theorem zIl (mp:Int→List Int) (k:Nat):∀(L:List Int),zAp (Md.lv mp (k+1)) L=zAp (Md.lv mp k) (Md.step mp L)
 | []=>rfl
 | d::r=>by
   have e:Md.step mp (d::r)=Md.one mp d++Md.step mp r:=by simp[Md.step]
   rw[e,zJI,zAp,zIl mp k r,zQ1]
theorem zEz (mp:Int→List Int) (k:Nat):∀(L:List Int),Md.plain mp L=true→zAp (Md.lv mp k) L=some L
 | [],_=>rfl
 | d::r,h=>by
   unfold Md.plain at h;rw[List.all_cons,Zw,List.isEmpty_iff]at h;rw[zAp,zBr mp k h.1,zEz mp k r (by unfold Md.plain;exact h.2)];rfl
theorem zIm (mp:Int→List Int):∀(L:List Int),Md.plain mp L≠true→zAp (Md.lv mp 0) L=none
 | [],h=>absurd rfl h
 | d::r,h=>by
   rw[zAp]
   by_cases hd:mp d=[]
   · have:Md.plain mp r≠true:=fun hr=>h (by unfold Md.plain at hr ⊢;rw[List.all_cons,hr,hd];rfl)
     rw[zIm mp r this];cases Md.lv mp 0 d <;> rfl
   rw[Md.lv,Zk hd];rfl
theorem zLG (mp:Int→List Int):∀(k:Nat) (L:List Int),L.length≤32→zDX mp (k+1) L=(zAp (Md.lv mp k) L).bind (Md.fit [])
 | 0,L,hL=>by
   rw[zDX]
   by_cases h:Md.plain mp L=true
   · rw[Zm h,zEz mp 0 L h,ZC];unfold Md.fit;simp[hL]
   rw[Zk h,zIm mp L h];split <;> rfl
 | k+1,L,hL=>by
   rw[zDX]
   by_cases h:Md.plain mp L=true
   · rw[Zm h,zEz mp _ L h,ZC];unfold Md.fit;simp[hL]
   rw[Zk h,zIl]
   by_cases h2:(Md.step mp L).length > 32
   · rw[Zm h2];cases hl:zAp (Md.lv mp k) (Md.step mp L) with
     | none=>rfl
     | some l =>
       have:=zF7 (zGg mp k) _ _ hl;rw[ZC];unfold Md.fit;rw[Zk (by simp;omega)]
   rw[Zk h2,zLG mp k _ (by omega)]
theorem zOR (mp:Int→List Int) (k:Nat) (c:Int):zDX mp (k+1) [c]=zBR mp k [] c:=by
 rw[zLG mp k [c] (by simp),zBx mp k [] c (by simp),zAp];cases Md.lv mp k c with
 | none=>rfl
 | some a=>simp[zAp]
theorem zIn {mp:Int→List Int} {f:Int→Option (List Int)} (hf:∀c l,f c=some l→∀d∈l,mp d=[]):∀(L l:List Int),zAp f L=some l→∀d∈l,mp d=[]
 | [],l,h,d,hd=>by cases h;cases hd
 | e::r,l,h,d,hd=>by
   unfold zAp at h;cases he:f e with
   | none=>rw[he]at h;cases h
   | some a =>
     rw[he,ZC]at h;cases hr:zAp f r with
     | none=>rw[hr]at h;cases h
     | some b =>
       rw[hr,Zz]at h;cases h
       rcases List.mem_append.1 hd with h1|h1
       · exact hf e a he d h1
       exact zIn hf r b hr d h1
theorem zJJ (mp:Int→List Int):∀(k:Nat) (c:Int) (l:List Int),Md.lv mp k c=some l→∀d∈l,mp d=[]
 | 0,c,l,h,d,hd=>by
   unfold Md.lv at h;split at h
   · rename_i hc;cases h
     rw[Zt]at hd;rw[hd];exact hc
   cases h
 | k+1,c,l,h,d,hd=>by
   unfold Md.lv at h;split at h
   · rename_i hc;cases h
     rw[Zt]at hd;rw[hd];exact hc
   exact zIn (zJJ mp k) _ _ h d hd
theorem zMZ {mp:Int→List Int} {k:Nat} {c:Int} {l:List Int} (h:zBR mp k [] c=some l):(∀d∈l,mp d=[])∧1≤l.length∧(mp c).length≤l.length∧l.length≤32:=by
 rw[zBx mp k [] c (by simp)]at h;cases hl:Md.lv mp k c with
 | none=>rw[hl]at h;cases h
 | some a =>
   rw[hl,ZC]at h;unfold Md.fit at h;split at h
   · rename_i hle;cases h
     rw[ZK];refine⟨zJJ mp k c a hl,zGg mp k c a hl,?_,by simpa using hle⟩
     by_cases hc:mp c=[]
     · rw[hc];exact ZF _
     exact zOQ mp k hl hc
   cases h
theorem zEA {mp:Int→List Int} (k:Nat) {c:Int} (h:mp c=[]):zBR mp k [] c=some [c]:=by
 rw[zBx mp k [] c (by simp),zBr mp k h];rfl
def C.srt (l:List Int):Prop:=l.Pairwise (· < ·)
def C.mem:List Int→Int→Bool
 | [],_=>false
 | x::l,c=>decide (x≤c)&&!C.mem l c
theorem C.mem_cons (x:Int) (l:List Int) (c:Int):C.mem (x::l) c=(decide (x≤c)&&!C.mem l c):=rfl
theorem zQ2 {l:List Int} {c:Int} (h:∀y∈l,c<y):C.mem l c=false:=by
 cases l with
 | nil=>rfl
 | cons x l=>rw[C.mem_cons,Zq (by have:=h x (by simp);omega)];rfl
theorem zAD {x:Int} {l:List Int} (h:C.srt (x::l)):C.srt l:=(List.pairwise_cons.1 h).2
theorem zBz {x:Int} {l:List Int} (h:C.srt (x::l)):∀y∈l,x<y:=(List.pairwise_cons.1 h).1
theorem zBh {x:Int} {l:List Int} (h:C.srt (x::l)) {c:Int} (hc:c≤x):C.mem l c=false :=
 zQ2 fun y hy=>by have:=zBz h y hy;omega
theorem zQ3:∀(l l':List Int),C.srt l→C.srt l'→(∀c,C.mem l c=C.mem l' c)→l=l'
 | [],[],_,_,_=>rfl
 | [],x::l',_,h',h=>by
   have:=h x;rw[C.mem_cons,zBh h' (YE _)]at this;simp[C.mem]at this
 | x::l,[],h1,_,h=>by
   have:=h x;rw[C.mem_cons,zBh h1 (YE _)]at this;simp[C.mem]at this
 | x::l,y::l',h1,h2,h=>by
   have hx:=h x;have hy:=h y;rw[C.mem_cons,C.mem_cons,zBh h1 (YE _)]at hx;rw[C.mem_cons,C.mem_cons,zBh h2 (YE _)]at hy
   have e:x=y:=by
    rcases JV x y with aa|he|hgt
    · rw[Zq (show ¬y≤x by omega)]at hx;simp at hx
    · exact he
    rw[Zq (show ¬x≤y by omega)]at hy;simp at hy
   subst e;rw[zQ3 l l' (zAD h1) (zAD h2)];intro c
   by_cases hc:x≤c
   · have:=h c;rw[C.mem_cons,C.mem_cons,Zp hc]at this;simpa using this
   rw[zBh h1 (by omega),zBh h2 (by omega)]
def C.ok (l:List Int):Prop:=C.srt l∧(∀x∈l,0≤x∧x≤1114112)∧l.length%2=0
def zAI:List Int→List (Int × Int)
 | x::y::t=>(x,y-1)::zAI t
 | _=>[]
def C.count:List Int→Int
 | x::y::t=>y-x+C.count t
 | _=>0
def C.idx:List Int→Int→Int
 | x::y::t,c=>(if x<c then min c y-x else 0)+C.idx t c
 | _,_=>0
def zSy:List Int→Int→Int × Bool
 | x::y::t,i=>if i<y-x then (x+i,true) else zSy t (i-(y-x))
 | _,_=>(0,false)
def zOS (p:Int→Bool):Nat→Nat
 | 0=>0
 | n+1=>zOS p n+(if p n then 1 else 0)
theorem zJK (p:Int→Bool) (n:Nat):zOS p (n+1)=zOS p n+(if p n then 1 else 0):=rfl
theorem zJL:∀(l:List Int),C.srt l→l.length%2=0→∀c:Int,C.idx l (c+1)=C.idx l c+(if C.mem l c then 1 else 0)
 | [],_,_,_=>rfl
 | [x],_,h,_=>by simp at h
 | x::y::t,hs,hl,c=>by
   have ht:=zAD (zAD hs);have aa:=zBz hs y (by simp);have ih:=zJL t ht (by simp at hl;omega) c;show (if x<c+1 then min (c+1) y-x else 0)+C.idx t (c+1)=(if x<c then min c y-x else 0)+C.idx t c+_;rw[ih,C.mem_cons,C.mem_cons]
   by_cases h1:x≤c
   rotate_left
   · have hm:C.mem t c=false:=zBh (zAD hs) (by omega);rw[Zq h1,hm,Zk (show ¬x<c+1 by omega),Zk (show ¬x<c by omega)];simp
   by_cases h2:y≤c
   · rw[Zp h1,Zp h2];rw[Zm (show x<c+1 by omega)]
     by_cases h3:x<c
     · rw[Zm h3];simp only[YY,Bool.not_not];omega
     omega
   have hm:C.mem t c=false:=zBh (zAD hs) (by omega);rw[Zp h1,Zq h2,hm,Zm (show x<c+1 by omega)]
   by_cases h3:x<c
   · rw[Zm h3];simp;omega
   rw[Zk h3];simp;omega
theorem zLH:∀(l:List Int) (c:Int),(∀x∈l,c≤x)→C.idx l c=0
 | [],_,_=>rfl
 | [x],_,_=>rfl
 | x::y::t,c,h=>by
   show (if x<c then min c y-x else 0)+C.idx t c=0;rw[Zk (by have:=h x (by simp);omega),zLH t c (fun z hz=>h z (by simp[hz]))];rfl
theorem zQ4 {l:List Int} (h:C.ok l) (n:Nat):C.idx l (n:Int)=zOS (C.mem l) n:=by
 induction n with
 | zero=>exact zLH l 0 (fun x hx=>(h.2.1 x hx).1)
 | succ n ih =>
   rw[show ((n+1:Nat):Int)=(n:Int)+1 by omega,zJL l h.1 h.2.2,ih,zJK];split <;> simp
theorem zIo:∀(l:List Int) (c:Int),C.srt l→(∀x∈l,x≤c)→C.idx l c=C.count l
 | [],_,_,_=>rfl
 | [x],_,_,_=>rfl
 | x::y::t,c,hs,h=>by
   have aa:=zBz hs y (by simp);have hy:=h y (by simp);show (if x<c then min c y-x else 0)+C.idx t c=y-x+C.count t;rw[Zm (by omega),zIo t c (zAD (zAD hs)) (fun z hz=>h z (by simp[hz]))];omega
theorem zN0 {l:List Int} (h:C.ok l):C.count l=zOS (C.mem l) 1114112:=by
 rw[←zQ4 h];exact (zIo l _ h.1 (fun x hx=>(h.2.1 x hx).2)).symm
theorem zRb (p:Int→Bool) (n:Nat):zOS p n≤n:=by
 induction n with
 | zero=>exact Za _
 | succ n ih=>rw[zJK];split <;> omega
theorem zJM {l:List Int} (h:C.ok l):0≤C.count l∧C.count l≤1114112:=by
 rw[zN0 h];have:=zRb (C.mem l) 1114112;omega
theorem zGL:∀l:List Int,(zAI l).length=l.length/2
 | []=>rfl
 | [x]=>by simp[zAI]
 | x::y::t=>by
   show (zAI t).length+1=(t.length+1+1)/2;rw[zGL t];omega
theorem zJN:∀(l:List Int) (k:Nat) (hk:2*k+1<l.length),(zAI l)[k]?=some (l[2*k]'(by omega),l[2*k+1]'hk-1)
 | [],k,hk=>by simp at hk
 | [x],k,hk=>by simp at hk
 | x::y::t,0,hk=>rfl
 | x::y::t,k+1,hk=>by
   have:=zJN t k (by simp at hk;omega);show (zAI t)[k]?=_;rw[this];simp only[show 2*(k+1)=2*k+1+1 by omega,show 2*(k+1)+1=(2*k+1)+1+1 by omega,List.getElem_cons_succ]
def C.all:List Int:=[0,55296,57344,1114112]
def C.isC (c:Int):Bool:=decide (0≤c∧c≤1114111∧(c<55296∨57343<c))
abbrev Rw.Row:=Int × Int × List Int
def Md.find (T:List Rw.Row) (c:Int):Option Rw.Row:=T.find? fun r=>decide (r.1=c)
def Md.cls (T:List Rw.Row) (c:Int):Int:=((Md.find T c).map fun r=>r.2.1).getD 0
def zAV (T:List Rw.Row) (c:Int):List Int:=((Md.find T c).map fun r=>r.2.2).getD []
def Md.mp (T:List Rw.Row) (c:Int):List Int:=if (zAh c).2.2=true then [(zAh c).1,(zAh c).2.1] else zAV T c
def Md.full (T:List Rw.Row) (c:Int):Option (List Int):=zBR (Md.mp T) (T.length+3) [] c
def zAc (T:List Rw.Row) (X:Int→Bool) (r:Rw.Row):Bool:=decide (r.2.1=0)&&(decide (r.2.2.length=2)&&(decide (Md.cls T (r.2.2.headD 0)=0)&&!X r.1))
def zAo (T:List Rw.Row) (X:Int→Bool) (c:Int):Bool:=(zAh c).2.2||((Md.find T c).map (zAc T X)).getD false
def zBS (last:Int) (r:Rw.Row):Nat :=
 if (!C.isC r.1||decide (r.1≤last)||decide (r.2.1<0)||decide (254<r.2.1)||decide (2<r.2.2.length))=true then 1
 else if ((r.1::r.2.2).any fun c=>decide (zA2 c≠0))=true then 2
 else if (r.2.2.any fun c=>!C.isC c)=true then 3 else 0
def zAw:Int→List Rw.Row→Nat
 | _,[]=>0
 | last,r::l=>if zBS last r=0 then zAw r.1 l else zBS last r
def zBi (T:List Rw.Row):Bool:=T.any fun r=>(Md.full T r.1).isNone
def zBC (T:List Rw.Row) (X:Int→Bool):List (List Int)→List Rw.Row→Bool
 | _,[]=>false
 | seen,r::l=>if zAc T X r=true then (seen.contains r.2.2||zBC T X (seen++[r.2.2]) l) else zBC T X seen l
def Md.chk (T:List Rw.Row) (X:Int→Bool):Nat :=
 if zAw (-1) T≠0 then zAw (-1) T else if zBi T=true then 4 else if zBC T X [] T=true then 5 else 0
theorem zQ5 (last:Int) (r:Rw.Row):zBS last r≤3:=by
 unfold zBS
 repeat' split
 all_goals omega
def Md.good (r:Rw.Row):Prop:=C.isC r.1=true∧0≤r.2.1∧r.2.1≤254∧r.2.2.length≤2∧zA2 r.1=0∧∀c∈r.2.2,C.isC c=true∧zA2 c=0
theorem zN1 {last:Int} {r:Rw.Row} (h:zBS last r=0):Md.good r∧last<r.1:=by
 unfold zBS at h;split at h
 · cases h
 rename_i h1;split at h
 · cases h
 rename_i h2;split at h
 · cases h
 rename_i h3;simp only[X4,Yu,Zn,not_or,JW,Int.not_le,Int.not_lt,Nat.not_lt]at h1;obtain⟨⟨⟨⟨a1,a2⟩,a3⟩,a4⟩,a5⟩:=h1;simp only[YJ,Zn,not_exists,not_and,Decidable.not_not]at h2;simp only[YJ,Yu,not_exists,not_and,JW]at h3;exact⟨⟨a1,a3,a4,a5,h2 r.1 Zu,fun c hc=>⟨h3 c hc,h2 c (Zy _ hc)⟩⟩,a2⟩
def Md.rises (T:List Rw.Row):Prop:=T.Pairwise fun r q=>r.1<q.1
theorem zC7:∀(l:List Rw.Row) (last:Int),zAw last l=0→(∀r∈l,Md.good r∧last<r.1)∧Md.rises l
 | [],_,_=>⟨fun r hr=>absurd hr Z7,List.Pairwise.nil⟩
 | r::l,last,h=>by
   unfold zAw at h
   by_cases hb:zBS last r=0
   · rw[Zm hb]at h;obtain⟨h1,h2⟩:=zN1 hb;obtain⟨h3,h4⟩:=zC7 l r.1 h;refine⟨fun q hq=>?_,List.Pairwise.cons (fun q hq=>(h3 q hq).2) h4⟩;rcases List.mem_cons.1 hq with rfl|hq
     · exact⟨h1,h2⟩
     exact⟨(h3 q hq).1,by have:=(h3 q hq).2;omega⟩
   rw[Zk hb]at h;exact absurd h hb
theorem zDc {T:List Rw.Row} (h:Md.rises T) {i j:Nat} {r q:Rw.Row} (hi:T[i]?=some r) (hj:T[j]?=some q) (hij:i<j):r.1<q.1:=by
 obtain⟨a1,rfl⟩:=List.getElem?_eq_some_iff.1 hi;obtain⟨a2,rfl⟩:=List.getElem?_eq_some_iff.1 hj;exact List.pairwise_iff_getElem.1 h i j a1 a2 hij
theorem zBG {T:List Rw.Row} (h:Md.rises T) {r:Rw.Row} (hr:r∈T):Md.find T r.1=some r:=by
 induction T with
 | nil=>cases hr
 | cons q l ih =>
   unfold Md.rises at h;rw[Xy]at h;unfold Md.find;rw[Jd];rcases List.mem_cons.1 hr with rfl|hr
   · simp
   rw[Zq (by have:=h.1 r hr;omega)];exact ih h.2 hr
theorem zOT {T:List Rw.Row} (h:Md.rises T) {i:Nat} {r:Rw.Row} (hi:T[i]?=some r):Md.find T r.1=some r:=zBG h (Zj hi)
theorem zDd {T:List Rw.Row} {c:Int} (h:∀r∈T,r.1≠c):Md.find T c=none:=by
 unfold Md.find;rw[JK];intro r hr;simpa using h r hr
theorem zAq {T:List Rw.Row} {c:Int} {r:Rw.Row} (h:Md.find T c=some r):r∈T∧r.1=c:=by
 unfold Md.find at h;exact⟨List.mem_of_find?_eq_some h,by simpa using List.find?_some h⟩
theorem zN2 {T:List Rw.Row} (h:Md.rises T) (c:Int) (i:Nat) (h1:∀t r,t<i→T[t]?=some r→r.1<c) (h2:∀t r,i≤t→T[t]?=some r→c≤r.1) :
 Md.find T c=(T[i]?).bind fun r=>if r.1=c then some r else none:=by
 cases hi:T[i]? with
 | none =>
   refine zDd fun r hr=>?_
   obtain⟨t,ht⟩:=List.mem_iff_getElem?.1 hr;have hlen:=List.getElem?_eq_none_iff.1 hi;obtain⟨a1,_⟩:=List.getElem?_eq_some_iff.1 ht;have:=h1 t r (by omega) ht;omega
 | some r =>
   rw[ZC]
   by_cases hc:r.1=c
   · rw[Zm hc,←hc,zOT h hi]
   rw[Zk hc];refine zDd fun q hq=>?_
   obtain⟨t,ht⟩:=List.mem_iff_getElem?.1 hq;have:=h2 i r (Za _) hi
   by_cases a:t<i
   · have:=h1 t q a ht;omega
   by_cases b:t=i
   · subst b;rw[hi]at ht;cases ht;exact hc
   have:=zDc h hi ht (by omega);omega
theorem zN3 (c:Int):0≤(zAh c).1∧(zAh c).1≤60000∧0≤(zAh c).2.1∧(zAh c).2.1≤60000:=by
 have key:zA2 c=4∨zA2 c=5→44032≤c∧c<55204:=by
  unfold zA2;grind
 unfold zAh;split
 · rename_i h;have:=key (.inl h);simp only;omega
 split
 · rename_i h;have:=key (.inr h);simp only;omega
 simp
def Md.bd (T:List Rw.Row):Prop:=∀r∈T,(-2147483648≤r.1∧r.1≤2147483647)∧∀c∈r.2.2,-2147483648≤c∧c≤2147483647
theorem zI2 {T:List Rw.Row} (h:Md.bd T) (c:Int):∀d∈Md.mp T c,-2147483648≤d∧d≤2147483647:=by
 intro d hd;unfold Md.mp at hd;split at hd
 · have:=zN3 c;simp only[Xe,Z7,QT]at hd;rcases hd with rfl|rfl <;> omega
 unfold zAV at hd;cases hf:Md.find T c with
 | none=>rw[hf]at hd;cases hd
 | some r =>
   rw[hf]at hd;exact (h r (zAq hf).1).2 d hd
theorem zGh {c:Int} (h:zA2 c=0):(zAh c).2.2=false:=by
 unfold zAh;rw[Zk (by omega),Zk (by omega)]
theorem zCU {T:List Rw.Row} {X:Int→Bool} (hr:Md.rises T) {r:Rw.Row} (hm:r∈T) (hg:Md.good r):zAo T X r.1=zAc T X r:=by
 unfold zAo;rw[zGh hg.2.2.2.2.1,zBG hr hm,Y5];rfl
theorem zQ6 {T:List Rw.Row} (hr:Md.rises T) {r:Rw.Row} (hm:r∈T) (hg:Md.good r):Md.mp T r.1=r.2.2:=by
 unfold Md.mp zAV;rw[zGh hg.2.2.2.2.1,Zk (by simp),zBG hr hm];rfl
theorem zOU {T:List Rw.Row} (hr:Md.rises T) {r:Rw.Row} (hm:r∈T):Md.cls T r.1=r.2.1:=by
 unfold Md.cls;rw[zBG hr hm];rfl
def Md.ahead (T:List Rw.Row) (X:Int→Bool) (pre:List Rw.Row) (r:Rw.Row):Bool:=pre.any fun q=>zAc T X r&&(zAc T X q&&decide (q.2.2=r.2.2))
def zB4 (T:List Rw.Row) (X:Int→Bool):List Rw.Row→List Rw.Row→Bool
 | _,[]=>false
 | pre,r::l=>Md.ahead T X pre r||zB4 T X (pre++[r]) l
theorem zGM {α β:Type} [BEq β] [LawfulBEq β] (p:α→Bool) (f:α→β) (y:β):∀(l:List α),((l.filter p).map f).contains y=l.any fun q=>p q&&(f q == y)
 | []=>rfl
 | q::l=>by
   rw[Yt,Kn]
   by_cases h:p q=true
   · rw[Zm h,ZV,List.contains_cons,zGM p f y l,h,YY];congr 1;exact Bool.eq_iff_iff.2 ⟨fun e=>by simp at e;simp[e],fun e=>by simp at e;simp[e]⟩
   rw[Zk h,zGM p f y l];simp[h]
theorem zDe (T:List Rw.Row) (X:Int→Bool):∀(l pre:List Rw.Row),zBC T X ((pre.filter (zAc T X)).map fun r=>r.2.2) l=zB4 T X pre l
 | [],_=>rfl
 | r::l,pre=>by
   rw[zBC,zB4]
   by_cases hc:zAc T X r=true
   · have e:((pre.filter (zAc T X)).map fun r=>r.2.2)++[r.2.2]=(((pre++[r]).filter (zAc T X)).map fun r=>r.2.2):=by
      rw[Yk,ZL,Yt,Zm hc];rfl
     rw[Zm hc,e,zDe T X l (pre++[r]),zGM];congr 1;unfold Md.ahead;congr 1;funext q
     rw[hc,YY];congr 1;exact Bool.eq_iff_iff.2 (by simp)
   have e:((pre.filter (zAc T X)).map fun r=>r.2.2)=(((pre++[r]).filter (zAc T X)).map fun r=>r.2.2):=by
    rw[Yk,Yt,Zk hc];simp
   rw[Zk hc,e,zDe T X l (pre++[r])]
   have:Md.ahead T X pre r=false:=by
    unfold Md.ahead;rw[XJ];intro q _;simp[hc]
   rw[this,Y5]
theorem zDY {T:List Rw.Row} {X:Int→Bool} (h:Md.chk T X=0):(∀r∈T,Md.good r)∧Md.rises T∧(∀r∈T,∃l,Md.full T r.1=some l)∧zBC T X [] T=false:=by
 unfold Md.chk at h
 by_cases h1:zAw (-1) T=0
 rotate_left
 · rw[Zm h1]at h;exact absurd h h1
 rw[Zk (by simp[h1])]at h;obtain⟨g1,g2⟩:=zC7 T (-1) h1;cases h2:zBi T with
 | true=>rw[Zm h2]at h;cases h
 | false =>
   rw[Zk (by simp[h2])]at h;refine⟨fun r hr=>(g1 r hr).1,g2,fun r hr=>?_,?_⟩
   · unfold zBi at h2;have:=List.any_eq_false.1 h2 r hr;cases hf:Md.full T r.1 with
     | none=>simp[hf]at this
     | some l=>exact⟨l,rfl⟩
   cases h3:zBC T X [] T with
   | true=>rw[Zm h3]at h;cases h
   | false=>rfl
theorem zN4 {T:List Rw.Row} (h:∀r∈T,Md.good r) {x:Int} (hx:zA2 x≠0):zAV T x=[]:=by
 unfold zAV;rw[zDd fun r hr he=>hx (by rw[←he];exact (h r hr).2.2.2.2.1)];rfl
theorem zBA {T:List Rw.Row} (h:∀r∈T,Md.good r) {x:Int} (hx:zA2 x=1∨zA2 x=2∨zA2 x=3):Md.mp T x=[]:=by
 unfold Md.mp;rw[zBM x (by omega) (by omega)];simp only[ZM,Ye];exact zN4 h (by omega)
theorem zGi (mp:Int→List Int) (k:Nat) {c x y:Int} (hc:mp c=[x,y]) (hx:mp x=[]) (hy:mp y=[]):Md.lv mp (k+1) c=some [x,y]:=by
 unfold Md.lv;rw[Zk (by rw[hc];simp),hc];simp[zAp,zBr mp k hx,zBr mp k hy]
theorem zDf {T:List Rw.Row} {X:Int→Bool} (h:Md.chk T X=0) (a:Int):∃l,Md.full T a=some l:=by
 obtain⟨hg,hr,hf,_⟩:=zDY h;cases hfa:Md.find T a with
 | some r =>
   obtain⟨h1,h2⟩:=zAq hfa;rw[←h2];exact hf r h1
 | none =>
   have ae:zAV T a=[]:=by unfold zAV;rw[hfa];rfl
   unfold Md.full
   by_cases h4:zA2 a=4
   · have hs:=zAt a (.inl h4)
     have hm:Md.mp T a=[4352+(a-44032)/588,4449+(a-44032)%588/28]:=by
      unfold Md.mp;rw[zAO a h4];simp
     have hl:zA2 (4352+(a-44032)/588)=1:=by unfold zA2;grind
     have hv:zA2 (4449+(a-44032)%588/28)=2:=by unfold zA2;grind
     rw[zBx _ _ _ _ (by simp),show T.length+3=(T.length+2)+1 from rfl,zGi _ _ hm (zBA hg (by omega)) (zBA hg (by omega))];exact⟨_,rfl⟩
   by_cases h5:zA2 a=5
   rotate_left
   · have hm:Md.mp T a=[]:=by
      unfold Md.mp;rw[zBM a h4 h5];simpa using ae
     exact⟨_,zEA _ hm⟩
   have hs:=zAt a (.inr h5)
   have hm:Md.mp T a=[a-(a-44032)%28,4519+(a-44032)%28]:=by
    unfold Md.mp;rw[zAW a h5];simp
   have aa:Md.mp T (a-(a-44032)%28)=[4352+(a-44032)/588,4449+(a-44032)%588/28]:=by
    unfold Md.mp;rw[zIj a hs.1 hs.2];simp
   have af:(a-44032)%28≠0:=fun e=>by rw[zCT a hs.1 hs.2 e]at h5;omega
   have hl:zA2 (4352+(a-44032)/588)=1:=by unfold zA2;grind
   have hv:zA2 (4449+(a-44032)%588/28)=2:=by unfold zA2;grind
   have ht:zA2 (4519+(a-44032)%28)=3:=by unfold zA2;grind
   rw[zBx _ _ _ _ (by simp),show T.length+3=(T.length+2)+1 from rfl]
   have e1:Md.lv (Md.mp T) (T.length+2+1) a=some [4352+(a-44032)/588,4449+(a-44032)%588/28,4519+(a-44032)%28]:=by
    unfold Md.lv;rw[Zk (by rw[hm];simp),hm];simp[zAp,zBr _ (T.length+2) (zBA hg (.inr (.inr ht))),show T.length+2=(T.length+1)+1 from rfl,zGi _ (T.length+1) aa (zBA hg (.inl hl)) (zBA hg (.inr (.inl hv)))]
   rw[e1];exact⟨_,rfl⟩
theorem zCq {T:List Rw.Row} {a:Int} {l:List Int} (h:Md.full T a=some l):(∀y∈l,Md.mp T y=[]∧Md.full T y=some [y])∧1≤l.length∧l.length≤32∧(3<zA2 a→2≤l.length):=by
 obtain⟨h1,h2,h3,h4⟩:=zMZ h;refine⟨fun y hy=>⟨h1 y hy,zEA _ (h1 y hy)⟩,h2,h4,fun hk=>?_⟩
 have hm:(Md.mp T a).length=2:=by
  unfold Md.mp
  by_cases h4:zA2 a=4
  · rw[zAO a h4];simp
  have h5:zA2 a=5:=by unfold zA2 at hk h4 ⊢;grind
  rw[zAW a h5];simp
 omega
theorem zJO {Q:Int→Prop} {f:Int→Option (List Int)} (hf:∀c l,f c=some l→Q c→∀d∈l,Q d):∀(L l:List Int),zAp f L=some l→(∀c∈L,Q c)→∀d∈l,Q d
 | [],l,h,_,d,hd=>by
   simp only[zAp,Zg]at h;subst h;cases hd
 | e::r,l,h,hL,d,hd=>by
   simp only[zAp]at h;cases he:f e with
   | none=>rw[he]at h;cases h
   | some a =>
     rw[he,ZC]at h;cases hr:zAp f r with
     | none=>rw[hr]at h;cases h
     | some b =>
       rw[hr,Zz]at h;cases h
       rcases List.mem_append.1 hd with h1|h1
       · exact hf e a he (hL e Zu) d h1
       exact zJO hf r b hr (fun c hc=>hL c (Zy _ hc)) d h1
theorem zIp {Q:Int→Prop} {mp:Int→List Int} (hm:∀c,∀d∈mp c,Q d):∀(k:Nat) (c:Int) (l:List Int),Md.lv mp k c=some l→Q c→∀d∈l,Q d
 | 0,c,l,h,hc,d,hd=>by
   unfold Md.lv at h;split at h
   · cases h
     rw[Zt]at hd;rw[hd];exact hc
   cases h
 | k+1,c,l,h,hc,d,hd=>by
   unfold Md.lv at h;split at h
   · cases h
     rw[Zt]at hd;rw[hd];exact hc
   exact zJO (zIp hm k) _ _ h (hm c) d hd
theorem zOV {T:List Rw.Row} (hT:Md.bd T) {a:Int} (ha : -2147483648≤a∧a≤2147483647) {l:List Int} (h:Md.full T a=some l):∀y∈l,-2147483648≤y∧y≤2147483647:=by
 unfold Md.full at h;rw[zBx _ _ _ _ (by simp)]at h;cases hl:Md.lv (Md.mp T) (T.length+3) a with
 | none=>rw[hl]at h;cases h
 | some b =>
   rw[hl,ZC]at h;unfold Md.fit at h;split at h
   · cases h
     rw[ZK];exact zIp (zI2 hT) _ a b hl ha
   cases h
section
open Go.RowKit
theorem zOW (w:World) (u:Value) (e:TypeId) (g:Nat) (hg:w.heap.size=g):(w.alloc (.cells #[u] e)).drew.cell? ⟨g,0,none⟩=some u:=by
 subst hg;show (w.alloc (.cells #[u] e)).cell? ⟨w.heap.size,0,none⟩=some u;have h:(w.alloc (.cells #[u] e)).heap[w.heap.size]?=some (.cells #[u] e (0,0)):=ZT _ _;simp only[World.cell?,h];rfl
theorem zDZ (w:World) (o:Obj):(w.alloc o).heap.size=w.heap.size+1:=by simp
section
variable {P:Program}
theorem zKC {o:Oper} {a:Act} {K:Act→World→Prop} {Q:Exit→Act→World→Prop} (w:World) (s x:Operand) (t:TypeId)
 (ho:o.op=.call { callee:=.builtin .append,args := #[s,x],argTypes := #[t,t] })
 (base:Nat) (e:TypeId) (i:TypeInfo) (z:Value) (bytes:Nat) (ht:P.underlying t=some (.slice e)) (hi:P.info? e=some i) (hz:i.zero=some z)
 (ag:i.size=1) (ah:i.bytes=bytes) (ai:z.cells.size=1)
 (v:Value) (n:Nat) (xs:List Value) (hs:a.eval s=v) (af:w.ownsRow base e 1 v n xs)
 (u:Value) (h1:u.oneCell'=true) (g:Nat) (hx:a.eval x=.slice (some ⟨g,0,none⟩) 1 1) (hcell:w.cell? ⟨g,0,none⟩=some u)
 (aj:n+1≤maxLen) (ae:(n+1)*bytes≤140737488355328) (aa:base≤w.heap.size)
 (h:∀v' w',w'.ownsRow base e 1 v' (n+1) (xs++[u])→Below base w w'→w.grownBy w' v.ownBlock→K (a.put o.dst v') w') :
 o.wp P a w K Q:=by
 refine wp_append_own (P:=P) w s x t ho base e i z 1 bytes ht hi hz ag ah ai (by omega) v n xs hs af ⟨g,0,none⟩ 1 1 [u] hx rfl ?_ ?_ aj ae aa ?_
 · intro j q hq;rcases j with _|j
   · simp only[Y4,Zg]at hq;subst hq;simpa [Addr.add] using hcell
   simp at hq
 · intro q hq;simp only[Zt]at hq;subst hq;exact h1
 intro v' w' h2 h3 _;refine h v' w' h2 ?_ h3;refine (Zc _ _).grown h3 aa ?_;intro k hk;exact (af.lt k hk).1
theorem zCF {ops:Array Oper} {o:Oper} {a:Act} {K:Act→World→Prop} {Q:Exit→Act→World→Prop} {E:Prop} (w:World) (ak:o.guard=none) (s x:Operand) (t:TypeId)
 (ho:o.op=.call { callee:=.builtin .append,args := #[s,x],argTypes := #[t,t] })
 (base:Nat) (e:TypeId) (i:TypeInfo) (z:Value) (bytes:Nat) (ht:P.underlying t=some (.slice e)) (hi:P.info? e=some i) (hz:i.zero=some z)
 (ae:i.size=1) (ah:i.bytes=bytes) (ai:z.cells.size=1)
 (v:Value) (n:Nat) (xs:List Value) (hs:a.eval s=v) (ag:w.ownsRow base e 1 v n xs)
 (u:Value) (h1:u.oneCell'=true) (g:Nat) (hx:a.eval x=.slice (some ⟨g,0,none⟩) 1 1) (hcell:w.cell? ⟨g,0,none⟩=some u)
 (aj:n+1≤maxLen) (aa:(n+1)*bytes≤140737488355328) (af:base≤w.heap.size)
 (h:∀v' w',w'.ownsRow base e 1 v' (n+1) (xs++[u])→Below base w w'→w.grownBy w' v.ownBlock→K (a.put o.dst v') w') :
 if Region.wanted o (yielded ops a.tmps)=true then Oper.wp P o a w K Q else E:=by
 have hw:Region.wanted o (yielded ops a.tmps)=true:=by simp[Region.wanted,ak]
 rw[Zm hw];exact zKC w s x t ho base e i z bytes ht hi hz ae ah ai v n xs hs ag u h1 g hx hcell aj aa af h
end
def IsRow (k:IntKind) (w:World) (a:Option Addr) (len cap:Nat) (zs:List Int):Prop :=
 (a=none∧len=0∧cap=0∧zs=[]) ∨
 ∃x,a=some x∧len≤cap∧cap≤maxLen∧zs.length=cap∧(∀i,i<zs.length→w.cell? (x.add i)=some (.int k (zs.getD i 0)))∧∀n∈zs,(Lit.int k n).wf=true
theorem IsRow.len_le {k:IntKind} {w:World} {a:Option Addr} {len cap:Nat} {zs:List Int} (h:IsRow k w a len cap zs):len≤cap∧cap≤maxLen∧zs.length=cap:=by
 rcases h with ⟨rfl,rfl,rfl,rfl⟩|⟨x,rfl,h1,h2,h3,_⟩
 · exact⟨Za _,by decide,rfl⟩
 exact⟨h1,h2,h3⟩
theorem IsRow.wf {k:IntKind} {w:World} {a:Option Addr} {len cap:Nat} {zs:List Int} (h:IsRow k w a len cap zs):∀n∈zs,(Lit.int k n).wf=true:=by
 rcases h with ⟨rfl,rfl,rfl,rfl⟩|⟨x,rfl,h1,h2,h3,h4,h5⟩
 · simp
 exact h5
theorem IsRow.sl {k:IntKind} {w:World} {a:Option Addr} {len cap:Nat} {zs:List Int} (h:IsRow k w a len cap zs) (m:Nat) (hm:m≤len):Sl w w.heap.size a ((zs.take m).map (Value.int k)):=by
 rcases h with ⟨rfl,rfl,rfl,rfl⟩|⟨x,rfl,h1,h2,h3,h4,h5⟩
 · simpa using Sl.nil w w.heap.size none
 intro hx;rw[Ze,Zr]at hx;obtain⟨b,off,spot⟩:=x;have af:=h4 0 (by omega);have ae:spot=none:=by simpa [Addr.add] using World.cell?_spot af
 subst ae
 have aa:∀i,(⟨b,off,none⟩:Addr).add i=⟨b,off+i,none⟩:=by
  intro i;unfold Addr.add;split <;> simp_all
 refine⟨b,off,rfl,?_,?_⟩
 · rw[aa]at af;exact YO w _ af
 intro i hi;rw[Ze,Zr]at hi;rw[←aa,h4 i (by omega),Zo,Yp,Zm (by omega),Zb (by omega)];simp[List.getD,show i<zs.length by omega]
end
end Go.Proofs.YtjakbblocbicjaaGreatDoor
