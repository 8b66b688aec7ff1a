/- The layer hangul: what each function answers, by walking its text. -/
import Derived.Test.YtddbccflcekdpaaGreatDoorNcJoin2
import Derived.BigQuiet
import Derived.Deep.RegionHeld3
import Derived.Deep.AppendLies
set_option maxHeartbeats 1000000
set_option linter.unusedVariables false
set_option linter.unusedSimpArgs false
namespace Go.Proofs.YtddbccflcekdpaaGreatDoor
open Go.Proofs.Tryz
section
open Go.RowKit
theorem Hg.in_any (c a n:Int) (w:World) (h1:0≤a) (h2:0≤n) (h3:a+n≤100000) :
 Calls prog 82 #[.int .i32 c,.int .i32 a,.int .i32 n] w fun e w'=>e=.returned (.bool (decide (a≤c∧c<a+n)))∧w=w':=by
 go_enter func82,ntmps82;go_wp2
 all_goals
  go_ret;exact⟨zBb (by simp;try omega),rfl⟩
def zA3 (c:Int):Int :=
 if 4352≤c∧c<4371 then 1 else if 4449≤c∧c<4470 then 2 else if 4520≤c∧c<4547 then 3
 else if ¬(44032≤c∧c<55204) then 0 else if (c-44032)%28=0 then 4 else 5
theorem Hg.of_any (c:Int) (w:World) (h1 : -2147483648≤c) (h2:c≤2147483647) :
 Calls prog 55 #[.int .i32 c] w fun e w'=>e=.returned (.int .i64 (zA3 c))∧w=w':=by
 go_enter func55,ntmps55;go_wp2
 all_goals
  go_ret;refine⟨zBO ?_,rfl⟩
  try simp only[YP,Xr,Yv,JR,Zp,Z0]at *
  unfold zA3;grind
def zAh (c:Int):Int × Int × Bool :=
 if zA3 c=4 then (4352+(c-44032)/588,4449+(c-44032)%588/28,true)
 else if zA3 c=5 then (c-(c-44032)%28,4519+(c-44032)%28,true)
 else (0,0,false)
theorem zAv (c:Int) (h:zA3 c=4∨zA3 c=5):44032≤c∧c<55204:=by
 unfold zA3 at h;grind
theorem zBZ (c:Int) (w:World) (h1 : -2147483648≤c) (h2:c≤2147483647) :
 Calls prog 111 #[.int .i32 c] w fun e w'=>e=.returned (.tuple #[.int .i32 (zAh c).1,.int .i32 (zAh c).2.1,.bool (zAh c).2.2])∧w=w':=by
 by_cases h4:zA3 c=4
 · have hs:=zAv c (.inl h4);obtain⟨ae,aa⟩:=hs;have hb:=beq_iff_eq.2 h4;have H4:=hy' h4;clear h4;go_enter func111,ntmps111;go_wp2_with (go_at_call 55;refine (Hg.of_any _ _ h1 h2).mono ?_;rintro e w' ⟨rfl,rfl⟩);go_ret3;refine⟨zGL ?_,rfl⟩;unfold zAh;rw[Zo H4.o]
 by_cases h5:zA3 c=5
 · have hs:=zAv c (.inr h5);obtain⟨ae,aa⟩:=hs;have hb:(zA3 c == 4)=false:=by rw[h5];rfl
   have af:=beq_iff_eq.2 h5;have H5:=hy' h5;have H4:=hy' h4;clear h4 h5;go_enter func111,ntmps111;go_wp2_with (go_at_call 55;refine (Hg.of_any _ _ h1 h2).mono ?_;rintro e w' ⟨rfl,rfl⟩);go_ret3;refine⟨zGL ?_,rfl⟩;unfold zAh;rw[Zl H4.o,Zo H5.o]
 have hb:(zA3 c == 4)=false:=beq_eq_false_iff_ne.2 h4;have af:(zA3 c == 5)=false:=beq_eq_false_iff_ne.2 h5;have H5:=hy' h5;have H4:=hy' h4;clear h4 h5;go_enter func111,ntmps111;go_wp2_with (go_at_call 55;refine (Hg.of_any _ _ h1 h2).mono ?_;rintro e w' ⟨rfl,rfl⟩);go_ret3;refine⟨zGL ?_,rfl⟩;unfold zAh;rw[Zl H4.o,Zl H5.o]
def zA9 (c:Int):List Int :=
 if zA3 c=4 then [4352+(c-44032)/588,4449+(c-44032)%588/28]
 else if zA3 c=5 then [4352+(c-44032)/588,4449+(c-44032)%588/28,4519+(c-44032)%28]
 else []
theorem zD4 (c:Int) (h1:44032≤c) (h2:c<55204) (h:(c-44032)%28=0):zA3 c=4:=by
 unfold zA3;grind
theorem zAT (c:Int) (h:zA3 c=4):zAh c=(4352+(c-44032)/588,4449+(c-44032)%588/28,true):=by
 unfold zAh;rw[if_pos h]
theorem zAY (c:Int) (h:zA3 c=5):zAh c=(c-(c-44032)%28,4519+(c-44032)%28,true):=by
 unfold zAh;rw[if_neg (by rw[h];decide),if_pos h]
theorem zBM (c:Int) (h4:¬zA3 c=4) (h5:¬zA3 c=5):zAh c=(0,0,false):=by
 unfold zAh;rw[if_neg h4,if_neg h5]
theorem zLM (c:Int) (h1:44032≤c) (h2:c<55204):zAh (4352+(c-44032)/588)=(0,0,false):=by
 have a:4352≤4352+(c-44032)/588∧4352+(c-44032)/588<4371:=by omega
 refine zBM _ ?_ ?_ <;> unfold zA3 <;> rw[if_pos a] <;> decide
theorem zIw (c:Int) (h1:44032≤c) (h2:c<55204):zAh (c-(c-44032)%28)=(4352+(c-44032)/588,4449+(c-44032)%588/28,true):=by
 rw[zAT _ (zD4 _ (by omega) (by omega) (by omega))];refine QF ?_ (QF ?_ rfl) <;> simp only[] <;> omega
theorem Hg.split_any (c:Int) (w:World) (h1 : -2147483648≤c) (h2:c≤2147483647) :
 Calls prog 79 #[.int .i32 c] w (RetInts .i32 (zA9 c) w):=by
 by_cases h4:zA3 c=4
 · have hs:=zAv c (.inl h4);obtain⟨ae,aa⟩:=hs;have hp:=zAT c h4;have hq:=zLM c ae aa;have H4:=hy' h4;clear h4;go_enter func79,ntmps79;go_wp2_with (fail);refine (zBZ _ _ h1 h2).mono ?_;rintro e w' ⟨rfl,rfl⟩;rw[hp];clear hp;go_wp2_with (fail);refine (zBZ _ _ (by omega) (by omega)).mono ?_;rintro e w' ⟨rfl,rfl⟩;rw[hq];clear hq;go_wp2;go_ret;unfold zA9;rw[Zo H4.o];exact⟨_,_,rfl,zCj rfl _ _ (ZS _ _),(Zc _ _).alloc (Za _) _⟩
 by_cases h5:zA3 c=5
 · have hs:=zAv c (.inr h5);obtain⟨ae,aa⟩:=hs;have hp:=zAY c h5;have hq:=zIw c ae aa;have H5:=hy' h5;have H4:=hy' h4;clear h4 h5;go_enter func79,ntmps79;go_wp2_with (fail);refine (zBZ _ _ h1 h2).mono ?_;rintro e w' ⟨rfl,rfl⟩;rw[hp];clear hp;go_wp2_with (fail);refine (zBZ _ _ (by omega) (by omega)).mono ?_;rintro e w' ⟨rfl,rfl⟩;rw[hq];clear hq;go_wp2;go_ret;unfold zA9;rw[Zl H4.o,Zo H5.o];exact⟨_,_,rfl,zCj rfl _ _ (ZS _ _),(Zc _ _).alloc (Za _) _⟩
 have hp:=zBM c h4 h5;have H5:=hy' h5;have H4:=hy' h4;clear h4 h5;go_enter func79,ntmps79;go_wp2_with (fail);refine (zBZ _ _ h1 h2).mono ?_;rintro e w' ⟨rfl,rfl⟩;rw[hp];clear hp;go_wp2;go_ret;unfold zA9;rw[Zl H4.o,Zl H5.o];exact⟨_,_,rfl,fun h=>absurd h (by simp),Zc _ _⟩
def Hg.joinK (a b:Int):Int × Bool :=
 if zA3 a=1∧zA3 b=2 then (44032+((a-4352)*21+b-4449)*28,true)
 else if zA3 a=4∧zA3 b=3 then (a+b-4519,true) else (0,false)
theorem zIx (c:Int) (h:zA3 c=1):4352≤c∧c<4371:=by unfold zA3 at h;grind
theorem zHq (c:Int) (h:zA3 c=2):4449≤c∧c<4470:=by unfold zA3 at h;grind
theorem zHr (c:Int) (h:zA3 c=3):4520≤c∧c<4547:=by unfold zA3 at h;grind
theorem Hg.join_any (a b:Int) (w:World) (h1 : -2147483648≤a) (h2:a≤2147483647) (h3 : -2147483648≤b) (h4:b≤2147483647) :
 Calls prog 140 #[.int .i32 a,.int .i32 b] w fun e w'=>e=.returned (.tuple #[.int .i32 (Hg.joinK a b).1,.bool (Hg.joinK a b).2])∧w=w':=by
 by_cases ha:zA3 a=1
 · have af:=zIx a ha;obtain⟨aj,ah⟩:=af;have q1:(zA3 a == 1)=true:=beq_iff_eq.2 ha;have q4:(zA3 a == 4)=false:=by rw[ha];rfl
   by_cases hb:zA3 b=2
   · have ae:=zHq b hb;obtain⟨ag,ai⟩:=ae;have q2:(zA3 b == 2)=true:=beq_iff_eq.2 hb;have HA:=hy' ha;have HB:=hy' hb;clear ha hb;go_enter func140,ntmps140;go_wp2_with (go_at_call 55;refine (Hg.of_any _ _ (by omega) (by omega)).mono ?_;rintro e w' ⟨rfl,rfl⟩);go_ret2;refine⟨zDJ ?_,rfl⟩;unfold Hg.joinK;rw[Zo ⟨HA.o,HB.o⟩]
   have q2:(zA3 b == 2)=false:=beq_eq_false_iff_ne.2 hb;have HA:=hy' ha;have HB:=hy' hb;clear ha hb;go_enter func140,ntmps140;go_wp2_with (go_at_call 55;refine (Hg.of_any _ _ (by omega) (by omega)).mono ?_;rintro e w' ⟨rfl,rfl⟩);go_ret2;refine⟨zDJ ?_,rfl⟩;unfold Hg.joinK;rw[Zl (fun h=>HB.o h.2),Zl (fun h=>by have:=HA.o;omega)]
 have q1:(zA3 a == 1)=false:=beq_eq_false_iff_ne.2 ha
 by_cases ha4:zA3 a=4
 · have af:=zAv a (.inl ha4);obtain⟨aj,ah⟩:=af;have q4:(zA3 a == 4)=true:=beq_iff_eq.2 ha4
   by_cases hb:zA3 b=3
   · have ae:=zHr b hb;obtain⟨ag,ai⟩:=ae;have q2:(zA3 b == 3)=true:=beq_iff_eq.2 hb;have HA:=hy' ha;have aa:=hy' ha4;have HB:=hy' hb;clear ha ha4 hb;go_enter func140,ntmps140;go_wp2_with (go_at_call 55;refine (Hg.of_any _ _ (by omega) (by omega)).mono ?_;rintro e w' ⟨rfl,rfl⟩);go_ret2;refine⟨zDJ ?_,rfl⟩;unfold Hg.joinK;rw[Zl (fun h=>HA.o h.1),Zo ⟨aa.o,HB.o⟩]
   have q2:(zA3 b == 3)=false:=beq_eq_false_iff_ne.2 hb;have HA:=hy' ha;have aa:=hy' ha4;have HB:=hy' hb;clear ha ha4 hb;go_enter func140,ntmps140;go_wp2_with (go_at_call 55;refine (Hg.of_any _ _ (by omega) (by omega)).mono ?_;rintro e w' ⟨rfl,rfl⟩);go_ret2;refine⟨zDJ ?_,rfl⟩;unfold Hg.joinK;rw[Zl (fun h=>HA.o h.1),Zl (fun h=>HB.o h.2)]
 have q4:(zA3 a == 4)=false:=beq_eq_false_iff_ne.2 ha4;have HA:=hy' ha;have aa:=hy' ha4;clear ha ha4;go_enter func140,ntmps140;go_wp2_with (go_at_call 55;refine (Hg.of_any _ _ (by omega) (by omega)).mono ?_;rintro e w' ⟨rfl,rfl⟩);go_ret2;refine⟨zDJ ?_,rfl⟩;unfold Hg.joinK;rw[Zl (fun h=>HA.o h.1),Zl (fun h=>aa.o h.1)]
theorem zN4 (c:Int) (w:World) (h1 : -2147483648≤c) (h2:c≤2147483647) :
 Calls prog 112 #[.int .i64 c] w fun e w'=>e=.returned (.int .i64 (zA3 c))∧w=w':=by
 go_enter func112,ntmps112;go_wp2
 all_goals
  go_ret;refine⟨zBO ?_,rfl⟩
  try simp only[YP,Xr,Yv,JR,Zp,Z0]at *
  unfold zA3;grind
theorem Hg.parts_any (
 c:Int) (w:World) (h1 : -2147483648≤c) (h2:c≤2147483647) :
 Calls prog 44 #[.int .i64 c] w (RetInts .i64 (zA9 c) w):=by
 go_enter func44,ntmps44;go_wp2;go_loop [3,4] (fun n l=>∃k:Int,0≤k∧k≤19∧n=.int .i64 (44032+588*k)∧l=.int .i64 (4352+k)∧(k=0∨44032+588*k≤c)) (fun _ l=>(5000-intOf l).toNat)
 case atStart=>exact⟨0,by omega,by omega,rfl,rfl,.inl rfl⟩
 obtain⟨k,aa,af,rfl,rfl,hk⟩:=hrel
 by_cases hl:4352+k≤4370
 rotate_left
 · have HS:Hy (zA9 c=[]):=by
    show zA9 c=[];have:¬(44032≤c∧c<55204):=by omega
    unfold zA9;rw[Zl (fun h=>this (zAv c (.inl h))),Zl (fun h=>this (zAv c (.inr h)))]
   go_wp2;go_ret;rw[HS.o];exact⟨_,_,rfl,fun h=>absurd h (by simp),Zc _ _⟩
 by_cases hc:44032+588*k+588≤c
 · go_wp2;exact⟨⟨k+1,by omega,by omega,by go_num,by go_num,.inr (by omega)⟩,by simp[intOf];omega⟩
 go_wp2;go_loop [3,5] (fun n v=>∃j:Int,0≤j∧j≤21∧n=.int .i64 (44032+588*k+28*j)∧v=.int .i64 (4449+j)∧(j=0∨44032+588*k+28*j≤c)) (fun _ v=>(5000-intOf v).toNat)
 case atStart=>exact⟨0,by omega,by omega,by go_num,rfl,.inl rfl⟩
 obtain⟨j,hj0,ae,rfl,rfl,hj⟩:=hrel
 by_cases hv:4449+j≤4469
 rotate_left
 · omega
 by_cases hd:44032+588*k+28*j+28≤c
 · go_wp2;exact⟨⟨j+1,by omega,by omega,by go_num,by go_num,.inr (by omega)⟩,by simp[intOf];omega⟩
 by_cases he:c=44032+588*k+28*j
 · have hb:(c == 44032+588*k+28*j)=true:=beq_iff_eq.2 he;have H4:=zD4 c (by omega) (by omega) (by omega)
   have HS:Hy (zA9 c=[4352+k,4449+j]):=by
    show zA9 c=[4352+k,4449+j];unfold zA9;rw[Zo H4,show (c-44032)/588=k from by omega,show (c-44032)%588/28=j from by omega]
   clear H4;have HE:=hy' he;clear he;go_wp2;go_ret;rw[HS.o];exact⟨_,_,rfl,zCj rfl _ _ (ZS _ _),(Zc _ _).alloc (Za _) _⟩
 have hb:(c == 44032+588*k+28*j)=false:=beq_eq_false_iff_ne.2 he
 by_cases hg:44032+588*k+28*j<c
 · have H5:zA3 c=5:=by unfold zA3;grind
   have HS:Hy (zA9 c=[4352+k,4449+j,4519+c-(44032+588*k+28*j)]):=by
    show zA9 c=[4352+k,4449+j,4519+c-(44032+588*k+28*j)];unfold zA9
    rw[Zl (by rw[H5];decide),Zo H5,show (c-44032)/588=k from by omega,show (c-44032)%588/28=j from by omega,
     show 4519+(c-44032)%28=4519+c-(44032+588*k+28*j) from by omega]
   clear H5;go_wp2;go_ret;rw[HS.o];exact⟨_,_,rfl,zCj rfl _ _ (ZS _ _),(Zc _ _).alloc (Za _) _⟩
 have HS:Hy (zA9 c=[]):=by
  show zA9 c=[];have:¬(44032≤c∧c<55204):=by omega
  unfold zA9;rw[Zl (fun h=>this (zAv c (.inl h))),Zl (fun h=>this (zAv c (.inr h)))]
 go_wp2;go_ret;rw[HS.o];exact⟨_,_,rfl,fun h=>absurd h (by simp),Zc _ _⟩
end
def Md.one (mp:Int→List Int) (c:Int):List Int:=if mp c=[] then [c] else mp c
def Md.step (mp:Int→List Int) (L:List Int):List Int:=L.flatMap (Md.one mp)
def Md.plain (mp:Int→List Int) (L:List Int):Bool:=L.all fun c=>(mp c).isEmpty
def zE8 (mp:Int→List Int):Nat→List Int→Option (List Int)
 | 0,_=>none
 | k+1,L=>if Md.plain mp L=true then some L else if (Md.step mp L).length > 32 then none else zE8 mp k (Md.step mp L)
def zEH (out:List Int) (c:Int):Option (List Int):=if out.length<32 then some (out++[c]) else none
def zBG (f:List Int→Int→Option (List Int)):List Int→List Int→Option (List Int)
 | out,[]=>some out
 | out,d::r=>(f out d).bind fun o=>zBG f o r
def zBS (mp:Int→List Int):Nat→List Int→Int→Option (List Int)
 | 0,out,c=>if mp c=[] then zEH out c else none
 | k+1,out,c=>if mp c=[] then zEH out c else zBG (zBS mp k) out (mp c)
def zAq (f:Int→Option (List Int)):List Int→Option (List Int)
 | []=>some []
 | d::r=>(f d).bind fun a=>(zAq f r).map (a ++ ·)
def Md.lv (mp:Int→List Int):Nat→Int→Option (List Int)
 | 0,c=>if mp c=[] then some [c] else none
 | k+1,c=>if mp c=[] then some [c] else zAq (Md.lv mp k) (mp c)
def Md.fit (out:List Int) (l:List Int):Option (List Int):=if out.length+l.length≤32 then some (out++l) else none
theorem zFe {f:Int→Option (List Int)} (hf:∀c l,f c=some l→1≤l.length):∀(L l:List Int),zAq f L=some l→L.length≤l.length
 | [],l,_=>ZG _
 | d::r,l,h=>by
   unfold zAq at h;cases hd:f d with
   | none=>rw[hd]at h;cases h
   | some a =>
     rw[hd,ZD]at h;cases hr:zAq f r with
     | none=>rw[hr]at h;cases h
     | some b =>
       rw[hr,ZA]at h;cases h
       have h1:=hf d a hd;have h2:=zFe hf r b hr;simp;omega
theorem zGg (mp:Int→List Int):∀(k:Nat) (c:Int) (l:List Int),Md.lv mp k c=some l→1≤l.length
 | 0,c,l,h=>by
   unfold Md.lv at h;split at h
   · cases h;simp
   cases h
 | k+1,c,l,h=>by
   unfold Md.lv at h;split at h
   · cases h;simp
   rename_i hne;have:=zFe (zGg mp k) _ _ h
   have h2:1≤(mp c).length:=by
    cases hm:mp c with
    | nil=>exact absurd hm hne
    | cons a b=>simp
   omega
theorem zOQ (mp:Int→List Int) {c:Int} (k:Nat) {l:List Int} (h:Md.lv mp k c=some l) (hc:mp c≠[]):(mp c).length≤l.length:=by
 cases k with
 | zero=>unfold Md.lv at h;rw[if_neg hc]at h;cases h
 | succ k=>unfold Md.lv at h;rw[if_neg hc]at h;exact zFe (zGg mp k) _ _ h
theorem zJU {f:List Int→Int→Option (List Int)} {g:Int→Option (List Int)} (hf:∀out c,out.length≤32→f out c=(g c).bind (Md.fit out)) :
 ∀(L out:List Int),out.length≤32→zBG f out L=(zAq g L).bind (Md.fit out)
 | [],out,ho=>by
   unfold zBG zAq Md.fit;simp[ho]
 | d::r,out,ho=>by
   unfold zBG zAq;rw[hf out d ho];cases hd:g d with
   | none=>rfl
   | some a =>
     rw[ZD,ZD]
     by_cases h1:out.length+a.length≤32
     · rw[show Md.fit out a=some (out++a) by unfold Md.fit;rw[if_pos h1],Option.bind_some,zJU hf r (out++a) (by simpa using h1)];cases hr:zAq g r with
       | none=>rfl
       | some b =>
         rw[ZD,ZA,ZD];unfold Md.fit;simp[Yk]
     rw[show Md.fit out a=none by unfold Md.fit;rw[if_neg h1],Option.bind_none];cases hr:zAq g r with
     | none=>rfl
     | some b =>
       rw[ZA,ZD];unfold Md.fit;rw[Zl (by simp;omega)]
theorem zIy (out:List Int) (c:Int):zEH out c=Md.fit out [c]:=by
 unfold zEH Md.fit
 by_cases h:out.length<32
 · rw[Zo h,Zo (by simp;omega)]
 rw[Zl h,Zl (by simp;omega)]
theorem zBy (mp:Int→List Int):∀(k:Nat) (out:List Int) (c:Int),out.length≤32→zBS mp k out c=(Md.lv mp k c).bind (Md.fit out)
 | 0,out,c,ho=>by
   unfold zBS Md.lv
   by_cases h:mp c=[]
   · rw[Zo h,Zo h,zIy];rfl
   rw[Zl h,Zl h];rfl
 | k+1,out,c,ho=>by
   unfold zBS Md.lv
   by_cases h:mp c=[]
   · rw[Zo h,Zo h,zIy];rfl
   rw[Zl h,Zl h];exact zJU (fun o d hd=>zBy mp k o d hd) _ _ ho
theorem zJV (f:Int→Option (List Int)):∀(a b:List Int),zAq f (a++b)=(zAq f a).bind fun x=>(zAq f b).map (x ++ ·)
 | [],b=>by simp[zAq]
 | d::r,b=>by
   rw[Zx,zAq,zAq,zJV f r b];cases f d with
   | none=>rfl
   | some x =>
     cases zAq f r with
     | none=>rfl
     | some y =>
       cases zAq f b with
       | none=>rfl
       | some z=>simp
theorem zBr (mp:Int→List Int) (k:Nat) {c:Int} (h:mp c=[]):Md.lv mp k c=some [c]:=by
 cases k with
 | zero=>unfold Md.lv;rw[if_pos h]
 | succ k=>unfold Md.lv;rw[if_pos h]
theorem zQ1 (mp:Int→List Int) (k:Nat) (c:Int):Md.lv mp (k+1) c=zAq (Md.lv mp k) (Md.one mp c):=by
 unfold Md.one
 by_cases h:mp c=[]
 · rw[Zo h,zBr mp _ h,zAq,zBr mp _ h];rfl
 rw[Zl h,Md.lv,Zl h]
theorem zIz (mp:Int→List Int) (k:Nat):∀(L:List Int),zAq (Md.lv mp (k+1)) L=zAq (Md.lv mp k) (Md.step mp L)
 | []=>rfl
 | d::r=>by
   have e:Md.step mp (d::r)=Md.one mp d++Md.step mp r:=by simp[Md.step]
   rw[e,zJV,zAq,zIz mp k r,zQ1]
theorem zEI (mp:Int→List Int) (k:Nat):∀(L:List Int),Md.plain mp L=true→zAq (Md.lv mp k) L=some L
 | [],_=>rfl
 | d::r,h=>by
   unfold Md.plain at h;rw[List.all_cons,Zy,List.isEmpty_iff]at h;rw[zAq,zBr mp k h.1,zEI mp k r (by unfold Md.plain;exact h.2)];rfl
theorem zIA (mp:Int→List Int):∀(L:List Int),Md.plain mp L≠true→zAq (Md.lv mp 0) L=none
 | [],h=>absurd rfl h
 | d::r,h=>by
   rw[zAq]
   by_cases hd:mp d=[]
   · have:Md.plain mp r≠true:=fun hr=>h (by unfold Md.plain at hr ⊢;rw[List.all_cons,hr,hd];rfl)
     rw[zIA mp r this];cases Md.lv mp 0 d <;> rfl
   rw[Md.lv,Zl hd];rfl
theorem zLN (mp:Int→List Int):∀(k:Nat) (L:List Int),L.length≤32→zE8 mp (k+1) L=(zAq (Md.lv mp k) L).bind (Md.fit [])
 | 0,L,hL=>by
   rw[zE8]
   by_cases h:Md.plain mp L=true
   · rw[Zo h,zEI mp 0 L h,ZD];unfold Md.fit;simp[hL]
   rw[Zl h,zIA mp L h];split <;> rfl
 | k+1,L,hL=>by
   rw[zE8]
   by_cases h:Md.plain mp L=true
   · rw[Zo h,zEI mp _ L h,ZD];unfold Md.fit;simp[hL]
   rw[Zl h,zIz]
   by_cases h2:(Md.step mp L).length > 32
   · rw[Zo h2];cases hl:zAq (Md.lv mp k) (Md.step mp L) with
     | none=>rfl
     | some l =>
       have:=zFe (zGg mp k) _ _ hl;rw[ZD];unfold Md.fit;rw[Zl (by simp;omega)]
   rw[Zl h2,zLN mp k _ (by omega)]
theorem zOR (mp:Int→List Int) (k:Nat) (c:Int):zE8 mp (k+1) [c]=zBS mp k [] c:=by
 rw[zLN mp k [c] (by simp),zBy mp k [] c (by simp),zAq];cases Md.lv mp k c with
 | none=>rfl
 | some a=>simp[zAq]
theorem zIB {mp:Int→List Int} {f:Int→Option (List Int)} (hf:∀c l,f c=some l→∀d∈l,mp d=[]):∀(L l:List Int),zAq f L=some l→∀d∈l,mp d=[]
 | [],l,h,d,hd=>by cases h;cases hd
 | e::r,l,h,d,hd=>by
   unfold zAq at h;cases he:f e with
   | none=>rw[he]at h;cases h
   | some a =>
     rw[he,ZD]at h;cases hr:zAq f r with
     | none=>rw[hr]at h;cases h
     | some b =>
       rw[hr,ZA]at h;cases h
       rcases List.mem_append.1 hd with h1|h1
       · exact hf e a he d h1
       exact zIB hf r b hr d h1
theorem zJW (mp:Int→List Int):∀(k:Nat) (c:Int) (l:List Int),Md.lv mp k c=some l→∀d∈l,mp d=[]
 | 0,c,l,h,d,hd=>by
   unfold Md.lv at h;split at h
   · rename_i hc;cases h
     rw[Zw]at hd;rw[hd];exact hc
   cases h
 | k+1,c,l,h,d,hd=>by
   unfold Md.lv at h;split at h
   · rename_i hc;cases h
     rw[Zw]at hd;rw[hd];exact hc
   exact zIB (zJW mp k) _ _ h d hd
theorem zN5 {mp:Int→List Int} {k:Nat} {c:Int} {l:List Int} (h:zBS mp k [] c=some l):(∀d∈l,mp d=[])∧1≤l.length∧(mp c).length≤l.length∧l.length≤32:=by
 rw[zBy mp k [] c (by simp)]at h;cases hl:Md.lv mp k c with
 | none=>rw[hl]at h;cases h
 | some a =>
   rw[hl,ZD]at h;unfold Md.fit at h;split at h
   · rename_i hle;cases h
     rw[ZH];refine⟨zJW mp k c a hl,zGg mp k c a hl,?_,by simpa using hle⟩
     by_cases hc:mp c=[]
     · rw[hc];exact ZG _
     exact zOQ mp k hl hc
   cases h
theorem zEJ {mp:Int→List Int} (k:Nat) {c:Int} (h:mp c=[]):zBS mp k [] c=some [c]:=by
 rw[zBy mp k [] c (by simp),zBr mp k h];rfl
def C.srt (l:List Int):Prop:=l.Pairwise (· < ·)
def C.mem:List Int→Int→Bool
 | [],_=>false
 | x::l,c=>decide (x≤c)&&!C.mem l c
theorem C.mem_cons (x:Int) (l:List Int) (c:Int):C.mem (x::l) c=(decide (x≤c)&&!C.mem l c):=rfl
theorem zQ2 {l:List Int} {c:Int} (h:∀y∈l,c<y):C.mem l c=false:=by
 cases l with
 | nil=>rfl
 | cons x l=>rw[C.mem_cons,Zu (by have:=h x (by simp);omega)];rfl
theorem zAF {x:Int} {l:List Int} (h:C.srt (x::l)):C.srt l:=(List.pairwise_cons.1 h).2
theorem zBA {x:Int} {l:List Int} (h:C.srt (x::l)):∀y∈l,x<y:=(List.pairwise_cons.1 h).1
theorem zBi {x:Int} {l:List Int} (h:C.srt (x::l)) {c:Int} (hc:c≤x):C.mem l c=false :=
 zQ2 fun y hy=>by have:=zBA h y hy;omega
theorem zQ3:∀(l l':List Int),C.srt l→C.srt l'→(∀c,C.mem l c=C.mem l' c)→l=l'
 | [],[],_,_,_=>rfl
 | [],x::l',_,h',h=>by
   have:=h x;rw[C.mem_cons,zBi h' (Yq _)]at this;simp[C.mem]at this
 | x::l,[],h1,_,h=>by
   have:=h x;rw[C.mem_cons,zBi h1 (Yq _)]at this;simp[C.mem]at this
 | x::l,y::l',h1,h2,h=>by
   have hx:=h x;have hy:=h y;rw[C.mem_cons,C.mem_cons,zBi h1 (Yq _)]at hx;rw[C.mem_cons,C.mem_cons,zBi h2 (Yq _)]at hy
   have e:x=y:=by
    rcases J3 x y with aa|he|hgt
    · rw[Zu (show ¬y≤x by omega)]at hx;simp at hx
    · exact he
    rw[Zu (show ¬x≤y by omega)]at hy;simp at hy
   subst e;rw[zQ3 l l' (zAF h1) (zAF h2)];intro c
   by_cases hc:x≤c
   · have:=h c;rw[C.mem_cons,C.mem_cons,Zr hc]at this;simpa using this
   rw[zBi h1 (by omega),zBi h2 (by omega)]
def C.ok (l:List Int):Prop:=C.srt l∧(∀x∈l,0≤x∧x≤1114112)∧l.length%2=0
def zAL:List Int→List (Int × Int)
 | x::y::t=>(x,y-1)::zAL t
 | _=>[]
def C.count:List Int→Int
 | x::y::t=>y-x+C.count t
 | _=>0
def C.idx:List Int→Int→Int
 | x::y::t,c=>(if x<c then min c y-x else 0)+C.idx t c
 | _,_=>0
def zRS:List Int→Int→Int × Bool
 | x::y::t,i=>if i<y-x then (x+i,true) else zRS t (i-(y-x))
 | _,_=>(0,false)
def zOS (p:Int→Bool):Nat→Nat
 | 0=>0
 | n+1=>zOS p n+(if p n then 1 else 0)
theorem zJX (p:Int→Bool) (n:Nat):zOS p (n+1)=zOS p n+(if p n then 1 else 0):=rfl
theorem zJY:∀(l:List Int),C.srt l→l.length%2=0→∀c:Int,C.idx l (c+1)=C.idx l c+(if C.mem l c then 1 else 0)
 | [],_,_,_=>rfl
 | [x],_,h,_=>by simp at h
 | x::y::t,hs,hl,c=>by
   have ht:=zAF (zAF hs);have aa:=zBA hs y (by simp);have ih:=zJY t ht (by simp at hl;omega) c;show (if x<c+1 then min (c+1) y-x else 0)+C.idx t (c+1)=(if x<c then min c y-x else 0)+C.idx t c+_;rw[ih,C.mem_cons,C.mem_cons]
   by_cases h1:x≤c
   rotate_left
   · have hm:C.mem t c=false:=zBi (zAF hs) (by omega);rw[Zu h1,hm,Zl (show ¬x<c+1 by omega),Zl (show ¬x<c by omega)];simp
   by_cases h2:y≤c
   · rw[Zr h1,Zr h2];rw[Zo (show x<c+1 by omega)]
     by_cases h3:x<c
     · rw[Zo h3];simp only[YJ,Bool.not_not];omega
     omega
   have hm:C.mem t c=false:=zBi (zAF hs) (by omega);rw[Zr h1,Zu h2,hm,Zo (show x<c+1 by omega)]
   by_cases h3:x<c
   · rw[Zo h3];simp;omega
   rw[Zl h3];simp;omega
theorem zLO:∀(l:List Int) (c:Int),(∀x∈l,c≤x)→C.idx l c=0
 | [],_,_=>rfl
 | [x],_,_=>rfl
 | x::y::t,c,h=>by
   show (if x<c then min c y-x else 0)+C.idx t c=0;rw[Zl (by have:=h x (by simp);omega),zLO t c (fun z hz=>h z (by simp[hz]))];rfl
theorem zQ4 {l:List Int} (h:C.ok l) (n:Nat):C.idx l (n:Int)=zOS (C.mem l) n:=by
 induction n with
 | zero=>exact zLO l 0 (fun x hx=>(h.2.1 x hx).1)
 | succ n ih =>
   rw[show ((n+1:Nat):Int)=(n:Int)+1 by omega,zJY l h.1 h.2.2,ih,zJX];split <;> simp
theorem zIC:∀(l:List Int) (c:Int),C.srt l→(∀x∈l,x≤c)→C.idx l c=C.count l
 | [],_,_,_=>rfl
 | [x],_,_,_=>rfl
 | x::y::t,c,hs,h=>by
   have aa:=zBA hs y (by simp);have hy:=h y (by simp);show (if x<c then min c y-x else 0)+C.idx t c=y-x+C.count t;rw[Zo (by omega),zIC t c (zAF (zAF hs)) (fun z hz=>h z (by simp[hz]))];omega
theorem zN6 {l:List Int} (h:C.ok l):C.count l=zOS (C.mem l) 1114112:=by
 rw[←zQ4 h];exact (zIC l _ h.1 (fun x hx=>(h.2.1 x hx).2)).symm
theorem zRd (p:Int→Bool) (n:Nat):zOS p n≤n:=by
 induction n with
 | zero=>exact Za _
 | succ n ih=>rw[zJX];split <;> omega
theorem zJZ {l:List Int} (h:C.ok l):0≤C.count l∧C.count l≤1114112:=by
 rw[zN6 h];have:=zRd (C.mem l) 1114112;omega
theorem zGQ:∀l:List Int,(zAL l).length=l.length/2
 | []=>rfl
 | [x]=>by simp[zAL]
 | x::y::t=>by
   show (zAL t).length+1=(t.length+1+1)/2;rw[zGQ t];omega
theorem zK0:∀(l:List Int) (k:Nat) (hk:2*k+1<l.length),(zAL l)[k]?=some (l[2*k]'(by omega),l[2*k+1]'hk-1)
 | [],k,hk=>by simp at hk
 | [x],k,hk=>by simp at hk
 | x::y::t,0,hk=>rfl
 | x::y::t,k+1,hk=>by
   have:=zK0 t k (by simp at hk;omega);show (zAL t)[k]?=_;rw[this];simp only[show 2*(k+1)=2*k+1+1 by omega,show 2*(k+1)+1=(2*k+1)+1+1 by omega,List.getElem_cons_succ]
def C.all:List Int:=[0,55296,57344,1114112]
def C.isC (c:Int):Bool:=decide (0≤c∧c≤1114111∧(c<55296∨57343<c))
abbrev Rw.Row:=Int × Int × List Int
def Md.find (T:List Rw.Row) (c:Int):Option Rw.Row:=T.find? fun r=>decide (r.1=c)
def Md.cls (T:List Rw.Row) (c:Int):Int:=((Md.find T c).map fun r=>r.2.1).getD 0
def zAM (T:List Rw.Row) (c:Int):List Int:=((Md.find T c).map fun r=>r.2.2).getD []
def Md.mp (T:List Rw.Row) (c:Int):List Int:=if (zAh c).2.2=true then [(zAh c).1,(zAh c).2.1] else zAM T c
def Md.full (T:List Rw.Row) (c:Int):Option (List Int):=zBS (Md.mp T) (T.length+3) [] c
def zAe (T:List Rw.Row) (X:Int→Bool) (r:Rw.Row):Bool:=decide (r.2.1=0)&&(decide (r.2.2.length=2)&&(decide (Md.cls T (r.2.2.headD 0)=0)&&!X r.1))
def zAr (T:List Rw.Row) (X:Int→Bool) (c:Int):Bool:=(zAh c).2.2||((Md.find T c).map (zAe T X)).getD false
def zBT (last:Int) (r:Rw.Row):Nat :=
 if (!C.isC r.1||decide (r.1≤last)||decide (r.2.1<0)||decide (254<r.2.1)||decide (2<r.2.2.length))=true then 1
 else if ((r.1::r.2.2).any fun c=>decide (zA3 c≠0))=true then 2
 else if (r.2.2.any fun c=>!C.isC c)=true then 3 else 0
def zAx:Int→List Rw.Row→Nat
 | _,[]=>0
 | last,r::l=>if zBT last r=0 then zAx r.1 l else zBT last r
def zBj (T:List Rw.Row):Bool:=T.any fun r=>(Md.full T r.1).isNone
def zBD (T:List Rw.Row) (X:Int→Bool):List (List Int)→List Rw.Row→Bool
 | _,[]=>false
 | seen,r::l=>if zAe T X r=true then (seen.contains r.2.2||zBD T X (seen++[r.2.2]) l) else zBD T X seen l
def Md.chk (T:List Rw.Row) (X:Int→Bool):Nat :=
 if zAx (-1) T≠0 then zAx (-1) T else if zBj T=true then 4 else if zBD T X [] T=true then 5 else 0
theorem zQ5 (last:Int) (r:Rw.Row):zBT last r≤3:=by
 unfold zBT
 repeat' split
 all_goals omega
def Md.good (r:Rw.Row):Prop:=C.isC r.1=true∧0≤r.2.1∧r.2.1≤254∧r.2.2.length≤2∧zA3 r.1=0∧∀c∈r.2.2,C.isC c=true∧zA3 c=0
theorem zN7 {last:Int} {r:Rw.Row} (h:zBT last r=0):Md.good r∧last<r.1:=by
 unfold zBT at h;split at h
 · cases h
 rename_i h1;split at h
 · cases h
 rename_i h2;split at h
 · cases h
 rename_i h3;simp only[X5,Yv,Zp,not_or,J4,Int.not_le,Int.not_lt,Nat.not_lt]at h1;obtain⟨⟨⟨⟨a1,a2⟩,a3⟩,a4⟩,a5⟩:=h1;simp only[YK,Zp,not_exists,not_and,Decidable.not_not]at h2;simp only[YK,Yv,not_exists,not_and,J4]at h3;exact⟨⟨a1,a3,a4,a5,h2 r.1 Zt,fun c hc=>⟨h3 c hc,h2 c (Zv _ hc)⟩⟩,a2⟩
def Md.rises (T:List Rw.Row):Prop:=T.Pairwise fun r q=>r.1<q.1
theorem zCd:∀(l:List Rw.Row) (last:Int),zAx last l=0→(∀r∈l,Md.good r∧last<r.1)∧Md.rises l
 | [],_,_=>⟨fun r hr=>absurd hr Z6,List.Pairwise.nil⟩
 | r::l,last,h=>by
   unfold zAx at h
   by_cases hb:zBT last r=0
   · rw[Zo hb]at h;obtain⟨h1,h2⟩:=zN7 hb;obtain⟨h3,h4⟩:=zCd l r.1 h;refine⟨fun q hq=>?_,List.Pairwise.cons (fun q hq=>(h3 q hq).2) h4⟩;rcases List.mem_cons.1 hq with rfl|hq
     · exact⟨h1,h2⟩
     exact⟨(h3 q hq).1,by have:=(h3 q hq).2;omega⟩
   rw[Zl hb]at h;exact absurd h hb
theorem zDo {T:List Rw.Row} (h:Md.rises T) {i j:Nat} {r q:Rw.Row} (hi:T[i]?=some r) (hj:T[j]?=some q) (hij:i<j):r.1<q.1:=by
 obtain⟨a1,rfl⟩:=List.getElem?_eq_some_iff.1 hi;obtain⟨a2,rfl⟩:=List.getElem?_eq_some_iff.1 hj;exact List.pairwise_iff_getElem.1 h i j a1 a2 hij
theorem zBH {T:List Rw.Row} (h:Md.rises T) {r:Rw.Row} (hr:r∈T):Md.find T r.1=some r:=by
 induction T with
 | nil=>cases hr
 | cons q l ih =>
   unfold Md.rises at h;rw[XD]at h;unfold Md.find;rw[Ki];rcases List.mem_cons.1 hr with rfl|hr
   · simp
   rw[Zu (by have:=h.1 r hr;omega)];exact ih h.2 hr
theorem zOT {T:List Rw.Row} (h:Md.rises T) {i:Nat} {r:Rw.Row} (hi:T[i]?=some r):Md.find T r.1=some r:=zBH h (Zn hi)
theorem zDp {T:List Rw.Row} {c:Int} (h:∀r∈T,r.1≠c):Md.find T c=none:=by
 unfold Md.find;rw[JS];intro r hr;simpa using h r hr
theorem zAp {T:List Rw.Row} {c:Int} {r:Rw.Row} (h:Md.find T c=some r):r∈T∧r.1=c:=by
 unfold Md.find at h;exact⟨List.mem_of_find?_eq_some h,by simpa using List.find?_some h⟩
theorem zN8 {T:List Rw.Row} (h:Md.rises T) (c:Int) (i:Nat) (h1:∀t r,t<i→T[t]?=some r→r.1<c) (h2:∀t r,i≤t→T[t]?=some r→c≤r.1) :
 Md.find T c=(T[i]?).bind fun r=>if r.1=c then some r else none:=by
 cases hi:T[i]? with
 | none =>
   refine zDp fun r hr=>?_
   obtain⟨t,ht⟩:=List.mem_iff_getElem?.1 hr;have hlen:=List.getElem?_eq_none_iff.1 hi;obtain⟨a1,_⟩:=List.getElem?_eq_some_iff.1 ht;have:=h1 t r (by omega) ht;omega
 | some r =>
   rw[ZD]
   by_cases hc:r.1=c
   · rw[Zo hc,←hc,zOT h hi]
   rw[Zl hc];refine zDp fun q hq=>?_
   obtain⟨t,ht⟩:=List.mem_iff_getElem?.1 hq;have:=h2 i r (Za _) hi
   by_cases a:t<i
   · have:=h1 t q a ht;omega
   by_cases b:t=i
   · subst b;rw[hi]at ht;cases ht;exact hc
   have:=zDo h hi ht (by omega);omega
theorem zN9 (c:Int):0≤(zAh c).1∧(zAh c).1≤60000∧0≤(zAh c).2.1∧(zAh c).2.1≤60000:=by
 have key:zA3 c=4∨zA3 c=5→44032≤c∧c<55204:=by
  unfold zA3;grind
 unfold zAh;split
 · rename_i h;have:=key (.inl h);simp only;omega
 split
 · rename_i h;have:=key (.inr h);simp only;omega
 simp
def Md.bd (T:List Rw.Row):Prop:=∀r∈T,(-2147483648≤r.1∧r.1≤2147483647)∧∀c∈r.2.2,-2147483648≤c∧c≤2147483647
theorem zId {T:List Rw.Row} (h:Md.bd T) (c:Int):∀d∈Md.mp T c,-2147483648≤d∧d≤2147483647:=by
 intro d hd;unfold Md.mp at hd;split at hd
 · have:=zN9 c;simp only[Y0,Z6,Q5]at hd;rcases hd with rfl|rfl <;> omega
 unfold zAM at hd;cases hf:Md.find T c with
 | none=>rw[hf]at hd;cases hd
 | some r =>
   rw[hf]at hd;exact (h r (zAp hf).1).2 d hd
theorem zGh {c:Int} (h:zA3 c=0):(zAh c).2.2=false:=by
 unfold zAh;rw[Zl (by omega),Zl (by omega)]
theorem zD5 {T:List Rw.Row} {X:Int→Bool} (hr:Md.rises T) {r:Rw.Row} (hm:r∈T) (hg:Md.good r):zAr T X r.1=zAe T X r:=by
 unfold zAr;rw[zGh hg.2.2.2.2.1,zBH hr hm,Y5];rfl
theorem zQ6 {T:List Rw.Row} (hr:Md.rises T) {r:Rw.Row} (hm:r∈T) (hg:Md.good r):Md.mp T r.1=r.2.2:=by
 unfold Md.mp zAM;rw[zGh hg.2.2.2.2.1,Zl (by simp),zBH hr hm];rfl
theorem zOU {T:List Rw.Row} (hr:Md.rises T) {r:Rw.Row} (hm:r∈T):Md.cls T r.1=r.2.1:=by
 unfold Md.cls;rw[zBH hr hm];rfl
def Md.ahead (T:List Rw.Row) (X:Int→Bool) (pre:List Rw.Row) (r:Rw.Row):Bool:=pre.any fun q=>zAe T X r&&(zAe T X q&&decide (q.2.2=r.2.2))
def zB4 (T:List Rw.Row) (X:Int→Bool):List Rw.Row→List Rw.Row→Bool
 | _,[]=>false
 | pre,r::l=>Md.ahead T X pre r||zB4 T X (pre++[r]) l
theorem zGR {α β:Type} [BEq β] [LawfulBEq β] (p:α→Bool) (f:α→β) (y:β):∀(l:List α),((l.filter p).map f).contains y=l.any fun q=>p q&&(f q == y)
 | []=>rfl
 | q::l=>by
   rw[Yu,Kv]
   by_cases h:p q=true
   · rw[Zo h,Z1,List.contains_cons,zGR p f y l,h,YJ];congr 1;exact Bool.eq_iff_iff.2 ⟨fun e=>by simp at e;simp[e],fun e=>by simp at e;simp[e]⟩
   rw[Zl h,zGR p f y l];simp[h]
theorem zDq (T:List Rw.Row) (X:Int→Bool):∀(l pre:List Rw.Row),zBD T X ((pre.filter (zAe T X)).map fun r=>r.2.2) l=zB4 T X pre l
 | [],_=>rfl
 | r::l,pre=>by
   rw[zBD,zB4]
   by_cases hc:zAe T X r=true
   · have e:((pre.filter (zAe T X)).map fun r=>r.2.2)++[r.2.2]=(((pre++[r]).filter (zAe T X)).map fun r=>r.2.2):=by
      rw[Yj,ZK,Yu,Zo hc];rfl
     rw[Zo hc,e,zDq T X l (pre++[r]),zGR];congr 1;unfold Md.ahead;congr 1;funext q
     rw[hc,YJ];congr 1;exact Bool.eq_iff_iff.2 (by simp)
   have e:((pre.filter (zAe T X)).map fun r=>r.2.2)=(((pre++[r]).filter (zAe T X)).map fun r=>r.2.2):=by
    rw[Yj,Yu,Zl hc];simp
   rw[Zl hc,e,zDq T X l (pre++[r])]
   have:Md.ahead T X pre r=false:=by
    unfold Md.ahead;rw[Qe];intro q _;simp[hc]
   rw[this,Y5]
theorem zE9 {T:List Rw.Row} {X:Int→Bool} (h:Md.chk T X=0):(∀r∈T,Md.good r)∧Md.rises T∧(∀r∈T,∃l,Md.full T r.1=some l)∧zBD T X [] T=false:=by
 unfold Md.chk at h
 by_cases h1:zAx (-1) T=0
 rotate_left
 · rw[Zo h1]at h;exact absurd h h1
 rw[Zl (by simp[h1])]at h;obtain⟨g1,g2⟩:=zCd T (-1) h1;cases h2:zBj T with
 | true=>rw[Zo h2]at h;cases h
 | false =>
   rw[Zl (by simp[h2])]at h;refine⟨fun r hr=>(g1 r hr).1,g2,fun r hr=>?_,?_⟩
   · unfold zBj at h2;have:=List.any_eq_false.1 h2 r hr;cases hf:Md.full T r.1 with
     | none=>simp[hf]at this
     | some l=>exact⟨l,rfl⟩
   cases h3:zBD T X [] T with
   | true=>rw[Zo h3]at h;cases h
   | false=>rfl
theorem zNa {T:List Rw.Row} (h:∀r∈T,Md.good r) {x:Int} (hx:zA3 x≠0):zAM T x=[]:=by
 unfold zAM;rw[zDp fun r hr he=>hx (by rw[←he];exact (h r hr).2.2.2.2.1)];rfl
theorem zBB {T:List Rw.Row} (h:∀r∈T,Md.good r) {x:Int} (hx:zA3 x=1∨zA3 x=2∨zA3 x=3):Md.mp T x=[]:=by
 unfold Md.mp;rw[zBM x (by omega) (by omega)];simp only[ZN,Yg];exact zNa h (by omega)
theorem zGi (mp:Int→List Int) (k:Nat) {c x y:Int} (hc:mp c=[x,y]) (hx:mp x=[]) (hy:mp y=[]):Md.lv mp (k+1) c=some [x,y]:=by
 unfold Md.lv;rw[Zl (by rw[hc];simp),hc];simp[zAq,zBr mp k hx,zBr mp k hy]
theorem zDr {T:List Rw.Row} {X:Int→Bool} (h:Md.chk T X=0) (a:Int):∃l,Md.full T a=some l:=by
 obtain⟨hg,hr,hf,_⟩:=zE9 h;cases hfa:Md.find T a with
 | some r =>
   obtain⟨h1,h2⟩:=zAp hfa;rw[←h2];exact hf r h1
 | none =>
   have ae:zAM T a=[]:=by unfold zAM;rw[hfa];rfl
   unfold Md.full
   by_cases h4:zA3 a=4
   · have hs:=zAv a (.inl h4)
     have hm:Md.mp T a=[4352+(a-44032)/588,4449+(a-44032)%588/28]:=by
      unfold Md.mp;rw[zAT a h4];simp
     have hl:zA3 (4352+(a-44032)/588)=1:=by unfold zA3;grind
     have hv:zA3 (4449+(a-44032)%588/28)=2:=by unfold zA3;grind
     rw[zBy _ _ _ _ (by simp),show T.length+3=(T.length+2)+1 from rfl,zGi _ _ hm (zBB hg (by omega)) (zBB hg (by omega))];exact⟨_,rfl⟩
   by_cases h5:zA3 a=5
   rotate_left
   · have hm:Md.mp T a=[]:=by
      unfold Md.mp;rw[zBM a h4 h5];simpa using ae
     exact⟨_,zEJ _ hm⟩
   have hs:=zAv a (.inr h5)
   have hm:Md.mp T a=[a-(a-44032)%28,4519+(a-44032)%28]:=by
    unfold Md.mp;rw[zAY a h5];simp
   have aa:Md.mp T (a-(a-44032)%28)=[4352+(a-44032)/588,4449+(a-44032)%588/28]:=by
    unfold Md.mp;rw[zIw a hs.1 hs.2];simp
   have af:(a-44032)%28≠0:=fun e=>by rw[zD4 a hs.1 hs.2 e]at h5;omega
   have hl:zA3 (4352+(a-44032)/588)=1:=by unfold zA3;grind
   have hv:zA3 (4449+(a-44032)%588/28)=2:=by unfold zA3;grind
   have ht:zA3 (4519+(a-44032)%28)=3:=by unfold zA3;grind
   rw[zBy _ _ _ _ (by simp),show T.length+3=(T.length+2)+1 from rfl]
   have e1:Md.lv (Md.mp T) (T.length+2+1) a=some [4352+(a-44032)/588,4449+(a-44032)%588/28,4519+(a-44032)%28]:=by
    unfold Md.lv;rw[Zl (by rw[hm];simp),hm];simp[zAq,zBr _ (T.length+2) (zBB hg (.inr (.inr ht))),show T.length+2=(T.length+1)+1 from rfl,zGi _ (T.length+1) aa (zBB hg (.inl hl)) (zBB hg (.inr (.inl hv)))]
   rw[e1];exact⟨_,rfl⟩
theorem zCB {T:List Rw.Row} {a:Int} {l:List Int} (h:Md.full T a=some l):(∀y∈l,Md.mp T y=[]∧Md.full T y=some [y])∧1≤l.length∧l.length≤32∧(3<zA3 a→2≤l.length):=by
 obtain⟨h1,h2,h3,h4⟩:=zN5 h;refine⟨fun y hy=>⟨h1 y hy,zEJ _ (h1 y hy)⟩,h2,h4,fun hk=>?_⟩
 have hm:(Md.mp T a).length=2:=by
  unfold Md.mp
  by_cases h4:zA3 a=4
  · rw[zAT a h4];simp
  have h5:zA3 a=5:=by unfold zA3 at hk h4 ⊢;grind
  rw[zAY a h5];simp
 omega
theorem zK1 {Q:Int→Prop} {f:Int→Option (List Int)} (hf:∀c l,f c=some l→Q c→∀d∈l,Q d):∀(L l:List Int),zAq f L=some l→(∀c∈L,Q c)→∀d∈l,Q d
 | [],l,h,_,d,hd=>by
   simp only[zAq,Zh]at h;subst h;cases hd
 | e::r,l,h,hL,d,hd=>by
   simp only[zAq]at h;cases he:f e with
   | none=>rw[he]at h;cases h
   | some a =>
     rw[he,ZD]at h;cases hr:zAq f r with
     | none=>rw[hr]at h;cases h
     | some b =>
       rw[hr,ZA]at h;cases h
       rcases List.mem_append.1 hd with h1|h1
       · exact hf e a he (hL e Zt) d h1
       exact zK1 hf r b hr (fun c hc=>hL c (Zv _ hc)) d h1
theorem zID {Q:Int→Prop} {mp:Int→List Int} (hm:∀c,∀d∈mp c,Q d):∀(k:Nat) (c:Int) (l:List Int),Md.lv mp k c=some l→Q c→∀d∈l,Q d
 | 0,c,l,h,hc,d,hd=>by
   unfold Md.lv at h;split at h
   · cases h
     rw[Zw]at hd;rw[hd];exact hc
   cases h
 | k+1,c,l,h,hc,d,hd=>by
   unfold Md.lv at h;split at h
   · cases h
     rw[Zw]at hd;rw[hd];exact hc
   exact zK1 (zID hm k) _ _ h (hm c) d hd
theorem zOV {T:List Rw.Row} (hT:Md.bd T) {a:Int} (ha : -2147483648≤a∧a≤2147483647) {l:List Int} (h:Md.full T a=some l):∀y∈l,-2147483648≤y∧y≤2147483647:=by
 unfold Md.full at h;rw[zBy _ _ _ _ (by simp)]at h;cases hl:Md.lv (Md.mp T) (T.length+3) a with
 | none=>rw[hl]at h;cases h
 | some b =>
   rw[hl,ZD]at h;unfold Md.fit at h;split at h
   · cases h
     rw[ZH];exact zID (zId hT) _ a b hl ha
   cases h
section
open Go.RowKit
theorem zOW (w:World) (u:Value) (e:TypeId) (g:Nat) (hg:w.heap.size=g):(w.alloc (.cells #[u] e)).drew.cell? ⟨g,0,none⟩=some u:=by
 subst hg;show (w.alloc (.cells #[u] e)).cell? ⟨w.heap.size,0,none⟩=some u;have h:(w.alloc (.cells #[u] e)).heap[w.heap.size]?=some (.cells #[u] e (0,0)):=ZS _ _;simp only[World.cell?,h];rfl
theorem zEa (w:World) (o:Obj):(w.alloc o).heap.size=w.heap.size+1:=by simp
section
variable {P:Program}
theorem zKL {o:Oper} {a:Act} {K:Act→World→Prop} {Q:Exit→Act→World→Prop} (w:World) (s x:Operand) (t:TypeId)
 (ho:o.op=.call { callee:=.builtin .append,args := #[s,x],argTypes := #[t,t] })
 (base:Nat) (e:TypeId) (i:TypeInfo) (z:Value) (bytes:Nat) (ht:P.underlying t=some (.slice e)) (hi:P.info? e=some i) (hz:i.zero=some z)
 (ag:i.size=1) (ai:i.bytes=bytes) (ah:z.cells.size=1)
 (v:Value) (n:Nat) (xs:List Value) (hs:a.eval s=v) (af:w.ownsRow base e 1 v n xs)
 (u:Value) (h1:u.oneCell'=true) (g:Nat) (hx:a.eval x=.slice (some ⟨g,0,none⟩) 1 1) (hcell:w.cell? ⟨g,0,none⟩=some u)
 (aj:n+1≤maxLen) (ae:(n+1)*bytes≤140737488355328) (aa:base≤w.heap.size)
 (h:∀v' w',w'.ownsRow base e 1 v' (n+1) (xs++[u])→Below base w w'→w.grownBy w' v.ownBlock→K (a.put o.dst v') w') :
 o.wp P a w K Q:=by
 refine wp_append_own (P:=P) w s x t ho base e i z 1 bytes ht hi hz ag ai ah (by omega) v n xs hs af ⟨g,0,none⟩ 1 1 [u] hx rfl ?_ ?_ aj ae aa ?_
 · intro j q hq;rcases j with _|j
   · simp only[Xk,Zh]at hq;subst hq;simpa [Addr.add] using hcell
   simp at hq
 · intro q hq;simp only[Zw]at hq;subst hq;exact h1
 intro v' w' h2 h3 _;refine h v' w' h2 ?_ h3;refine (Zc _ _).grown h3 aa ?_;intro k hk;exact (af.lt k hk).1
theorem zCS {ops:Array Oper} {o:Oper} {a:Act} {K:Act→World→Prop} {Q:Exit→Act→World→Prop} {E:Prop} (w:World) (ah:o.guard=none) (s x:Operand) (t:TypeId)
 (ho:o.op=.call { callee:=.builtin .append,args := #[s,x],argTypes := #[t,t] })
 (base:Nat) (e:TypeId) (i:TypeInfo) (z:Value) (bytes:Nat) (ht:P.underlying t=some (.slice e)) (hi:P.info? e=some i) (hz:i.zero=some z)
 (ae:i.size=1) (aj:i.bytes=bytes) (ai:z.cells.size=1)
 (v:Value) (n:Nat) (xs:List Value) (hs:a.eval s=v) (ag:w.ownsRow base e 1 v n xs)
 (u:Value) (h1:u.oneCell'=true) (g:Nat) (hx:a.eval x=.slice (some ⟨g,0,none⟩) 1 1) (hcell:w.cell? ⟨g,0,none⟩=some u)
 (ak:n+1≤maxLen) (aa:(n+1)*bytes≤140737488355328) (af:base≤w.heap.size)
 (h:∀v' w',w'.ownsRow base e 1 v' (n+1) (xs++[u])→Below base w w'→w.grownBy w' v.ownBlock→K (a.put o.dst v') w') :
 if Region.wanted o (yielded ops a.tmps)=true then Oper.wp P o a w K Q else E:=by
 have hw:Region.wanted o (yielded ops a.tmps)=true:=by simp[Region.wanted,ah]
 rw[Zo hw];exact zKL w s x t ho base e i z bytes ht hi hz ae aj ai v n xs hs ag u h1 g hx hcell ak aa af h
end
def IsRow (k:IntKind) (w:World) (a:Option Addr) (len cap:Nat) (zs:List Int):Prop :=
 (a=none∧len=0∧cap=0∧zs=[]) ∨
 ∃x,a=some x∧len≤cap∧cap≤maxLen∧zs.length=cap∧(∀i,i<zs.length→w.cell? (x.add i)=some (.int k (zs.getD i 0)))∧∀n∈zs,(Lit.int k n).wf=true
theorem IsRow.len_le {k:IntKind} {w:World} {a:Option Addr} {len cap:Nat} {zs:List Int} (h:IsRow k w a len cap zs):len≤cap∧cap≤maxLen∧zs.length=cap:=by
 rcases h with ⟨rfl,rfl,rfl,rfl⟩|⟨x,rfl,h1,h2,h3,_⟩
 · exact⟨Za _,by decide,rfl⟩
 exact⟨h1,h2,h3⟩
theorem IsRow.wf {k:IntKind} {w:World} {a:Option Addr} {len cap:Nat} {zs:List Int} (h:IsRow k w a len cap zs):∀n∈zs,(Lit.int k n).wf=true:=by
 rcases h with ⟨rfl,rfl,rfl,rfl⟩|⟨x,rfl,h1,h2,h3,h4,h5⟩
 · simp
 exact h5
theorem IsRow.sl {k:IntKind} {w:World} {a:Option Addr} {len cap:Nat} {zs:List Int} (h:IsRow k w a len cap zs) (m:Nat) (hm:m≤len):Sl w w.heap.size a ((zs.take m).map (Value.int k)):=by
 rcases h with ⟨rfl,rfl,rfl,rfl⟩|⟨x,rfl,h1,h2,h3,h4,h5⟩
 · simpa using Sl.nil w w.heap.size none
 intro hx;rw[Ze,Zq]at hx;obtain⟨b,off,spot⟩:=x;have af:=h4 0 (by omega);have ae:spot=none:=by simpa [Addr.add] using World.cell?_spot af
 subst ae
 have aa:∀i,(⟨b,off,none⟩:Addr).add i=⟨b,off+i,none⟩:=by
  intro i;unfold Addr.add;split <;> simp_all
 refine⟨b,off,rfl,?_,?_⟩
 · rw[aa]at af;exact YN w _ af
 intro i hi;rw[Ze,Zq]at hi;rw[←aa,h4 i (by omega),Zs,Ym,Zo (by omega),Zb (by omega)];simp[List.getD,show i<zs.length by omega]
end
end Go.Proofs.YtddbccflcekdpaaGreatDoor
