/- The layer hangul: what each function answers, by walking its text. -/
import Derived.Test.YtdbpjmfflofadaaGreatDoorUtfC
import Derived.Deep.AppendLies
import Derived.RangeFuncRecord
import Derived.Deep.DeepCutAuto
import Derived.Lib.SlicesCompact
set_option maxRecDepth 100000
set_option maxHeartbeats 4000000
set_option linter.unusedVariables false
set_option linter.unusedSimpArgs false
namespace Go.Proofs.YtdbpjmfflofadaaGreatDoor
open Go.Proofs.Tryz
section
open Go.RowKit
theorem Hg.in_any (c a n:Int) (w:World) (h1:0≤a) (h2:0≤n) (h3:a+n≤100000) :
 Calls prog 111 #[.int .i32 c,.int .i32 a,.int .i32 n] w fun e w'=>e=.returned (.bool (decide (a≤c∧c<a+n)))∧w=w':=by
 go_enter func111,ntmps111;go_wp2
 all_goals
  go_ret;exact⟨zCc (by simp;try omega),rfl⟩
def zA2 (c:Int):Int :=
 if 4352≤c∧c<4371 then 1 else if 4449≤c∧c<4470 then 2 else if 4520≤c∧c<4547 then 3
 else if ¬(44032≤c∧c<55204) then 0 else if (c-44032)%28=0 then 4 else 5
theorem Hg.of_any (c:Int) (w:World) (h1 : -2147483648≤c) (h2:c≤2147483647) :
 Calls prog 76 #[.int .i32 c] w fun e w'=>e=.returned (.int .i64 (zA2 c))∧w=w':=by
 go_enter func76,ntmps76;go_wp2
 all_goals
  go_ret;refine⟨zCb ?_,rfl⟩
  try simp only[YV,Xy,YB,JW,Zo,Z2]at *
  unfold zA2;grind
def zAl (c:Int):Int × Int × Bool :=
 if zA2 c=4 then (4352+(c-44032)/588,4449+(c-44032)%588/28,true)
 else if zA2 c=5 then (c-(c-44032)%28,4519+(c-44032)%28,true)
 else (0,0,false)
theorem zAy (c:Int) (h:zA2 c=4∨zA2 c=5):44032≤c∧c<55204:=by
 unfold zA2 at h;grind
theorem zBZ (c:Int) (w:World) (h1 : -2147483648≤c) (h2:c≤2147483647) :
 Calls prog 109 #[.int .i32 c] w fun e w'=>e=.returned (.tuple #[.int .i32 (zAl c).1,.int .i32 (zAl c).2.1,.bool (zAl c).2.2])∧w=w':=by
 by_cases h4:zA2 c=4
 · have hs:=zAy c (.inl h4);obtain⟨ae,af⟩:=hs;have hb:=beq_iff_eq.2 h4;have H4:=hy' h4;clear h4;go_enter func109,ntmps109;go_wp2_with (go_at_call 76;refine (Hg.of_any _ _ h1 h2).mono ?_;rintro e w' ⟨rfl,rfl⟩);go_ret3;refine⟨zH0 ?_,rfl⟩;unfold zAl;rw[Zl H4.o]
 by_cases h5:zA2 c=5
 · have hs:=zAy c (.inr h5);obtain⟨ae,af⟩:=hs;have hb:(zA2 c == 4)=false:=by rw[h5];rfl
   have aa:=beq_iff_eq.2 h5;have H5:=hy' h5;have H4:=hy' h4;clear h4 h5;go_enter func109,ntmps109;go_wp2_with (go_at_call 76;refine (Hg.of_any _ _ h1 h2).mono ?_;rintro e w' ⟨rfl,rfl⟩);go_ret3;refine⟨zH0 ?_,rfl⟩;unfold zAl;rw[Zk H4.o,Zl H5.o]
 have hb:(zA2 c == 4)=false:=beq_eq_false_iff_ne.2 h4;have aa:(zA2 c == 5)=false:=beq_eq_false_iff_ne.2 h5;have H5:=hy' h5;have H4:=hy' h4;clear h4 h5;go_enter func109,ntmps109;go_wp2_with (go_at_call 76;refine (Hg.of_any _ _ h1 h2).mono ?_;rintro e w' ⟨rfl,rfl⟩);go_ret3;refine⟨zH0 ?_,rfl⟩;unfold zAl;rw[Zk H4.o,Zk H5.o]
def zA9 (c:Int):List Int :=
 if zA2 c=4 then [4352+(c-44032)/588,4449+(c-44032)%588/28]
 else if zA2 c=5 then [4352+(c-44032)/588,4449+(c-44032)%588/28,4519+(c-44032)%28]
 else []
theorem zD2 (c:Int) (h1:44032≤c) (h2:c<55204) (h:(c-44032)%28=0):zA2 c=4:=by
 unfold zA2;grind
theorem zAY (c:Int) (h:zA2 c=4):zAl c=(4352+(c-44032)/588,4449+(c-44032)%588/28,true):=by
 unfold zAl;rw[if_pos h]
theorem zBb (c:Int) (h:zA2 c=5):zAl c=(c-(c-44032)%28,4519+(c-44032)%28,true):=by
 unfold zAl;rw[if_neg (by rw[h];decide),if_pos h]
theorem zBR (c:Int) (h4:¬zA2 c=4) (h5:¬zA2 c=5):zAl c=(0,0,false):=by
 unfold zAl;rw[if_neg h4,if_neg h5]
theorem zM9 (c:Int) (h1:44032≤c) (h2:c<55204):zAl (4352+(c-44032)/588)=(0,0,false):=by
 have a:4352≤4352+(c-44032)/588∧4352+(c-44032)/588<4371:=by omega
 refine zBR _ ?_ ?_ <;> unfold zA2 <;> rw[if_pos a] <;> decide
theorem zIL (c:Int) (h1:44032≤c) (h2:c<55204):zAl (c-(c-44032)%28)=(4352+(c-44032)/588,4449+(c-44032)%588/28,true):=by
 rw[zAY _ (zD2 _ (by omega) (by omega) (by omega))];refine QI ?_ (QI ?_ rfl) <;> simp only[] <;> omega
theorem Hg.split_any (c:Int) (w:World) (h1 : -2147483648≤c) (h2:c≤2147483647) :
 Calls prog 72 #[.int .i32 c] w (zD1 .i32 (zA9 c) w):=by
 by_cases h4:zA2 c=4
 · have hs:=zAy c (.inl h4);obtain⟨aa,ae⟩:=hs;have hp:=zAY c h4;have hq:=zM9 c aa ae;have H4:=hy' h4;clear h4;go_enter func72,ntmps72;go_wp2_with (fail);refine (zBZ _ _ h1 h2).mono ?_;rintro e w' ⟨rfl,rfl⟩;rw[hp];clear hp;go_wp2_with (fail);refine (zBZ _ _ (by omega) (by omega)).mono ?_;rintro e w' ⟨rfl,rfl⟩;rw[hq];clear hq;go_wp2;go_ret;unfold zA9;rw[Zl H4.o];exact⟨_,_,rfl,Sl.lit rfl _ _ (ZW _ _),(Zd _ _).alloc (Za _) _⟩
 by_cases h5:zA2 c=5
 · have hs:=zAy c (.inr h5);obtain⟨aa,ae⟩:=hs;have hp:=zBb c h5;have hq:=zIL c aa ae;have H5:=hy' h5;have H4:=hy' h4;clear h4 h5;go_enter func72,ntmps72;go_wp2_with (fail);refine (zBZ _ _ h1 h2).mono ?_;rintro e w' ⟨rfl,rfl⟩;rw[hp];clear hp;go_wp2_with (fail);refine (zBZ _ _ (by omega) (by omega)).mono ?_;rintro e w' ⟨rfl,rfl⟩;rw[hq];clear hq;go_wp2;go_ret;unfold zA9;rw[Zk H4.o,Zl H5.o];exact⟨_,_,rfl,Sl.lit rfl _ _ (ZW _ _),(Zd _ _).alloc (Za _) _⟩
 have hp:=zBR c h4 h5;have H5:=hy' h5;have H4:=hy' h4;clear h4 h5;go_enter func72,ntmps72;go_wp2_with (fail);refine (zBZ _ _ h1 h2).mono ?_;rintro e w' ⟨rfl,rfl⟩;rw[hp];clear hp;go_wp2;go_ret;unfold zA9;rw[Zk H4.o,Zk H5.o];exact⟨_,_,rfl,fun h=>absurd h (by simp),Zd _ _⟩
def Hg.joinK (a b:Int):Int × Bool :=
 if zA2 a=1∧zA2 b=2 then (44032+((a-4352)*21+b-4449)*28,true)
 else if zA2 a=4∧zA2 b=3 then (a+b-4519,true) else (0,false)
theorem zG2 (c:Int) (h:zA2 c=1):4352≤c∧c<4371:=by unfold zA2 at h;grind
theorem zEQ (c:Int) (h:zA2 c=2):4449≤c∧c<4470:=by unfold zA2 at h;grind
theorem zHG (c:Int) (h:zA2 c=3):4520≤c∧c<4547:=by unfold zA2 at h;grind
theorem Hg.join_any (a b:Int) (w:World) (h1 : -2147483648≤a) (h2:a≤2147483647) (h3 : -2147483648≤b) (h4:b≤2147483647) :
 Calls prog 186 #[.int .i32 a,.int .i32 b] w fun e w'=>e=.returned (.tuple #[.int .i32 (Hg.joinK a b).1,.bool (Hg.joinK a b).2])∧w=w':=by
 by_cases ha:zA2 a=1
 · have af:=zG2 a ha;obtain⟨ah,ag⟩:=af;have q1:(zA2 a == 1)=true:=beq_iff_eq.2 ha;have q4:(zA2 a == 4)=false:=by rw[ha];rfl
   by_cases hb:zA2 b=2
   · have ae:=zEQ b hb;obtain⟨ai,aj⟩:=ae;have q2:(zA2 b == 2)=true:=beq_iff_eq.2 hb;have HA:=hy' ha;have HB:=hy' hb;clear ha hb;go_enter func186,ntmps186;go_wp2_with (go_at_call 76;refine (Hg.of_any _ _ (by omega) (by omega)).mono ?_;rintro e w' ⟨rfl,rfl⟩);go_ret2;refine⟨zDR ?_,rfl⟩;unfold Hg.joinK;rw[Zl ⟨HA.o,HB.o⟩]
   have q2:(zA2 b == 2)=false:=beq_eq_false_iff_ne.2 hb;have HA:=hy' ha;have HB:=hy' hb;clear ha hb;go_enter func186,ntmps186;go_wp2_with (go_at_call 76;refine (Hg.of_any _ _ (by omega) (by omega)).mono ?_;rintro e w' ⟨rfl,rfl⟩);go_ret2;refine⟨zDR ?_,rfl⟩;unfold Hg.joinK;rw[Zk (fun h=>HB.o h.2),Zk (fun h=>by have:=HA.o;omega)]
 have q1:(zA2 a == 1)=false:=beq_eq_false_iff_ne.2 ha
 by_cases ha4:zA2 a=4
 · have af:=zAy a (.inl ha4);obtain⟨ah,ag⟩:=af;have q4:(zA2 a == 4)=true:=beq_iff_eq.2 ha4
   by_cases hb:zA2 b=3
   · have ae:=zHG b hb;obtain⟨ai,aj⟩:=ae;have q2:(zA2 b == 3)=true:=beq_iff_eq.2 hb;have HA:=hy' ha;have aa:=hy' ha4;have HB:=hy' hb;clear ha ha4 hb;go_enter func186,ntmps186;go_wp2_with (go_at_call 76;refine (Hg.of_any _ _ (by omega) (by omega)).mono ?_;rintro e w' ⟨rfl,rfl⟩);go_ret2;refine⟨zDR ?_,rfl⟩;unfold Hg.joinK;rw[Zk (fun h=>HA.o h.1),Zl ⟨aa.o,HB.o⟩]
   have q2:(zA2 b == 3)=false:=beq_eq_false_iff_ne.2 hb;have HA:=hy' ha;have aa:=hy' ha4;have HB:=hy' hb;clear ha ha4 hb;go_enter func186,ntmps186;go_wp2_with (go_at_call 76;refine (Hg.of_any _ _ (by omega) (by omega)).mono ?_;rintro e w' ⟨rfl,rfl⟩);go_ret2;refine⟨zDR ?_,rfl⟩;unfold Hg.joinK;rw[Zk (fun h=>HA.o h.1),Zk (fun h=>HB.o h.2)]
 have q4:(zA2 a == 4)=false:=beq_eq_false_iff_ne.2 ha4;have HA:=hy' ha;have aa:=hy' ha4;clear ha ha4;go_enter func186,ntmps186;go_wp2_with (go_at_call 76;refine (Hg.of_any _ _ (by omega) (by omega)).mono ?_;rintro e w' ⟨rfl,rfl⟩);go_ret2;refine⟨zDR ?_,rfl⟩;unfold Hg.joinK;rw[Zk (fun h=>HA.o h.1),Zk (fun h=>aa.o h.1)]
theorem zG3 (c:Int) (w:World) (h1 : -2147483648≤c) (h2:c≤2147483647) :
 Calls prog 107 #[.int .i64 c] w fun e w'=>e=.returned (.int .i64 (zA2 c))∧w=w':=by
 go_enter func107,ntmps107;go_wp2
 all_goals
  go_ret;refine⟨zCb ?_,rfl⟩
  try simp only[YV,Xy,YB,JW,Zo,Z2]at *
  unfold zA2;grind
theorem zHH (
 c:Int) (w:World) (h1 : -2147483648≤c) (h2:c≤2147483647) :
 Calls prog 144 #[.int .i64 c] w (zD1 .i64 (zA9 c) w):=by
 go_enter func144,ntmps144;go_wp2;go_loop [3,4] (fun n l=>∃k:Int,0≤k∧k≤19∧n=.int .i64 (44032+588*k)∧l=.int .i64 (4352+k)∧(k=0∨44032+588*k≤c)) (fun _ l=>(5000-intOf l).toNat)
 case atStart=>exact⟨0,by omega,by omega,rfl,rfl,.inl rfl⟩
 obtain⟨k,ae,af,rfl,rfl,hk⟩:=hrel
 by_cases hl:4352+k≤4370
 rotate_left
 · have HS:Hy (zA9 c=[]):=by
    show zA9 c=[];have:¬(44032≤c∧c<55204):=by omega
    unfold zA9;rw[Zk (fun h=>this (zAy c (.inl h))),Zk (fun h=>this (zAy c (.inr h)))]
   go_wp2;go_ret;rw[HS.o];exact⟨_,_,rfl,fun h=>absurd h (by simp),Zd _ _⟩
 by_cases hc:44032+588*k+588≤c
 · go_wp2;exact⟨⟨k+1,by omega,by omega,by go_num,by go_num,.inr (by omega)⟩,by simp[intOf];omega⟩
 go_wp2;go_loop [3,5] (fun n v=>∃j:Int,0≤j∧j≤21∧n=.int .i64 (44032+588*k+28*j)∧v=.int .i64 (4449+j)∧(j=0∨44032+588*k+28*j≤c)) (fun _ v=>(5000-intOf v).toNat)
 case atStart=>exact⟨0,by omega,by omega,by go_num,rfl,.inl rfl⟩
 obtain⟨j,hj0,aa,rfl,rfl,hj⟩:=hrel
 by_cases hv:4449+j≤4469
 rotate_left
 · omega
 by_cases hd:44032+588*k+28*j+28≤c
 · go_wp2;exact⟨⟨j+1,by omega,by omega,by go_num,by go_num,.inr (by omega)⟩,by simp[intOf];omega⟩
 by_cases he:c=44032+588*k+28*j
 · have hb:(c == 44032+588*k+28*j)=true:=beq_iff_eq.2 he;have H4:=zD2 c (by omega) (by omega) (by omega)
   have HS:Hy (zA9 c=[4352+k,4449+j]):=by
    show zA9 c=[4352+k,4449+j];unfold zA9;rw[Zl H4,show (c-44032)/588=k from by omega,show (c-44032)%588/28=j from by omega]
   clear H4;have HE:=hy' he;clear he;go_wp2;go_ret;rw[HS.o];exact⟨_,_,rfl,Sl.lit rfl _ _ (ZW _ _),(Zd _ _).alloc (Za _) _⟩
 have hb:(c == 44032+588*k+28*j)=false:=beq_eq_false_iff_ne.2 he
 by_cases hg:44032+588*k+28*j<c
 · have H5:zA2 c=5:=by unfold zA2;grind
   have HS:Hy (zA9 c=[4352+k,4449+j,4519+c-(44032+588*k+28*j)]):=by
    show zA9 c=[4352+k,4449+j,4519+c-(44032+588*k+28*j)];unfold zA9
    rw[Zk (by rw[H5];decide),Zl H5,show (c-44032)/588=k from by omega,show (c-44032)%588/28=j from by omega,
     show 4519+(c-44032)%28=4519+c-(44032+588*k+28*j) from by omega]
   clear H5;go_wp2;go_ret;rw[HS.o];exact⟨_,_,rfl,Sl.lit rfl _ _ (ZW _ _),(Zd _ _).alloc (Za _) _⟩
 have HS:Hy (zA9 c=[]):=by
  show zA9 c=[];have:¬(44032≤c∧c<55204):=by omega
  unfold zA9;rw[Zk (fun h=>this (zAy c (.inl h))),Zk (fun h=>this (zAy c (.inr h)))]
 go_wp2;go_ret;rw[HS.o];exact⟨_,_,rfl,fun h=>absurd h (by simp),Zd _ _⟩
end
def Md.one (mp:Int→List Int) (c:Int):List Int:=if mp c=[] then [c] else mp c
def Md.step (mp:Int→List Int) (L:List Int):List Int:=L.flatMap (Md.one mp)
def Md.plain (mp:Int→List Int) (L:List Int):Bool:=L.all fun c=>(mp c).isEmpty
def zEe (mp:Int→List Int):Nat→List Int→Option (List Int)
 | 0,_=>none
 | k+1,L=>if Md.plain mp L=true then some L else if (Md.step mp L).length > 32 then none else zEe mp k (Md.step mp L)
def zER (out:List Int) (c:Int):Option (List Int):=if out.length<32 then some (out++[c]) else none
def zBH (f:List Int→Int→Option (List Int)):List Int→List Int→Option (List Int)
 | out,[]=>some out
 | out,d::r=>(f out d).bind fun o=>zBH f o r
def zBV (mp:Int→List Int):Nat→List Int→Int→Option (List Int)
 | 0,out,c=>if mp c=[] then zER out c else none
 | k+1,out,c=>if mp c=[] then zER out c else zBH (zBV mp k) out (mp c)
def zAD (f:Int→Option (List Int)):List Int→Option (List Int)
 | []=>some []
 | d::r=>(f d).bind fun a=>(zAD f r).map (a ++ ·)
def Md.lv (mp:Int→List Int):Nat→Int→Option (List Int)
 | 0,c=>if mp c=[] then some [c] else none
 | k+1,c=>if mp c=[] then some [c] else zAD (Md.lv mp k) (mp c)
def zC6 (out:List Int) (l:List Int):Option (List Int):=if out.length+l.length≤32 then some (out++l) else none
theorem zFp {f:Int→Option (List Int)} (hf:∀c l,f c=some l→1≤l.length):∀(L l:List Int),zAD f L=some l→L.length≤l.length
 | [],l,_=>Zq _
 | d::r,l,h=>by
   unfold zAD at h;cases hd:f d with
   | none=>rw[hd]at h;cases h
   | some a =>
     rw[hd,Zv]at h;cases hr:zAD f r with
     | none=>rw[hr]at h;cases h
     | some b =>
       rw[hr,Zw]at h;cases h
       have h1:=hf d a hd;have h2:=zFp hf r b hr;simp;omega
theorem zGw (mp:Int→List Int):∀(k:Nat) (c:Int) (l:List Int),Md.lv mp k c=some l→1≤l.length
 | 0,c,l,h=>by
   unfold Md.lv at h;split at h
   · cases h;simp
   cases h
 | k+1,c,l,h=>by
   unfold Md.lv at h;split at h
   · cases h;simp
   rename_i hne;have:=zFp (zGw mp k) _ _ h
   have h2:1≤(mp c).length:=by
    cases hm:mp c with
    | nil=>exact absurd hm hne
    | cons a b=>simp
   omega
theorem zPw (mp:Int→List Int) {c:Int} (k:Nat) {l:List Int} (h:Md.lv mp k c=some l) (hc:mp c≠[]):(mp c).length≤l.length:=by
 cases k with
 | zero=>unfold Md.lv at h;rw[if_neg hc]at h;cases h
 | succ k=>unfold Md.lv at h;rw[if_neg hc]at h;exact zFp (zGw mp k) _ _ h
theorem zKa {f:List Int→Int→Option (List Int)} {g:Int→Option (List Int)} (hf:∀out c,out.length≤32→f out c=(g c).bind (zC6 out)) :
 ∀(L out:List Int),out.length≤32→zBH f out L=(zAD g L).bind (zC6 out)
 | [],out,ho=>by
   unfold zBH zAD zC6;simp[ho]
 | d::r,out,ho=>by
   unfold zBH zAD;rw[hf out d ho];cases hd:g d with
   | none=>rfl
   | some a =>
     rw[Zv,Zv]
     by_cases h1:out.length+a.length≤32
     · rw[show zC6 out a=some (out++a) by unfold zC6;rw[if_pos h1],Option.bind_some,zKa hf r (out++a) (by simpa using h1)];cases hr:zAD g r with
       | none=>rfl
       | some b =>
         rw[Zv,Zw,Zv];unfold zC6;simp[Yi]
     rw[show zC6 out a=none by unfold zC6;rw[if_neg h1],Option.bind_none];cases hr:zAD g r with
     | none=>rfl
     | some b =>
       rw[Zw,Zv];unfold zC6;rw[Zk (by simp;omega)]
theorem zIM (out:List Int) (c:Int):zER out c=zC6 out [c]:=by
 unfold zER zC6
 by_cases h:out.length<32
 · rw[Zl h,Zl (by simp;omega)]
 rw[Zk h,Zk (by simp;omega)]
theorem zBI (mp:Int→List Int):∀(k:Nat) (out:List Int) (c:Int),out.length≤32→zBV mp k out c=(Md.lv mp k c).bind (zC6 out)
 | 0,out,c,ho=>by
   unfold zBV Md.lv
   by_cases h:mp c=[]
   · rw[Zl h,Zl h,zIM];rfl
   rw[Zk h,Zk h];rfl
 | k+1,out,c,ho=>by
   unfold zBV Md.lv
   by_cases h:mp c=[]
   · rw[Zl h,Zl h,zIM];rfl
   rw[Zk h,Zk h];exact zKa (fun o d hd=>zBI mp k o d hd) _ _ ho
theorem zKb (f:Int→Option (List Int)):∀(a b:List Int),zAD f (a++b)=(zAD f a).bind fun x=>(zAD f b).map (x ++ ·)
 | [],b=>by simp[zAD]
 | d::r,b=>by
   rw[ZN,zAD,zAD,zKb f r b];cases f d with
   | none=>rfl
   | some x =>
     cases zAD f r with
     | none=>rfl
     | some y =>
       cases zAD f b with
       | none=>rfl
       | some z=>simp
theorem zBJ (mp:Int→List Int) (k:Nat) {c:Int} (h:mp c=[]):Md.lv mp k c=some [c]:=by
 cases k with
 | zero=>unfold Md.lv;rw[if_pos h]
 | succ k=>unfold Md.lv;rw[if_pos h]
theorem zQS (mp:Int→List Int) (k:Nat) (c:Int):Md.lv mp (k+1) c=zAD (Md.lv mp k) (Md.one mp c):=by
 unfold Md.one
 by_cases h:mp c=[]
 · rw[Zl h,zBJ mp _ h,zAD,zBJ mp _ h];rfl
 rw[Zk h,Md.lv,Zk h]
theorem zIN (mp:Int→List Int) (k:Nat):∀(L:List Int),zAD (Md.lv mp (k+1)) L=zAD (Md.lv mp k) (Md.step mp L)
 | []=>rfl
 | d::r=>by
   have e:Md.step mp (d::r)=Md.one mp d++Md.step mp r:=by simp[Md.step]
   rw[e,zKb,zAD,zIN mp k r,zQS]
theorem zES (mp:Int→List Int) (k:Nat):∀(L:List Int),Md.plain mp L=true→zAD (Md.lv mp k) L=some L
 | [],_=>rfl
 | d::r,h=>by
   unfold Md.plain at h;rw[List.all_cons,Zr,List.isEmpty_iff]at h;rw[zAD,zBJ mp k h.1,zES mp k r (by unfold Md.plain;exact h.2)];rfl
theorem zIO (mp:Int→List Int):∀(L:List Int),Md.plain mp L≠true→zAD (Md.lv mp 0) L=none
 | [],h=>absurd rfl h
 | d::r,h=>by
   rw[zAD]
   by_cases hd:mp d=[]
   · have:Md.plain mp r≠true:=fun hr=>h (by unfold Md.plain at hr ⊢;rw[List.all_cons,hr,hd];rfl)
     rw[zIO mp r this];cases Md.lv mp 0 d <;> rfl
   rw[Md.lv,Zk hd];rfl
theorem zMa (mp:Int→List Int):∀(k:Nat) (L:List Int),L.length≤32→zEe mp (k+1) L=(zAD (Md.lv mp k) L).bind (zC6 [])
 | 0,L,hL=>by
   rw[zEe]
   by_cases h:Md.plain mp L=true
   · rw[Zl h,zES mp 0 L h,Zv];unfold zC6;simp[hL]
   rw[Zk h,zIO mp L h];split <;> rfl
 | k+1,L,hL=>by
   rw[zEe]
   by_cases h:Md.plain mp L=true
   · rw[Zl h,zES mp _ L h,Zv];unfold zC6;simp[hL]
   rw[Zk h,zIN]
   by_cases h2:(Md.step mp L).length > 32
   · rw[Zl h2];cases hl:zAD (Md.lv mp k) (Md.step mp L) with
     | none=>rfl
     | some l =>
       have:=zFp (zGw mp k) _ _ hl;rw[Zv];unfold zC6;rw[Zk (by simp;omega)]
   rw[Zk h2,zMa mp k _ (by omega)]
theorem zPx (mp:Int→List Int) (k:Nat) (c:Int):zEe mp (k+1) [c]=zBV mp k [] c:=by
 rw[zMa mp k [c] (by simp),zBI mp k [] c (by simp),zAD];cases Md.lv mp k c with
 | none=>rfl
 | some a=>simp[zAD]
theorem zIP {mp:Int→List Int} {f:Int→Option (List Int)} (hf:∀c l,f c=some l→∀d∈l,mp d=[]):∀(L l:List Int),zAD f L=some l→∀d∈l,mp d=[]
 | [],l,h,d,hd=>by cases h;cases hd
 | e::r,l,h,d,hd=>by
   unfold zAD at h;cases he:f e with
   | none=>rw[he]at h;cases h
   | some a =>
     rw[he,Zv]at h;cases hr:zAD f r with
     | none=>rw[hr]at h;cases h
     | some b =>
       rw[hr,Zw]at h;cases h
       rcases List.mem_append.1 hd with h1|h1
       · exact hf e a he d h1
       exact zIP hf r b hr d h1
theorem zKc (mp:Int→List Int):∀(k:Nat) (c:Int) (l:List Int),Md.lv mp k c=some l→∀d∈l,mp d=[]
 | 0,c,l,h,d,hd=>by
   unfold Md.lv at h;split at h
   · rename_i hc;cases h
     rw[ZE]at hd;rw[hd];exact hc
   cases h
 | k+1,c,l,h,d,hd=>by
   unfold Md.lv at h;split at h
   · rename_i hc;cases h
     rw[ZE]at hd;rw[hd];exact hc
   exact zIP (zKc mp k) _ _ h d hd
theorem zNH {mp:Int→List Int} {k:Nat} {c:Int} {l:List Int} (h:zBV mp k [] c=some l):(∀d∈l,mp d=[])∧1≤l.length∧(mp c).length≤l.length∧l.length≤32:=by
 rw[zBI mp k [] c (by simp)]at h;cases hl:Md.lv mp k c with
 | none=>rw[hl]at h;cases h
 | some a =>
   rw[hl,Zv]at h;unfold zC6 at h;split at h
   · rename_i hle;cases h
     rw[ZV];refine⟨zKc mp k c a hl,zGw mp k c a hl,?_,by simpa using hle⟩
     by_cases hc:mp c=[]
     · rw[hc];exact Zq _
     exact zPw mp k hl hc
   cases h
theorem zET {mp:Int→List Int} (k:Nat) {c:Int} (h:mp c=[]):zBV mp k [] c=some [c]:=by
 rw[zBI mp k [] c (by simp),zBJ mp k h];rfl
def C.srt (l:List Int):Prop:=l.Pairwise (· < ·)
def C.mem:List Int→Int→Bool
 | [],_=>false
 | x::l,c=>decide (x≤c)&&!C.mem l c
theorem C.mem_cons (x:Int) (l:List Int) (c:Int):C.mem (x::l) c=(decide (x≤c)&&!C.mem l c):=rfl
theorem zQT {l:List Int} {c:Int} (h:∀y∈l,c<y):C.mem l c=false:=by
 cases l with
 | nil=>rfl
 | cons x l=>rw[C.mem_cons,Zp (by have:=h x (by simp);omega)];rfl
theorem zAH {x:Int} {l:List Int} (h:C.srt (x::l)):C.srt l:=(List.pairwise_cons.1 h).2
theorem zBC {x:Int} {l:List Int} (h:C.srt (x::l)):∀y∈l,x<y:=(List.pairwise_cons.1 h).1
theorem zBm {x:Int} {l:List Int} (h:C.srt (x::l)) {c:Int} (hc:c≤x):C.mem l c=false :=
 zQT fun y hy=>by have:=zBC h y hy;omega
theorem zQU:∀(l l':List Int),C.srt l→C.srt l'→(∀c,C.mem l c=C.mem l' c)→l=l'
 | [],[],_,_,_=>rfl
 | [],x::l',_,h',h=>by
   have:=h x;rw[C.mem_cons,zBm h' (Xs _)]at this;simp[C.mem]at this
 | x::l,[],h1,_,h=>by
   have:=h x;rw[C.mem_cons,zBm h1 (Xs _)]at this;simp[C.mem]at this
 | x::l,y::l',h1,h2,h=>by
   have hx:=h x;have hy:=h y;rw[C.mem_cons,C.mem_cons,zBm h1 (Xs _)]at hx;rw[C.mem_cons,C.mem_cons,zBm h2 (Xs _)]at hy
   have e:x=y:=by
    rcases J5 x y with aa|he|hgt
    · rw[Zp (show ¬y≤x by omega)]at hx;simp at hx
    · exact he
    rw[Zp (show ¬x≤y by omega)]at hy;simp at hy
   subst e;rw[zQU l l' (zAH h1) (zAH h2)];intro c
   by_cases hc:x≤c
   · have:=h c;rw[C.mem_cons,C.mem_cons,Zs hc]at this;simpa using this
   rw[zBm h1 (by omega),zBm h2 (by omega)]
def C.ok (l:List Int):Prop:=C.srt l∧(∀x∈l,0≤x∧x≤1114112)∧l.length%2=0
def zAN:List Int→List (Int × Int)
 | x::y::t=>(x,y-1)::zAN t
 | _=>[]
def C.count:List Int→Int
 | x::y::t=>y-x+C.count t
 | _=>0
def C.idx:List Int→Int→Int
 | x::y::t,c=>(if x<c then min c y-x else 0)+C.idx t c
 | _,_=>0
def zPy (p:Int→Bool):Nat→Nat
 | 0=>0
 | n+1=>zPy p n+(if p n then 1 else 0)
theorem zKd (p:Int→Bool) (n:Nat):zPy p (n+1)=zPy p n+(if p n then 1 else 0):=rfl
theorem zKe:∀(l:List Int),C.srt l→l.length%2=0→∀c:Int,C.idx l (c+1)=C.idx l c+(if C.mem l c then 1 else 0)
 | [],_,_,_=>rfl
 | [x],_,h,_=>by simp at h
 | x::y::t,hs,hl,c=>by
   have ht:=zAH (zAH hs);have aa:=zBC hs y (by simp);have ih:=zKe t ht (by simp at hl;omega) c;show (if x<c+1 then min (c+1) y-x else 0)+C.idx t (c+1)=(if x<c then min c y-x else 0)+C.idx t c+_;rw[ih,C.mem_cons,C.mem_cons]
   by_cases h1:x≤c
   rotate_left
   · have hm:C.mem t c=false:=zBm (zAH hs) (by omega);rw[Zp h1,hm,Zk (show ¬x<c+1 by omega),Zk (show ¬x<c by omega)];simp
   by_cases h2:y≤c
   · rw[Zs h1,Zs h2];rw[Zl (show x<c+1 by omega)]
     by_cases h3:x<c
     · rw[Zl h3];simp only[Xc,Bool.not_not];omega
     omega
   have hm:C.mem t c=false:=zBm (zAH hs) (by omega);rw[Zs h1,Zp h2,hm,Zl (show x<c+1 by omega)]
   by_cases h3:x<c
   · rw[Zl h3];simp;omega
   rw[Zk h3];simp;omega
theorem zMb:∀(l:List Int) (c:Int),(∀x∈l,c≤x)→C.idx l c=0
 | [],_,_=>rfl
 | [x],_,_=>rfl
 | x::y::t,c,h=>by
   show (if x<c then min c y-x else 0)+C.idx t c=0;rw[Zk (by have:=h x (by simp);omega),zMb t c (fun z hz=>h z (by simp[hz]))];rfl
theorem zQV {l:List Int} (h:C.ok l) (n:Nat):C.idx l (n:Int)=zPy (C.mem l) n:=by
 induction n with
 | zero=>exact zMb l 0 (fun x hx=>(h.2.1 x hx).1)
 | succ n ih =>
   rw[show ((n+1:Nat):Int)=(n:Int)+1 by omega,zKe l h.1 h.2.2,ih,zKd];split <;> simp
theorem zIQ:∀(l:List Int) (c:Int),C.srt l→(∀x∈l,x≤c)→C.idx l c=C.count l
 | [],_,_,_=>rfl
 | [x],_,_,_=>rfl
 | x::y::t,c,hs,h=>by
   have aa:=zBC hs y (by simp);have hy:=h y (by simp);show (if x<c then min c y-x else 0)+C.idx t c=y-x+C.count t;rw[Zl (by omega),zIQ t c (zAH (zAH hs)) (fun z hz=>h z (by simp[hz]))];omega
theorem zNI {l:List Int} (h:C.ok l):C.count l=zPy (C.mem l) 1114112:=by
 rw[←zQV h];exact (zIQ l _ h.1 (fun x hx=>(h.2.1 x hx).2)).symm
theorem zSe (p:Int→Bool) (n:Nat):zPy p n≤n:=by
 induction n with
 | zero=>exact Za _
 | succ n ih=>rw[zKd];split <;> omega
theorem zKf {l:List Int} (h:C.ok l):0≤C.count l∧C.count l≤1114112:=by
 rw[zNI h];have:=zSe (C.mem l) 1114112;omega
theorem zH3:∀l:List Int,(zAN l).length=l.length/2
 | []=>rfl
 | [x]=>by simp[zAN]
 | x::y::t=>by
   show (zAN t).length+1=(t.length+1+1)/2;rw[zH3 t];omega
theorem zKg:∀(l:List Int) (k:Nat) (hk:2*k+1<l.length),(zAN l)[k]?=some (l[2*k]'(by omega),l[2*k+1]'hk-1)
 | [],k,hk=>by simp at hk
 | [x],k,hk=>by simp at hk
 | x::y::t,0,hk=>rfl
 | x::y::t,k+1,hk=>by
   have:=zKg t k (by simp at hk;omega);show (zAN t)[k]?=_;rw[this];simp only[show 2*(k+1)=2*k+1+1 by omega,show 2*(k+1)+1=(2*k+1)+1+1 by omega,List.getElem_cons_succ]
def C.isC (c:Int):Bool:=decide (0≤c∧c≤1114111∧(c<55296∨57343<c))
abbrev Rw.Row:=Int × Int × List Int
def Md.find (T:List Rw.Row) (c:Int):Option Rw.Row:=T.find? fun r=>decide (r.1=c)
def Md.cls (T:List Rw.Row) (c:Int):Int:=((Md.find T c).map fun r=>r.2.1).getD 0
def zB3 (T:List Rw.Row) (c:Int):List Int:=((Md.find T c).map fun r=>r.2.2).getD []
def Md.mp (T:List Rw.Row) (c:Int):List Int:=if (zAl c).2.2=true then [(zAl c).1,(zAl c).2.1] else zB3 T c
def Md.full (T:List Rw.Row) (c:Int):Option (List Int):=zBV (Md.mp T) (T.length+3) [] c
def zAf (T:List Rw.Row) (X:Int→Bool) (r:Rw.Row):Bool:=decide (r.2.1=0)&&(decide (r.2.2.length=2)&&(decide (Md.cls T (r.2.2.headD 0)=0)&&!X r.1))
def zAt (T:List Rw.Row) (X:Int→Bool) (c:Int):Bool:=(zAl c).2.2||((Md.find T c).map (zAf T X)).getD false
def Md.bad (last:Int) (r:Rw.Row):Nat :=
 if (!C.isC r.1||decide (r.1≤last)||decide (r.2.1<0)||decide (254<r.2.1)||decide (2<r.2.2.length))=true then 1
 else if ((r.1::r.2.2).any fun c=>decide (zA2 c≠0))=true then 2
 else if (r.2.2.any fun c=>!C.isC c)=true then 3 else 0
def zAz:Int→List Rw.Row→Nat
 | _,[]=>0
 | last,r::l=>if Md.bad last r=0 then zAz r.1 l else Md.bad last r
def zBn (T:List Rw.Row):Bool:=T.any fun r=>(Md.full T r.1).isNone
def zBF (T:List Rw.Row) (X:Int→Bool):List (List Int)→List Rw.Row→Bool
 | _,[]=>false
 | seen,r::l=>if zAf T X r=true then (seen.contains r.2.2||zBF T X (seen++[r.2.2]) l) else zBF T X seen l
def Md.chk (T:List Rw.Row) (X:Int→Bool):Nat :=
 if zAz (-1) T≠0 then zAz (-1) T else if zBn T=true then 4 else if zBF T X [] T=true then 5 else 0
theorem zQW (last:Int) (r:Rw.Row):Md.bad last r≤3:=by
 unfold Md.bad
 repeat' split
 all_goals omega
def Md.good (r:Rw.Row):Prop:=C.isC r.1=true∧0≤r.2.1∧r.2.1≤254∧r.2.2.length≤2∧zA2 r.1=0∧∀c∈r.2.2,C.isC c=true∧zA2 c=0
theorem zNJ {last:Int} {r:Rw.Row} (h:Md.bad last r=0):Md.good r∧last<r.1:=by
 unfold Md.bad at h;split at h
 · cases h
 rename_i h1;split at h
 · cases h
 rename_i h2;split at h
 · cases h
 rename_i h3;simp only[XM,YB,Zo,not_or,J6,Int.not_le,Int.not_lt,Nat.not_lt]at h1;obtain⟨⟨⟨⟨a1,a2⟩,a3⟩,a4⟩,a5⟩:=h1;simp only[YG,Zo,not_exists,not_and,Decidable.not_not]at h2;simp only[YG,YB,not_exists,not_and,J6]at h3;exact⟨⟨a1,a3,a4,a5,h2 r.1 ZI,fun c hc=>⟨h3 c hc,h2 c (ZT _ hc)⟩⟩,a2⟩
def Md.rises (T:List Rw.Row):Prop:=T.Pairwise fun r q=>r.1<q.1
theorem zCd:∀(l:List Rw.Row) (last:Int),zAz last l=0→(∀r∈l,Md.good r∧last<r.1)∧Md.rises l
 | [],_,_=>⟨fun r hr=>absurd hr Xa,List.Pairwise.nil⟩
 | r::l,last,h=>by
   unfold zAz at h
   by_cases hb:Md.bad last r=0
   · rw[Zl hb]at h;obtain⟨h1,h2⟩:=zNJ hb;obtain⟨h3,h4⟩:=zCd l r.1 h;refine⟨fun q hq=>?_,List.Pairwise.cons (fun q hq=>(h3 q hq).2) h4⟩;rcases List.mem_cons.1 hq with rfl|hq
     · exact⟨h1,h2⟩
     exact⟨(h3 q hq).1,by have:=(h3 q hq).2;omega⟩
   rw[Zk hb]at h;exact absurd h hb
theorem zDr {T:List Rw.Row} (h:Md.rises T) {i j:Nat} {r q:Rw.Row} (hi:T[i]?=some r) (hj:T[j]?=some q) (hij:i<j):r.1<q.1:=by
 obtain⟨a1,rfl⟩:=List.getElem?_eq_some_iff.1 hi;obtain⟨a2,rfl⟩:=List.getElem?_eq_some_iff.1 hj;exact List.pairwise_iff_getElem.1 h i j a1 a2 hij
theorem zBK {T:List Rw.Row} (h:Md.rises T) {r:Rw.Row} (hr:r∈T):Md.find T r.1=some r:=by
 induction T with
 | nil=>cases hr
 | cons q l ih =>
   unfold Md.rises at h;rw[QJ]at h;unfold Md.find;rw[Jo];rcases List.mem_cons.1 hr with rfl|hr
   · simp
   rw[Zp (by have:=h.1 r hr;omega)];exact ih h.2 hr
theorem zPz {T:List Rw.Row} (h:Md.rises T) {i:Nat} {r:Rw.Row} (hi:T[i]?=some r):Md.find T r.1=some r:=zBK h (Zj hi)
theorem zDs {T:List Rw.Row} {c:Int} (h:∀r∈T,r.1≠c):Md.find T c=none:=by
 unfold Md.find;rw[JX];intro r hr;simpa using h r hr
theorem zAx {T:List Rw.Row} {c:Int} {r:Rw.Row} (h:Md.find T c=some r):r∈T∧r.1=c:=by
 unfold Md.find at h;exact⟨List.mem_of_find?_eq_some h,by simpa using List.find?_some h⟩
theorem zNK {T:List Rw.Row} (h:Md.rises T) (c:Int) (i:Nat) (h1:∀t r,t<i→T[t]?=some r→r.1<c) (h2:∀t r,i≤t→T[t]?=some r→c≤r.1) :
 Md.find T c=(T[i]?).bind fun r=>if r.1=c then some r else none:=by
 cases hi:T[i]? with
 | none =>
   refine zDs fun r hr=>?_
   obtain⟨t,ht⟩:=List.mem_iff_getElem?.1 hr;have hlen:=List.getElem?_eq_none_iff.1 hi;obtain⟨a1,_⟩:=List.getElem?_eq_some_iff.1 ht;have:=h1 t r (by omega) ht;omega
 | some r =>
   rw[Zv]
   by_cases hc:r.1=c
   · rw[Zl hc,←hc,zPz h hi]
   rw[Zk hc];refine zDs fun q hq=>?_
   obtain⟨t,ht⟩:=List.mem_iff_getElem?.1 hq;have:=h2 i r (Za _) hi
   by_cases a:t<i
   · have:=h1 t q a ht;omega
   by_cases b:t=i
   · subst b;rw[hi]at ht;cases ht;exact hc
   have:=zDr h hi ht (by omega);omega
theorem zNL (c:Int):0≤(zAl c).1∧(zAl c).1≤60000∧0≤(zAl c).2.1∧(zAl c).2.1≤60000:=by
 have key:zA2 c=4∨zA2 c=5→44032≤c∧c<55204:=by
  unfold zA2;grind
 unfold zAl;split
 · rename_i h;have:=key (.inl h);simp only;omega
 split
 · rename_i h;have:=key (.inr h);simp only;omega
 simp
def Md.bd (T:List Rw.Row):Prop:=∀r∈T,(-2147483648≤r.1∧r.1≤2147483647)∧∀c∈r.2.2,-2147483648≤c∧c≤2147483647
theorem zIz {T:List Rw.Row} (h:Md.bd T) (c:Int):∀d∈Md.mp T c,-2147483648≤d∧d≤2147483647:=by
 intro d hd;unfold Md.mp at hd;split at hd
 · have:=zNL c;simp only[XP,Xa,J7]at hd;rcases hd with rfl|rfl <;> omega
 unfold zB3 at hd;cases hf:Md.find T c with
 | none=>rw[hf]at hd;cases hd
 | some r =>
   rw[hf]at hd;exact (h r (zAx hf).1).2 d hd
theorem zGx {c:Int} (h:zA2 c=0):(zAl c).2.2=false:=by
 unfold zAl;rw[Zk (by omega),Zk (by omega)]
theorem zD3 {T:List Rw.Row} {X:Int→Bool} (hr:Md.rises T) {r:Rw.Row} (hm:r∈T) (hg:Md.good r):zAt T X r.1=zAf T X r:=by
 unfold zAt;rw[zGx hg.2.2.2.2.1,zBK hr hm,Y3];rfl
theorem zQX {T:List Rw.Row} (hr:Md.rises T) {r:Rw.Row} (hm:r∈T) (hg:Md.good r):Md.mp T r.1=r.2.2:=by
 unfold Md.mp zB3;rw[zGx hg.2.2.2.2.1,Zk (by simp),zBK hr hm];rfl
theorem zPA {T:List Rw.Row} (hr:Md.rises T) {r:Rw.Row} (hm:r∈T):Md.cls T r.1=r.2.1:=by
 unfold Md.cls;rw[zBK hr hm];rfl
def Md.ahead (T:List Rw.Row) (X:Int→Bool) (pre:List Rw.Row) (r:Rw.Row):Bool:=pre.any fun q=>zAf T X r&&(zAf T X q&&decide (q.2.2=r.2.2))
def zB5 (T:List Rw.Row) (X:Int→Bool):List Rw.Row→List Rw.Row→Bool
 | _,[]=>false
 | pre,r::l=>Md.ahead T X pre r||zB5 T X (pre++[r]) l
theorem zH4 {α β:Type} [BEq β] [LawfulBEq β] (p:α→Bool) (f:α→β) (y:β):∀(l:List α),((l.filter p).map f).contains y=l.any fun q=>p q&&(f q == y)
 | []=>rfl
 | q::l=>by
   rw[YW,Kz]
   by_cases h:p q=true
   · rw[Zl h,ZU,List.contains_cons,zH4 p f y l,h,Xc];congr 1;exact Bool.eq_iff_iff.2 ⟨fun e=>by simp at e;simp[e],fun e=>by simp at e;simp[e]⟩
   rw[Zk h,zH4 p f y l];simp[h]
theorem zDt (T:List Rw.Row) (X:Int→Bool):∀(l pre:List Rw.Row),zBF T X ((pre.filter (zAf T X)).map fun r=>r.2.2) l=zB5 T X pre l
 | [],_=>rfl
 | r::l,pre=>by
   rw[zBF,zB5]
   by_cases hc:zAf T X r=true
   · have e:((pre.filter (zAf T X)).map fun r=>r.2.2)++[r.2.2]=(((pre++[r]).filter (zAf T X)).map fun r=>r.2.2):=by
      rw[YL,ZL,YW,Zl hc];rfl
     rw[Zl hc,e,zDt T X l (pre++[r]),zH4];congr 1;unfold Md.ahead;congr 1;funext q
     rw[hc,Xc];congr 1;exact Bool.eq_iff_iff.2 (by simp)
   have e:((pre.filter (zAf T X)).map fun r=>r.2.2)=(((pre++[r]).filter (zAf T X)).map fun r=>r.2.2):=by
    rw[YL,YW,Zk hc];simp
   rw[Zk hc,e,zDt T X l (pre++[r])]
   have:Md.ahead T X pre r=false:=by
    unfold Md.ahead;rw[XT];intro q _;simp[hc]
   rw[this,Y3]
theorem zEf {T:List Rw.Row} {X:Int→Bool} (h:Md.chk T X=0):(∀r∈T,Md.good r)∧Md.rises T∧(∀r∈T,∃l,Md.full T r.1=some l)∧zBF T X [] T=false:=by
 unfold Md.chk at h
 by_cases h1:zAz (-1) T=0
 rotate_left
 · rw[Zl h1]at h;exact absurd h h1
 rw[Zk (by simp[h1])]at h;obtain⟨g1,g2⟩:=zCd T (-1) h1;cases h2:zBn T with
 | true=>rw[Zl h2]at h;cases h
 | false =>
   rw[Zk (by simp[h2])]at h;refine⟨fun r hr=>(g1 r hr).1,g2,fun r hr=>?_,?_⟩
   · unfold zBn at h2;have:=List.any_eq_false.1 h2 r hr;cases hf:Md.full T r.1 with
     | none=>simp[hf]at this
     | some l=>exact⟨l,rfl⟩
   cases h3:zBF T X [] T with
   | true=>rw[Zl h3]at h;cases h
   | false=>rfl
theorem zNM {T:List Rw.Row} (h:∀r∈T,Md.good r) {x:Int} (hx:zA2 x≠0):zB3 T x=[]:=by
 unfold zB3;rw[zDs fun r hr he=>hx (by rw[←he];exact (h r hr).2.2.2.2.1)];rfl
theorem zBD {T:List Rw.Row} (h:∀r∈T,Md.good r) {x:Int} (hx:zA2 x=1∨zA2 x=2∨zA2 x=3):Md.mp T x=[]:=by
 unfold Md.mp;rw[zBR x (by omega) (by omega)];simp only[ZF,Ye];exact zNM h (by omega)
theorem zGy (mp:Int→List Int) (k:Nat) {c x y:Int} (hc:mp c=[x,y]) (hx:mp x=[]) (hy:mp y=[]):Md.lv mp (k+1) c=some [x,y]:=by
 unfold Md.lv;rw[Zk (by rw[hc];simp),hc];simp[zAD,zBJ mp k hx,zBJ mp k hy]
theorem zDu {T:List Rw.Row} {X:Int→Bool} (h:Md.chk T X=0) (a:Int):∃l,Md.full T a=some l:=by
 obtain⟨hg,hr,hf,_⟩:=zEf h;cases hfa:Md.find T a with
 | some r =>
   obtain⟨h1,h2⟩:=zAx hfa;rw[←h2];exact hf r h1
 | none =>
   have ae:zB3 T a=[]:=by unfold zB3;rw[hfa];rfl
   unfold Md.full
   by_cases h4:zA2 a=4
   · have hs:=zAy a (.inl h4)
     have hm:Md.mp T a=[4352+(a-44032)/588,4449+(a-44032)%588/28]:=by
      unfold Md.mp;rw[zAY a h4];simp
     have hl:zA2 (4352+(a-44032)/588)=1:=by unfold zA2;grind
     have hv:zA2 (4449+(a-44032)%588/28)=2:=by unfold zA2;grind
     rw[zBI _ _ _ _ (by simp),show T.length+3=(T.length+2)+1 from rfl,zGy _ _ hm (zBD hg (by omega)) (zBD hg (by omega))];exact⟨_,rfl⟩
   by_cases h5:zA2 a=5
   rotate_left
   · have hm:Md.mp T a=[]:=by
      unfold Md.mp;rw[zBR a h4 h5];simpa using ae
     exact⟨_,zET _ hm⟩
   have hs:=zAy a (.inr h5)
   have hm:Md.mp T a=[a-(a-44032)%28,4519+(a-44032)%28]:=by
    unfold Md.mp;rw[zBb a h5];simp
   have aa:Md.mp T (a-(a-44032)%28)=[4352+(a-44032)/588,4449+(a-44032)%588/28]:=by
    unfold Md.mp;rw[zIL a hs.1 hs.2];simp
   have af:(a-44032)%28≠0:=fun e=>by rw[zD2 a hs.1 hs.2 e]at h5;omega
   have hl:zA2 (4352+(a-44032)/588)=1:=by unfold zA2;grind
   have hv:zA2 (4449+(a-44032)%588/28)=2:=by unfold zA2;grind
   have ht:zA2 (4519+(a-44032)%28)=3:=by unfold zA2;grind
   rw[zBI _ _ _ _ (by simp),show T.length+3=(T.length+2)+1 from rfl]
   have e1:Md.lv (Md.mp T) (T.length+2+1) a=some [4352+(a-44032)/588,4449+(a-44032)%588/28,4519+(a-44032)%28]:=by
    unfold Md.lv;rw[Zk (by rw[hm];simp),hm];simp[zAD,zBJ _ (T.length+2) (zBD hg (.inr (.inr ht))),show T.length+2=(T.length+1)+1 from rfl,zGy _ (T.length+1) aa (zBD hg (.inl hl)) (zBD hg (.inr (.inl hv)))]
   rw[e1];exact⟨_,rfl⟩
theorem zDv {T:List Rw.Row} {a:Int} {l:List Int} (h:Md.full T a=some l):(∀y∈l,Md.mp T y=[]∧Md.full T y=some [y])∧1≤l.length∧l.length≤32∧(3<zA2 a→2≤l.length):=by
 obtain⟨h1,h2,h3,h4⟩:=zNH h;refine⟨fun y hy=>⟨h1 y hy,zET _ (h1 y hy)⟩,h2,h4,fun hk=>?_⟩
 have hm:(Md.mp T a).length=2:=by
  unfold Md.mp
  by_cases h4:zA2 a=4
  · rw[zAY a h4];simp
  have h5:zA2 a=5:=by unfold zA2 at hk h4 ⊢;grind
  rw[zBb a h5];simp
 omega
theorem zKh {Q:Int→Prop} {f:Int→Option (List Int)} (hf:∀c l,f c=some l→Q c→∀d∈l,Q d):∀(L l:List Int),zAD f L=some l→(∀c∈L,Q c)→∀d∈l,Q d
 | [],l,h,_,d,hd=>by
   simp only[zAD,Zg]at h;subst h;cases hd
 | e::r,l,h,hL,d,hd=>by
   simp only[zAD]at h;cases he:f e with
   | none=>rw[he]at h;cases h
   | some a =>
     rw[he,Zv]at h;cases hr:zAD f r with
     | none=>rw[hr]at h;cases h
     | some b =>
       rw[hr,Zw]at h;cases h
       rcases List.mem_append.1 hd with h1|h1
       · exact hf e a he (hL e ZI) d h1
       exact zKh hf r b hr (fun c hc=>hL c (ZT _ hc)) d h1
theorem zIR {Q:Int→Prop} {mp:Int→List Int} (hm:∀c,∀d∈mp c,Q d):∀(k:Nat) (c:Int) (l:List Int),Md.lv mp k c=some l→Q c→∀d∈l,Q d
 | 0,c,l,h,hc,d,hd=>by
   unfold Md.lv at h;split at h
   · cases h
     rw[ZE]at hd;rw[hd];exact hc
   cases h
 | k+1,c,l,h,hc,d,hd=>by
   unfold Md.lv at h;split at h
   · cases h
     rw[ZE]at hd;rw[hd];exact hc
   exact zKh (zIR hm k) _ _ h (hm c) d hd
theorem zPB {T:List Rw.Row} (hT:Md.bd T) {a:Int} (ha : -2147483648≤a∧a≤2147483647) {l:List Int} (h:Md.full T a=some l):∀y∈l,-2147483648≤y∧y≤2147483647:=by
 unfold Md.full at h;rw[zBI _ _ _ _ (by simp)]at h;cases hl:Md.lv (Md.mp T) (T.length+3) a with
 | none=>rw[hl]at h;cases h
 | some b =>
   rw[hl,Zv]at h;unfold zC6 at h;split at h
   · cases h
     rw[ZV];exact zIR (zIz hT) _ a b hl ha
   cases h
section
open Go.RowKit
theorem zPC (w:World) (u:Value) (e:TypeId) (g:Nat) (hg:w.heap.size=g):(w.alloc (.cells #[u] e)).drew.cell? ⟨g,0,none⟩=some u:=by
 subst hg;show (w.alloc (.cells #[u] e)).cell? ⟨w.heap.size,0,none⟩=some u;have h:(w.alloc (.cells #[u] e)).heap[w.heap.size]?=some (.cells #[u] e (0,0)):=ZW _ _;simp only[World.cell?,h];rfl
theorem zEg (w:World) (o:Obj):(w.alloc o).heap.size=w.heap.size+1:=by simp
section
variable {P:Program}
theorem zL7 {o:Oper} {a:Act} {K:Act→World→Prop} {Q:Exit→Act→World→Prop} (w:World) (s x:Operand) (t:TypeId)
 (ho:o.op=.call { callee:=.builtin .append,args := #[s,x],argTypes := #[t,t] })
 (base:Nat) (e:TypeId) (i:TypeInfo) (z:Value) (bytes:Nat) (ht:P.underlying t=some (.slice e)) (hi:P.info? e=some i) (hz:i.zero=some z)
 (ag:i.size=1) (aj:i.bytes=bytes) (ah:z.cells.size=1)
 (v:Value) (n:Nat) (xs:List Value) (hs:a.eval s=v) (af:w.ownsRow base e 1 v n xs)
 (u:Value) (h1:u.oneCell'=true) (g:Nat) (hx:a.eval x=.slice (some ⟨g,0,none⟩) 1 1) (hcell:w.cell? ⟨g,0,none⟩=some u)
 (ai:n+1≤maxLen) (ae:(n+1)*bytes≤140737488355328) (aa:base≤w.heap.size)
 (h:∀v' w',w'.ownsRow base e 1 v' (n+1) (xs++[u])→Below base w w'→w.grownBy w' v.ownBlock→K (a.put o.dst v') w') :
 o.wp P a w K Q:=by
 refine wp_append_own (P:=P) w s x t ho base e i z 1 bytes ht hi hz ag aj ah (by omega) v n xs hs af ⟨g,0,none⟩ 1 1 [u] hx rfl ?_ ?_ ai ae aa ?_
 · intro j q hq;rcases j with _|j
   · simp only[YX,Zg]at hq;subst hq;simpa [Addr.add] using hcell
   simp at hq
 · intro q hq;simp only[ZE]at hq;subst hq;exact h1
 intro v' w' h2 h3 _;refine h v' w' h2 ?_ h3;refine (Zd _ _).grown h3 aa ?_;intro k hk;exact (af.lt k hk).1
theorem zCP {ops:Array Oper} {o:Oper} {a:Act} {K:Act→World→Prop} {Q:Exit→Act→World→Prop} {E:Prop} (w:World) (ah:o.guard=none) (s x:Operand) (t:TypeId)
 (ho:o.op=.call { callee:=.builtin .append,args := #[s,x],argTypes := #[t,t] })
 (base:Nat) (e:TypeId) (i:TypeInfo) (z:Value) (bytes:Nat) (ht:P.underlying t=some (.slice e)) (hi:P.info? e=some i) (hz:i.zero=some z)
 (af:i.size=1) (ak:i.bytes=bytes) (ai:z.cells.size=1)
 (v:Value) (n:Nat) (xs:List Value) (hs:a.eval s=v) (ag:w.ownsRow base e 1 v n xs)
 (u:Value) (h1:u.oneCell'=true) (g:Nat) (hx:a.eval x=.slice (some ⟨g,0,none⟩) 1 1) (hcell:w.cell? ⟨g,0,none⟩=some u)
 (aj:n+1≤maxLen) (aa:(n+1)*bytes≤140737488355328) (ae:base≤w.heap.size)
 (h:∀v' w',w'.ownsRow base e 1 v' (n+1) (xs++[u])→Below base w w'→w.grownBy w' v.ownBlock→K (a.put o.dst v') w') :
 if Region.wanted o (yielded ops a.tmps)=true then Oper.wp P o a w K Q else E:=by
 have hw:Region.wanted o (yielded ops a.tmps)=true:=by simp[Region.wanted,ah]
 rw[Zl hw];exact zL7 w s x t ho base e i z bytes ht hi hz af ak ai v n xs hs ag u h1 g hx hcell aj aa ae h
end
def IsRow (k:IntKind) (w:World) (a:Option Addr) (len cap:Nat) (zs:List Int):Prop :=
 (a=none∧len=0∧cap=0∧zs=[]) ∨
 ∃x,a=some x∧len≤cap∧cap≤maxLen∧zs.length=cap∧(∀i,i<zs.length→w.cell? (x.add i)=some (.int k (zs.getD i 0)))∧∀n∈zs,(Lit.int k n).wf=true
theorem IsRow.len_le {k:IntKind} {w:World} {a:Option Addr} {len cap:Nat} {zs:List Int} (h:IsRow k w a len cap zs):len≤cap∧cap≤maxLen∧zs.length=cap:=by
 rcases h with ⟨rfl,rfl,rfl,rfl⟩|⟨x,rfl,h1,h2,h3,_⟩
 · exact⟨Za _,by decide,rfl⟩
 exact⟨h1,h2,h3⟩
theorem IsRow.wf {k:IntKind} {w:World} {a:Option Addr} {len cap:Nat} {zs:List Int} (h:IsRow k w a len cap zs):∀n∈zs,(Lit.int k n).wf=true:=by
 rcases h with ⟨rfl,rfl,rfl,rfl⟩|⟨x,rfl,h1,h2,h3,h4,h5⟩
 · simp
 exact h5
theorem IsRow.sl {k:IntKind} {w:World} {a:Option Addr} {len cap:Nat} {zs:List Int} (h:IsRow k w a len cap zs) (m:Nat) (hm:m≤len):Sl w w.heap.size a ((zs.take m).map (Value.int k)):=by
 rcases h with ⟨rfl,rfl,rfl,rfl⟩|⟨x,rfl,h1,h2,h3,h4,h5⟩
 · simpa using Sl.nil w w.heap.size none
 intro hx;rw[Ze,Zn]at hx;obtain⟨b,off,spot⟩:=x;have af:=h4 0 (by omega);have ae:spot=none:=by simpa [Addr.add] using World.cell?_spot af
 subst ae
 have aa:∀i,(⟨b,off,none⟩:Addr).add i=⟨b,off+i,none⟩:=by
  intro i;unfold Addr.add;split <;> simp_all
 refine⟨b,off,rfl,?_,?_⟩
 · rw[aa]at af;exact YK w _ af
 intro i hi;rw[Ze,Zn]at hi;rw[←aa,h4 i (by omega),Zt,Yv,Zl (by omega),Zb (by omega)];simp[List.getD,show i<zs.length by omega]
section
variable {P:Program}
theorem zEL (w:World) (base:Nat) (t ty e:TypeId) (i:TypeInfo) (size:Nat) (ht:P.underlying t=some (.slice e)) (hi:P.info? e=some i)
 (v:Value) (n:Nat) (xs:List Value) (aa:w.ownsRow base e size v n xs) (c:Nat):(Builtin.append_ #[t,t] ty #[v,.slice none 0 c]).run P w=.ok v w:=by
 rcases aa.2 with ⟨rfl,rfl⟩|⟨g,cap,af,rfl,_,_,ae,_⟩
 · simp[Builtin.append_,Xn ht,sizeOf,typeInfo,hi,Builtin.lenOf,Builtin.firstCells]
 simp[Builtin.append_,Xn ht,sizeOf,typeInfo,hi,Builtin.lenOf,Builtin.firstCells,ae,storeCells]
theorem zG4 {o:Oper} {a:Act} {K:Act→World→Prop} {Q:Exit→Act→World→Prop} (w:World) (s x:Operand) (t:TypeId)
 (ho:o.op=.call { callee:=.builtin .append,args := #[s,x],argTypes := #[t,t] })
 (base:Nat) (e:TypeId) (i:TypeInfo) (z:Value) (size bytes:Nat) (ht:P.underlying t=some (.slice e)) (hi:P.info? e=some i) (hz:i.zero=some z)
 (ag:i.size=size) (ao:i.bytes=bytes) (aj:z.cells.size=size) (ai:0<size)
 (v:Value) (n:Nat) (xs:List Value) (hs:a.eval s=v) (aa:w.ownsRow base e size v n xs)
 (B:Nat) (A:Option Addr) (m c:Nat) (news:List Value) (hx:a.eval x=.slice A m c) (hl:news.length=m*size) (hA:Sl w B A news) (h1:∀u∈news,u.oneCell'=true)
 (ak:n+m≤maxLen) (af:(n+m)*bytes≤140737488355328) (ae:base≤w.heap.size)
 (h:∀v' w',w'.ownsRow base e size v' (n+m) (xs++news)→Below base w w'→w.grownBy w' v.ownBlock→K (a.put o.dst v') w') :
 o.wp P a w K Q:=by
 rcases A with _|ad
 rotate_left
 · refine wp_append_own (P:=P) w s x t ho base e i z size bytes ht hi hz ag ao aj ai v n xs hs aa ad m c news hx hl ?_ h1 ak af ae ?_
   · intro j q hq;have hj:j<news.length:=(List.getElem?_eq_some_iff.1 hq).1;obtain⟨b,o,hA,_,hc⟩:=hA (by omega);simp only[Zg]at hA;subst hA;rw[Addr.add_lit,hc j hj,hq]
   intro v' w' h2 h3 _;refine h v' w' h2 ?_ h3;refine (Zd _ _).grown h3 ae ?_;intro k hk;exact (aa.lt k hk).1
 have hn:news=[]:=by
  rcases news with _|⟨u,r⟩
  · rfl
  obtain⟨b,o,hA,_⟩:=hA (by simp);cases hA
 subst hn
 have hm:m=0:=by
  rcases YM m with h|h
  · exact h
  have:=Nat.mul_pos h ai;simp at hl;omega
 subst hm;have ah:=zEL (P:=P) w base t o.type e i size ht hi v n xs aa c;unfold Oper.wp execOp;simp only[ho,resolve,invoke,builtin,YC,Ys,Yt,Xb,ZU,Ym,hs,hx,ah];exact h v w (by simpa using aa) (Below.refl _ _) (World.grownBy.refl w _)
theorem zAh {ops:Array Oper} {rest:List Oper} {o:Oper} {a:Act} {Q:Exit→Act→World→Prop} (w:World) (ah:o.guard=none) (s x:Operand) (t:TypeId)
 (ho:o.op=.call { callee:=.builtin .append,args := #[s,x],argTypes := #[t,t] })
 (base:Nat) (e:TypeId) (i:TypeInfo) (z:Value) (size bytes:Nat) (ht:P.underlying t=some (.slice e)) (hi:P.info? e=some i) (hz:i.zero=some z)
 (af:i.size=size) (ak:i.bytes=bytes) (ai:z.cells.size=size) (ao:0<size)
 (v:Value) (n:Nat) (xs:List Value) (hs:a.eval s=v) (ag:w.ownsRow base e size v n xs)
 (B:Nat) (A:Option Addr) (m c:Nat) (news:List Value) (hx:a.eval x=.slice A m c) (hl:news.length=m*size) (hA:Sl w B A news) (h1:∀u∈news,u.oneCell'=true)
 (aj:n+m≤maxLen) (aa:(n+m)*bytes≤140737488355328) (ae:base≤w.heap.size)
 (h:∀v' w',w'.ownsRow base e size v' (n+m) (xs++news)→Below base w w'→w.grownBy w' v.ownBlock→wpList P ops Q rest (a.put o.dst v') w') :
 wpList P ops Q (o::rest) a w :=
 Jc ah fun _ hK=>zG4 w s x t ho base e i z size bytes ht hi hz af ak ai ao v n xs hs ag B A m c news hx hl hA h1 aj aa ae fun v' w' h2 h3 h4=>hK _ _ (h v' w' h2 h3 h4)
theorem zGz {ops:Array Oper} {o:Oper} {a:Act} {K:Act→World→Prop} {Q:Exit→Act→World→Prop} {E:Prop} (w:World) (ah:o.guard=none) (s x:Operand) (t:TypeId)
 (ho:o.op=.call { callee:=.builtin .append,args := #[s,x],argTypes := #[t,t] })
 (base:Nat) (e:TypeId) (i:TypeInfo) (z:Value) (size bytes:Nat) (ht:P.underlying t=some (.slice e)) (hi:P.info? e=some i) (hz:i.zero=some z)
 (af:i.size=size) (ak:i.bytes=bytes) (ai:z.cells.size=size) (ao:0<size)
 (v:Value) (n:Nat) (xs:List Value) (hs:a.eval s=v) (ag:w.ownsRow base e size v n xs)
 (B:Nat) (A:Option Addr) (m c:Nat) (news:List Value) (hx:a.eval x=.slice A m c) (hl:news.length=m*size) (hA:Sl w B A news) (h1:∀u∈news,u.oneCell'=true)
 (aj:n+m≤maxLen) (aa:(n+m)*bytes≤140737488355328) (ae:base≤w.heap.size)
 (h:∀v' w',w'.ownsRow base e size v' (n+m) (xs++news)→Below base w w'→w.grownBy w' v.ownBlock→K (a.put o.dst v') w') :
 if Region.wanted o (yielded ops a.tmps)=true then Oper.wp P o a w K Q else E:=by
 have hw:Region.wanted o (yielded ops a.tmps)=true:=by simp[Region.wanted,ah]
 rw[Zl hw];exact zG4 w s x t ho base e i z size bytes ht hi hz af ak ai ao v n xs hs ag B A m c news hx hl hA h1 aj aa ae h
end
theorem zFq (k:IntKind) (l:List Int):∀u∈l.map (Value.int k),u.oneCell'=true:=ints_oneCell k l
end
def Pg.last (L:List (Int × Int)) (c:Int):Int:=L.foldl (fun a x=>if x.1=c then x.2 else a) 0
def zAc (f:Int→Int) (n:Nat):List Int:=(List.range 256).map fun i:Nat=>f (256*(n:Int)+(i:Int))
def zAn:List Int:=List.replicate 256 0
def Pg.add (bl:List (List Int)) (b:List Int):List (List Int):=if b∈bl then bl else bl++[b]
def zAr (f:Int→Int):Nat→List (List Int)
 | 0=>[zAn]
 | m+1=>Pg.add (zAr f m) (zAc f m)
def Pg.at (bl:List (List Int)) (b:List Int):Nat:=bl.idxOf b
theorem zBo (f:Int→Int) (n:Nat):(zAc f n).length=256:=by unfold zAc;simp
theorem zH5 (f:Int→Int) (n:Nat) {i:Nat} (hi:i<256):(zAc f n)[i]?=some (f (256*(n:Int)+(i:Int))):=by
 unfold zAc;rw[Zt,X8 hi];rfl
theorem zFr {bl:List (List Int)} {b x:List Int}:x∈Pg.add bl b↔x∈bl∨x=b:=by
 unfold Pg.add;split
 · rename_i h;constructor
   · exact Or.inl
   rintro (h'|rfl)
   · exact h'
   exact h
 simp
theorem zMc {bl:List (List Int)} {b x:List Int} (h:x∈bl):Pg.at (Pg.add bl b) x=Pg.at bl x:=by
 unfold Pg.add Pg.at;split
 · rfl
 rw[J8,Zl h]
theorem zDT (f:Int→Int):∀(m:Nat) (x:List Int),x∈zAr f m↔x=zAn∨∃n,n<m∧x=zAc f n
 | 0,x=>by simp[zAr]
 | m+1,x=>by
   rw[zAr,zFr,zDT f m x];constructor
   · rintro ((h|⟨n,hn,h⟩)|h)
     · exact .inl h
     · exact .inr ⟨n,by omega,h⟩
     exact .inr ⟨m,by omega,h⟩
   rintro (h|⟨n,hn,h⟩)
   · exact .inl (.inl h)
   by_cases hm:n=m
   · subst hm;exact .inr h
   exact .inl (.inr ⟨n,by omega,h⟩)
theorem zEh (f:Int→Int) (m:Nat):∀b∈zAr f m,b.length=256:=by
 intro b hb;rcases (zDT f m b).1 hb with rfl|⟨n,_,rfl⟩
 · unfold zAn;exact List.length_replicate
 exact zBo f n
theorem zH6 (f:Int→Int):∀m,(zAr f m).length≤m+1
 | 0=>by simp[zAr]
 | m+1=>by
   have:=zH6 f m;rw[zAr];unfold Pg.add;split
   · omega
   simp;omega
def Pg.idx (f:Int→Int) (m:Nat):List Int:=(List.range m).map fun n=>(Pg.at (zAr f m) (zAc f n):Int)
theorem zCn (f:Int→Int) (m:Nat):(Pg.idx f m).length=m:=by unfold Pg.idx;simp
theorem zPD (f:Int→Int) (m:Nat) {n:Nat} (hn:n<m):(Pg.idx f m)[n]?=some (Pg.at (zAr f m) (zAc f n):Int):=by
 unfold Pg.idx;rw[Zt,X8 hn];rfl
theorem zPe {bl:List (List Int)} {b:List Int} (h:b∈bl):Pg.at bl b<bl.length:=QF h
theorem zQY {bl:List (List Int)} {b:List Int} (h:b∈bl):bl[Pg.at bl b]?=some b:=by
 unfold Pg.at;rw[Zb (QF h),List.getElem_idxOf]
theorem zNN (f:Int→Int) (m:Nat):Pg.idx f (m+1)=Pg.idx f m++[(Pg.at (zAr f (m+1)) (zAc f m):Int)]:=by
 unfold Pg.idx;rw[List.range_succ,ZL];congr 1;refine YR fun n hn=>?_
 have hn:=List.mem_range.1 hn;rw[zAr,zMc ((zDT f m _).2 (.inr ⟨n,hn,rfl⟩))]
theorem zIS:∀(bl:List (List Int)) (k i:Nat) (b:List Int),(∀b∈bl,b.length=256)→bl[k]?=some b→i<256→bl.flatten[k*256+i]?=b[i]?
 | [],k,i,b,_,h,_=>by simp at h
 | x::l,0,i,b,hl,h,hi=>by
   simp at h;subst h;rw[Xi,Nat.zero_mul,Z4,Z1 (by rw[hl x (by simp)];exact hi)]
 | x::l,k+1,i,b,hl,h,hi=>by
   simp at h;have hx:=hl x (by simp);rw[Xi,ZO (by rw[hx];omega),hx];rw[show (k+1)*256+i-256=k*256+i by omega];exact zIS l k i b (fun b hb=>hl b (by simp[hb])) h hi
theorem zG5:∀(bl:List (List Int)),(∀b∈bl,b.length=256)→bl.flatten.length=bl.length*256
 | [],_=>rfl
 | x::l,h=>by
   rw[Xi,Zc,h x (by simp),zG5 l (fun b hb=>h b (by simp[hb])),ZB];omega
theorem zIT (f:Int→Int):∀m,(zAr f m)[0]?=some zAn
 | 0=>rfl
 | m+1=>by
   have:=zIT f m;rw[zAr];unfold Pg.add;split
   · exact this
   rw[Z1 (List.getElem?_eq_some_iff.1 this).1];exact this
def Pg.fl:List (Int × Int)→List Value
 | []=>[]
 | r::l=>.int .i32 r.1::.int .u16 r.2::Pg.fl l
theorem Pg.fl_app:∀(a b:List (Int × Int)),Pg.fl (a++b)=Pg.fl a++Pg.fl b
 | [],b=>rfl
 | r::a,b=>by simp[Pg.fl,Pg.fl_app a b]
theorem Pg.fl_len:∀(a:List (Int × Int)),(Pg.fl a).length=a.length*2
 | []=>rfl
 | r::a=>by simp[Pg.fl,Pg.fl_len a];omega
theorem Pg.fl_get:∀(a:List (Int × Int)) (i:Nat) (r:Int × Int),a[i]?=some r→(Pg.fl a)[i*2]?=some (.int .i32 r.1)∧(Pg.fl a)[i*2+1]?=some (.int .u16 r.2)
 | [],i,r,h=>by simp at h
 | q::a,0,r,h=>by simp at h;subst h;exact⟨rfl,rfl⟩
 | q::a,i+1,r,h=>by
   have:=Pg.fl_get a i r (by simpa using h);rw[show (i+1)*2=i*2+2 by omega,show i*2+2+1=i*2+1+2 by omega];exact this
def zCG (r:Rw.Row):Bool:=decide (0<r.2.1)||decide (0<r.2.2.length)
def Ud.keep (R:List Rw.Row):List Rw.Row:=R.filter zCG
def zAK (R:List Rw.Row):List Rw.Row:=R.filter fun r=>decide (0<r.2.2.length)
def Ud.full (T:List Rw.Row) (c:Int):List Int:=(Md.full T c).getD []
def zMd (R:List Rw.Row):List (Int × Int):=(Ud.keep R).map fun r=>(r.1,r.2.1)
def zBp:Nat→List Rw.Row→List (Int × Int)
 | _,[]=>[]
 | k,r::l=>(r.1,(k:Int)+1)::zBp (k+1) l
def zH7 (R:List Rw.Row):List (Int × Int):=zBp 0 (zAK R)
def zQZ (T R:List Rw.Row):List Int:=(zAK R).flatMap fun r=>(Ud.full T r.1).drop 1
def zR0 (R:List Rw.Row):List Int:=(zAK R).map (·.1)
def zKi (T:List Rw.Row) (X:Int→Bool) (R:List Rw.Row):List Rw.Row:=(zAK R).filter fun r=>zAt T X r.1
def Ud.sec (T:List Rw.Row) (X:Int→Bool) (R:List Rw.Row):List Int:=(zKi T X R).map fun r=>r.2.2.getD 1 0
def zPf (T R:List Rw.Row) (c:Int):List Int:=((zAK R).filter fun r=>decide ((Ud.full T r.1).headD 0=c)).map (·.1)
def zCj (T:List Rw.Row) (X:Int→Bool) (R:List Rw.Row) (a b:Int):Option Int:=(zKi T X R).foldl (fun o r=>if r.2.2.getD 0 0=a∧r.2.2.getD 1 0=b then some r.1 else o) none
theorem zPE (l:List Rw.Row) (r:Rw.Row):∀k,zBp k (l++[r])=zBp k l++[(r.1,((k+l.length:Nat):Int)+1)]:=by
 induction l with
 | nil=>intro k;simp[zBp]
 | cons q l ih =>
   intro k;rw[ZN];unfold zBp;rw[ih (k+1),ZN];congr 3;simp;omega
theorem zNO {T R:List Rw.Row} {X:Int→Bool} {r:Rw.Row} (h:zCG r=false):Ud.keep (R++[r])=Ud.keep R∧zAK (R++[r])=zAK R:=by
 have h2:¬0<r.2.2.length:=by
  unfold zCG at h;simp only[XW,Z2]at h;exact h.2
 constructor
 · unfold Ud.keep;rw[YL,YW,Zk (by rw[h];simp),List.filter_nil,ZC]
 unfold zAK;rw[List.filter_append,List.filter_cons,if_neg (by simpa using h2),List.filter_nil,List.append_nil]
theorem zNP {R:List Rw.Row} {r:Rw.Row} (h:zCG r=true):Ud.keep (R++[r])=Ud.keep R++[r]:=by
 unfold Ud.keep;simp[YL,h]
theorem Ud.add_plain {R:List Rw.Row} {r:Rw.Row} (h:r.2.2=[]):zAK (R++[r])=zAK R:=by
 unfold zAK;simp[YL,h]
theorem zPF {R:List Rw.Row} {r:Rw.Row} (h:0<r.2.2.length):zAK (R++[r])=zAK R++[r]:=by
 unfold zAK;rw[YL,YW,Zl (Zs h)];rfl
theorem zH8 (c:Int):∀(L:List (Int × Int)) (a:Int),(L.Pairwise fun x y=>x.1≠y.1)→L.foldl (fun a x=>if x.1=c then x.2 else a) a=((L.find? fun x=>decide (x.1=c)).map (·.2)).getD a
 | [],a,_=>rfl
 | x::L,a,h=>by
   rw[QJ]at h;rw[Yy,Jo,zH8 c L _ h.2]
   by_cases hx:x.1=c
   · rw[Zl hx,Zs hx]
     have:(L.find? fun x=>decide (x.1=c))=none:=by
      rw[JX];intro y hy;have:=h.1 y hy;simp only[Zo];omega
     rw[this];rfl
   rw[Zk hx,Zp hx]
theorem zL8 {T:List Rw.Row} (h:Md.rises T):Md.rises (Ud.keep T):=Jt JP h
theorem zNQ {T:List Rw.Row} (h:Md.rises T):Md.rises (zAK T):=Jt JP h
theorem zD4 {T:List Rw.Row} {r:Rw.Row}:r∈zAK T↔r∈T∧0<r.2.2.length:=by unfold zAK;rw[List.mem_filter,decide_eq_true_eq]
theorem zG6 {T:List Rw.Row} {r:Rw.Row}:r∈Ud.keep T↔r∈T∧zCG r=true:=by unfold Ud.keep;rw[List.mem_filter]
theorem zNR {T:List Rw.Row} (h:Md.rises T) (h0:∀r∈T,0≤r.2.1) (c:Int):Pg.last (zMd T) c=Md.cls T c:=by
 have hp:(zMd T).Pairwise fun x y=>x.1≠y.1:=by
  unfold zMd;rw[List.pairwise_map];exact (zL8 h).imp fun ae=>by omega
 unfold Pg.last;rw[zH8 c _ _ hp];cases hf:(zMd T).find? fun x=>decide (x.1=c) with
 | some x =>
   have h1:=X7 hf;have h2:=Jp hf;simp only[Zo]at h2;unfold zMd at h1;obtain⟨r,hr,rfl⟩:=List.mem_map.1 h1;have aa:=(zG6.1 hr).1;unfold Md.cls;rw[←h2,zBK h aa];rfl
 | none =>
   have hn:=List.find?_eq_none.1 hf;unfold Md.cls;cases hm:Md.find T c with
   | none=>rfl
   | some r =>
     obtain⟨h1,h2⟩:=zAx hm
     have hs:zCG r=false:=by
      cases hs:zCG r with
      | false=>rfl
      | true =>
        have:=hn (r.1,r.2.1) (List.mem_map.2 ⟨r,zG6.2 ⟨h1,hs⟩,rfl⟩);simp only[Zo]at this;exact absurd h2 this
     unfold zCG at hs;simp only[XW,Z2]at hs;have:=h0 r h1;simp;omega
theorem zFs:∀(l:List Rw.Row) (k i:Nat),(zBp k l)[i]?=(l[i]?).map fun r=>(r.1,((k+i:Nat):Int)+1)
 | [],k,i=>by simp[zBp]
 | r::l,k,i=>by
   unfold zBp;cases i with
   | zero=>simp
   | succ i =>
     rw[YY,YY,zFs l (k+1) i];rw[show k+1+i=k+(i+1) by omega]
theorem zKj {T:List Rw.Row} (h:Md.rises T):(zH7 T).Pairwise fun x y=>x.1≠y.1:=by
 rw[QS];intro i j hi hj hij;have e1:=Zb hi;have e2:=Zb hj;unfold zH7 at e1 e2;rw[zFs]at e1 e2;cases hr:(zAK T)[i]? with
 | none=>rw[hr]at e1;cases e1
 | some r =>
   cases hq:(zAK T)[j]? with
   | none=>rw[hq]at e2;cases e2
   | some q =>
     rw[hr,Zw,Zg]at e1;rw[hq,Zw,Zg]at e2;have:=zDr (zNQ h) hr hq hij;unfold zH7;rw[←e1,←e2];simp only;omega
theorem zNS {T:List Rw.Row} (h:Md.rises T) {i:Nat} {r:Rw.Row} (hr:(zAK T)[i]?=some r):Pg.last (zH7 T) r.1=(i:Int)+1:=by
 unfold Pg.last;rw[zH8 _ _ _ (zKj h)]
 have hi:(zH7 T)[i]?=some (r.1,(i:Int)+1):=by
  unfold zH7;rw[zFs,hr,Zw,Z4]
 have hf:((zH7 T).find? fun x=>decide (x.1=r.1))=some (r.1,(i:Int)+1):=by
  cases hf:(zH7 T).find? fun x=>decide (x.1=r.1) with
  | none =>
    have:=List.find?_eq_none.1 hf _ (Zj hi);simp at this
  | some x =>
    have h1:=X7 hf;have h2:=Jp hf;simp only[Zo]at h2;obtain⟨j,hj⟩:=List.mem_iff_getElem?.1 h1
    have hij:i=j:=by
     obtain⟨a1,b1⟩:=List.getElem?_eq_some_iff.1 hi;obtain⟨a2,b2⟩:=List.getElem?_eq_some_iff.1 hj;have hp:=List.pairwise_iff_getElem.1 (zKj h);rcases Qj i j with hl|hl|hl
     · have:=hp i j a1 a2 hl;rw[b1,b2]at this;exact absurd h2.symm this
     · exact hl
     have:=hp j i a2 a1 hl;rw[b1,b2]at this;exact absurd h2 this
    rw[←hij,hi]at hj;exact hj.symm
 rw[hf];rfl
theorem zNT {T:List Rw.Row} {c:Int} (h:∀r∈zAK T,r.1≠c):Pg.last (zH7 T) c=0:=by
 have:∀(l:List Rw.Row) (k:Nat),(∀r∈l,r.1≠c)→(zBp k l).foldl (fun (a:Int) x=>if x.1=c then x.2 else a) 0=0:=by
  intro l
  induction l with
  | nil=>intro k _;rfl
  | cons r l ih =>
    intro k hl;unfold zBp;rw[Yy,Zk (hl r ZI)];exact ih (k+1) fun q hq=>hl q (ZT _ hq)
 exact this _ 0 h
theorem zPG {T:List Rw.Row} (h:Md.rises T) (c:Int):(∃(i:Nat) (r:Rw.Row),(zAK T)[i]?=some r∧r.1=c∧Md.find T c=some r∧0<r.2.2.length)∨((∀r∈zAK T,r.1≠c)∧zB3 T c=[]):=by
 cases hf:Md.find T c with
 | none =>
   refine .inr ⟨fun r hr e=>?_,by unfold zB3;rw[hf];rfl⟩;have:=zBK h (zD4.1 hr).1;rw[e,hf]at this;cases this
 | some r =>
   obtain⟨h1,h2⟩:=zAx hf
   by_cases hl:0<r.2.2.length
   · obtain⟨i,hi⟩:=List.mem_iff_getElem?.1 (zD4.2 ⟨h1,hl⟩);exact .inl ⟨i,r,hi,h2,rfl,hl⟩
   refine .inr ⟨fun q hq e=>?_,?_⟩
   · obtain⟨g1,g2⟩:=zD4.1 hq;have:=zBK h g1;rw[e,hf]at this;cases this
     exact hl g2
   unfold zB3;rw[hf];have:r.2.2=[]:=ZK (by omega);simpa using this
theorem zNU {T:List Rw.Row} (hg:∀r∈T,Md.good r) {a:Int} (h:zA2 a=4∨zA2 a=5):Md.full T a=some (zA9 a):=by
 unfold Md.full zA9;rcases h with h4|h5
 · have hs:=zAy a (.inl h4)
   have hm:Md.mp T a=[4352+(a-44032)/588,4449+(a-44032)%588/28]:=by
    unfold Md.mp;rw[zAY a h4];simp
   have hl:zA2 (4352+(a-44032)/588)=1:=by unfold zA2;grind
   have hv:zA2 (4449+(a-44032)%588/28)=2:=by unfold zA2;grind
   rw[Zl h4,zBI _ _ _ _ (by simp),show T.length+3=(T.length+2)+1 from rfl,zGy _ _ hm (zBD hg (by omega)) (zBD hg (by omega))];rfl
 have hs:=zAy a (.inr h5)
 have hm:Md.mp T a=[a-(a-44032)%28,4519+(a-44032)%28]:=by
  unfold Md.mp;rw[zBb a h5];simp
 have aa:Md.mp T (a-(a-44032)%28)=[4352+(a-44032)/588,4449+(a-44032)%588/28]:=by
  unfold Md.mp;rw[zIL a hs.1 hs.2];simp
 have ae:(a-44032)%28≠0:=fun e=>by rw[zD2 a hs.1 hs.2 e]at h5;omega
 have hl:zA2 (4352+(a-44032)/588)=1:=by unfold zA2;grind
 have hv:zA2 (4449+(a-44032)%588/28)=2:=by unfold zA2;grind
 have ht:zA2 (4519+(a-44032)%28)=3:=by unfold zA2;grind
 rw[Zk (by omega),Zl h5,zBI _ _ _ _ (by simp),show T.length+3=(T.length+2)+1 from rfl]
 have e1:Md.lv (Md.mp T) (T.length+2+1) a=some [4352+(a-44032)/588,4449+(a-44032)%588/28,4519+(a-44032)%28]:=by
  unfold Md.lv;rw[Zk (by rw[hm];simp),hm];simp[zAD,zBJ _ (T.length+2) (zBD hg (.inr (.inr ht))),show T.length+2=(T.length+1)+1 from rfl,zGy _ (T.length+1) aa (zBD hg (.inl hl)) (zBD hg (.inr (.inl hv)))]
 rw[e1];rfl
theorem zDw (c:Int):(zAl c).2.2=decide (4≤zA2 c):=by
 by_cases h4:zA2 c=4
 · rw[zAY c h4,h4];rfl
 by_cases h5:zA2 c=5
 · rw[zBb c h5,h5];rfl
 rw[zBR c h4 h5];have:¬4≤zA2 c:=by unfold zA2 at *;grind
 rw[Zp this]
theorem zH9 (c:Int):0≤zA2 c∧zA2 c≤5:=by unfold zA2;grind
theorem zPH {T:List Rw.Row} {c:Int} (hr:zB3 T c=[]) (hk:zA2 c<4):Md.mp T c=[]∧Md.full T c=some [c]:=by
 have hm:Md.mp T c=[]:=by
  unfold Md.mp;rw[zDw,Zp (by omega)];simpa using hr
 exact⟨hm,zET _ hm⟩
theorem zIU {T:List Rw.Row} {X:Int→Bool} {r:Rw.Row} (hg:Md.good r) (hr:Md.rises T) (hm:r∈T) (hp:zAt T X r.1=true):∃a b,r.2.2=[a,b]:=by
 unfold zAt at hp;rw[zDw,hg.2.2.2.2.1,zBK hr hm]at hp;simp only[show ¬((4:Int)≤0) by decide,decide_false,Y3,Zw,Kd]at hp;unfold zAf at hp;simp only[Zr,Zo]at hp;have h2:=hp.2.1
 match h:r.2.2,h2 with
 | [a,b],_=>exact⟨a,b,rfl⟩
section
open Go.RowKit
def Slt (w:World) (t:TypeId) (A:Option Addr) (xs:List Value):Prop :=
 0<xs.length→∃b o cs,A=some ⟨b,o,none⟩∧w.heap[b]?=some (.cells cs t (0,0))∧∀i,i<xs.length→cs[o+i]?=xs[i]?
theorem Slt.nil (w:World) (t:TypeId) (A:Option Addr):Slt w t A []:=fun h=>absurd h (by simp)
theorem Slt.sl {w:World} {t:TypeId} {A:Option Addr} {xs:List Value} (h:Slt w t A xs):Sl w w.heap.size A xs:=by
 intro hx;obtain⟨b,o,cs,hA,hb,hc⟩:=h hx;exact⟨b,o,hA,zCF hb,fun i hi=>by rw[←hc i hi];simp[World.cell?,hb]⟩
theorem Slt.frozen {w:World} {t:TypeId} {b o:Nat} {xs:List Value} (h:Slt w t (some ⟨b,o,none⟩) xs) (hx:0<xs.length) (i:Nat):w.frozen? ⟨b,i,none⟩=false:=by
 obtain⟨b',o',cs,hA,hb,_⟩:=h hx;simp only[Zg,YH]at hA;obtain⟨rfl,rfl,_⟩:=hA;simp[World.frozen?,hb]
theorem Slt.grown {w w':World} {t:TypeId} {A:Option Addr} {xs:List Value} {row:Option Nat} (h:Slt w t A xs) (hg:w.grownBy w' row) (hr:∀k,row=some k→∀cs z,w.heap[k]?≠some (.cells cs t z)):Slt w' t A xs:=by
 intro hx;obtain⟨b,o,cs,hA,hb,hc⟩:=h hx;exact⟨b,o,cs,hA,(hg.block b (zCF hb) fun e=>hr b e.symm cs (0,0) hb).trans hb,hc⟩
theorem Slt.below {w w':World} {t:TypeId} {A:Option Addr} {xs:List Value} (h:Slt w t A xs) (hb:Below w.heap.size w w'):Slt w' t A xs:=by
 intro hx;obtain⟨b,o,cs,hA,hh,hc⟩:=h hx;exact⟨b,o,cs,hA,(hb.block b (zCF hh)).trans hh,hc⟩
theorem Slt.of_own {w:World} {base:Nat} {e:TypeId} {size n c:Nat} {A:Option Addr} {xs:List Value} (h:w.ownsRow base e size (.slice A n c) n xs):Slt w e A xs:=by
 intro hx;obtain⟨hl,h⟩:=h;rcases h with ⟨hv,hn⟩|⟨g,cap,ae,hv,_,hg,_,_,_,aa⟩
 · subst hn;simp at hl;rw[hl]at hx;simp at hx
 simp only[ZX]at hv;obtain⟨hA,_,_⟩:=hv;refine⟨g,0,ae,hA,hg,fun i hi=>?_⟩;rw[←aa];simp[Yv,←hl,hi]
def Rw.fl:List Rw.Row→List (Option Addr × Nat)→List Value
 | r::rs,a::ads=>.int .i32 r.1::.int .i64 r.2.1::.slice a.1 r.2.2.length a.2::Rw.fl rs ads
 | _,_=>[]
theorem Rw.fl_len:∀(rs:List Rw.Row) (ads:List (Option Addr × Nat)),ads.length=rs.length→(Rw.fl rs ads).length=rs.length*3
 | [],_,_=>by simp[Rw.fl]
 | r::rs,[],h=>by simp at h
 | r::rs,a::ads,h=>by simp[Rw.fl,Rw.fl_len rs ads (by simpa using h)];omega
theorem Rw.fl_app:∀(rs:List Rw.Row) (ads:List (Option Addr × Nat)) (r:Rw.Row) (a:Option Addr × Nat),ads.length=rs.length →
 Rw.fl (rs++[r]) (ads++[a])=Rw.fl rs ads++[.int .i32 r.1,.int .i64 r.2.1,.slice a.1 r.2.2.length a.2]
 | [],[],r,a,_=>rfl
 | [],_::_,_,_,h=>by simp at h
 | q::rs,[],r,a,h=>by simp at h
 | q::rs,b::ads,r,a,h=>by
   simp only[ZN,Rw.fl];rw[Rw.fl_app rs ads r a (by simpa using h)]
def Rw.Maps (w:World) (rs:List Rw.Row) (ads:List (Option Addr × Nat)):Prop:=∀(i:Nat) (r:Rw.Row) (a:Option Addr × Nat),rs[i]?=some r→ads[i]?=some a→Slt w 21 a.1 (r.2.2.map (Value.int .i32))
theorem Rw.Maps.app {w:World} {rs:List Rw.Row} {ads:List (Option Addr × Nat)} (h:Rw.Maps w rs ads) (hl:ads.length=rs.length) {r:Rw.Row} {a:Option Addr × Nat} (hr:Slt w 21 a.1 (r.2.2.map (Value.int .i32))):Rw.Maps w (rs++[r]) (ads++[a]):=by
 intro i q x hq hx;rcases Z3 i rs.length with hi|hi
 · rw[Z1 hi]at hq;rw[Z1 (by omega)]at hx;exact h i q x hq hx
 rw[ZO hi]at hq;rw[ZO (by omega)]at hx;obtain⟨j,hj⟩:∃j,i-rs.length=j:=⟨_,rfl⟩;rw[hl,hj]at hx;rw[hj]at hq;rcases j with _|j
 · simp at hq hx;subst hq hx;exact hr
 simp at hq
theorem Rw.Maps.below {w w':World} {rs:List Rw.Row} {ads:List (Option Addr × Nat)} (h:Rw.Maps w rs ads) (hb:Below w.heap.size w w'):Rw.Maps w' rs ads:=fun i r a h1 h2=>(h i r a h1 h2).below hb
theorem Rw.Maps.grown {w w':World} {rs:List Rw.Row} {ads:List (Option Addr × Nat)} {row:Option Nat} (h:Rw.Maps w rs ads) (hg:w.grownBy w' row) (hr:∀k,row=some k→∀cs z,w.heap[k]?≠some (.cells cs 21 z)):Rw.Maps w' rs ads :=
 fun i r a h1 h2=>(h i r a h1 h2).grown hg hr
theorem zAj {b:Nat} {w w':World} {row:Option Nat} (hg:w.grownBy w' row) (hb:b≤w.heap.size) (hr:∀k,row=some k→b≤k):Below b w w':=(Zd b w).grown hg hb hr
theorem zAE {w:World} {base:Nat} {e t':TypeId} {size n:Nat} {v:Value} {xs:List Value} (h:w.ownsRow base e size v n xs) (hne:e≠t'):∀k,v.ownBlock=some k→∀cs' z,w.heap[k]?≠some (.cells cs' t' z):=by
 intro k hk cs' z e';rcases h.2 with ⟨rfl,_⟩|⟨g,cap,aa,rfl,_,hg,_⟩
 · simp[Value.ownBlock]at hk
 simp only[Value.ownBlock,Zg]at hk;subst hk;have:=hg.symm.trans e';simp only[Zg,XN]at this;exact hne this.2.1
theorem zPI {w:World} {base:Nat} {e:TypeId} {size n:Nat} {v:Value} {xs:List Value} (h:w.ownsRow base e size v n xs):v.oneCell'=true:=by
 obtain⟨A,c,rfl⟩:=zA3 h;rfl
theorem zBq {w:World} {base:Nat} {e:TypeId} {size n:Nat} {v:Value} {xs:List Value} (h:w.ownsRow base e size v n xs) (g:Nat) (hg:g<base):v.ownBlock≠some g:=fun hk=>by have:=(h.lt _ hk).1;omega
theorem Rw.own_grown {w w':World} {base:Nat} {e:TypeId} {size n b:Nat} {v:Value} {xs:List Value} (h:w.ownsRow base e size v n xs) (hb:b<base) (hg:w.grownBy w' (some b)):w'.ownsRow base e size v n xs :=
 h.kept hg (by
  rcases h.2 with ⟨rfl,_⟩|⟨g,cap,aa,rfl,ae,_⟩
  · exact .inl rfl
  refine .inr fun e'=>?_
  simp only[Value.ownBlock,Zg]at e';omega)
theorem Rw.fl_get:∀(rs:List Rw.Row) (ads:List (Option Addr × Nat)) (i:Nat) (r:Rw.Row) (a:Option Addr × Nat),rs[i]?=some r→ads[i]?=some a →
 (Rw.fl rs ads)[i*3]?=some (.int .i32 r.1)∧(Rw.fl rs ads)[i*3+1]?=some (.int .i64 r.2.1)∧(Rw.fl rs ads)[i*3+2]?=some (.slice a.1 r.2.2.length a.2)
 | [],_,i,_,_,h,_=>by simp at h
 | _::_,[],i,_,_,_,h=>by simp at h
 | q::rs,b::ads,0,r,a,h,h'=>by simp at h h';subst h h';exact⟨rfl,rfl,rfl⟩
 | q::rs,b::ads,i+1,r,a,h,h'=>by
   have:=Rw.fl_get rs ads i r a (by simpa using h) (by simpa using h');rw[show (i+1)*3=i*3+1+1+1 by omega];exact this
def Rw.Tab (w:World) (A:Option Addr) (rs:List Rw.Row):Prop:=∃ads,ads.length=rs.length∧Slt w 103 A (Rw.fl rs ads)∧Rw.Maps w rs ads
def zBr:List Rw.Row→List (Option Addr × Nat)→List Value
 | r::rs,a::ads=>.int .i64 r.1::.int .i64 r.2.1::.slice a.1 r.2.2.length a.2::zBr rs ads
 | _,_=>[]
theorem zCQ:∀(rs:List Rw.Row) (ads:List (Option Addr × Nat)),ads.length=rs.length→(zBr rs ads).length=rs.length*3
 | [],_,_=>by simp[zBr]
 | r::rs,[],h=>by simp at h
 | r::rs,a::ads,h=>by simp[zBr,zCQ rs ads (by simpa using h)];omega
theorem zFt:∀(rs:List Rw.Row) (ads:List (Option Addr × Nat)) (i:Nat) (r:Rw.Row) (a:Option Addr × Nat),rs[i]?=some r→ads[i]?=some a →
 (zBr rs ads)[i*3]?=some (.int .i64 r.1)∧(zBr rs ads)[i*3+1]?=some (.int .i64 r.2.1)∧(zBr rs ads)[i*3+2]?=some (.slice a.1 r.2.2.length a.2)
 | [],_,i,_,_,h,_=>by simp at h
 | _::_,[],i,_,_,_,h=>by simp at h
 | q::rs,b::ads,0,r,a,h,h'=>by simp at h h';subst h h';exact⟨rfl,rfl,rfl⟩
 | q::rs,b::ads,i+1,r,a,h,h'=>by
   have:=zFt rs ads i r a (by simpa using h) (by simpa using h');rw[show (i+1)*3=i*3+1+1+1 by omega];exact this
def Rw.Sees (w:World) (A:Option Addr) (rs:List Rw.Row):Prop:=∃ads:List (Option Addr × Nat),ads.length=rs.length∧Sl w w.heap.size A (Rw.fl rs ads) ∧
 ∀(i:Nat) (r:Rw.Row) (a:Option Addr × Nat),rs[i]?=some r→ads[i]?=some a→Sl w w.heap.size a.1 (r.2.2.map (Value.int .i32))
def Rw.SeesI (w:World) (A:Option Addr) (rs:List Rw.Row):Prop:=∃ads:List (Option Addr × Nat),ads.length=rs.length∧Sl w w.heap.size A (zBr rs ads) ∧
 ∀(i:Nat) (r:Rw.Row) (a:Option Addr × Nat),rs[i]?=some r→ads[i]?=some a→Sl w w.heap.size a.1 (r.2.2.map (Value.int .i64))
theorem Rw.Tab.sees {w:World} {A:Option Addr} {rs:List Rw.Row} (h:Rw.Tab w A rs):Rw.Sees w A rs:=by
 obtain⟨ads,hl,hs,hm⟩:=h;exact⟨ads,hl,hs.sl,fun i r a h1 h2=>(hm i r a h1 h2).sl⟩
theorem Rw.Sees.below {w w':World} {A:Option Addr} {rs:List Rw.Row} (h:Rw.Sees w A rs) (hb:Below w.heap.size w w'):Rw.Sees w' A rs:=by
 obtain⟨ads,hl,hs,hm⟩:=h;exact⟨ads,hl,hs.below hb hb.size,fun i r a h1 h2=>(hm i r a h1 h2).below hb hb.size⟩
theorem Rw.SeesI.below {w w':World} {A:Option Addr} {rs:List Rw.Row} (h:Rw.SeesI w A rs) (hb:Below w.heap.size w w'):Rw.SeesI w' A rs:=by
 obtain⟨ads,hl,hs,hm⟩:=h;exact⟨ads,hl,hs.below hb hb.size,fun i r a h1 h2=>(hm i r a h1 h2).below hb hb.size⟩
theorem Rw.Sees.row {w:World} {A:Option Addr} {rs:List Rw.Row} (h:Rw.Sees w A rs) {i:Nat} {r:Rw.Row} (hr:rs[i]?=some r) :
 ∃(b o:Nat) (a:Option Addr × Nat),A=some ⟨b,o,none⟩∧b<w.heap.size∧w.cell? ⟨b,o+i*3,none⟩=some (.int .i32 r.1)∧w.cell? ⟨b,o+i*3+1,none⟩=some (.int .i64 r.2.1)∧w.cell? ⟨b,o+i*3+2,none⟩=some (.slice a.1 r.2.2.length a.2) ∧
  Sl w w.heap.size a.1 (r.2.2.map (Value.int .i32)):=by
 obtain⟨ads,hl,hs,hm⟩:=h;have hi:=(List.getElem?_eq_some_iff.1 hr).1;obtain⟨a,ha⟩:∃a,ads[i]?=some a:=⟨_,Zb (by omega)⟩;obtain⟨b,o,rfl,hb,hc⟩:=hs (by rw[Rw.fl_len _ _ hl];omega);obtain⟨g0,g1,g2⟩:=Rw.fl_get rs ads i r a hr ha;have hlen:=Rw.fl_len rs ads hl;refine⟨b,o,a,rfl,hb,?_,?_,?_,hm i r a hr ha⟩
 · rw[hc _ (by omega),g0]
 · rw[Yi,hc _ (by omega),g1]
 rw[Yi,hc _ (by omega),g2]
theorem Rw.SeesI.row {w:World} {A:Option Addr} {rs:List Rw.Row} (h:Rw.SeesI w A rs) {i:Nat} {r:Rw.Row} (hr:rs[i]?=some r) :
 ∃(b o:Nat) (a:Option Addr × Nat),A=some ⟨b,o,none⟩∧b<w.heap.size∧w.cell? ⟨b,o+i*3,none⟩=some (.int .i64 r.1)∧w.cell? ⟨b,o+i*3+1,none⟩=some (.int .i64 r.2.1)∧w.cell? ⟨b,o+i*3+2,none⟩=some (.slice a.1 r.2.2.length a.2) ∧
  Sl w w.heap.size a.1 (r.2.2.map (Value.int .i64)):=by
 obtain⟨ads,hl,hs,hm⟩:=h;have hi:=(List.getElem?_eq_some_iff.1 hr).1;obtain⟨a,ha⟩:∃a,ads[i]?=some a:=⟨_,Zb (by omega)⟩;obtain⟨b,o,rfl,hb,hc⟩:=hs (by rw[zCQ _ _ hl];omega);obtain⟨g0,g1,g2⟩:=zFt rs ads i r a hr ha;have hlen:=zCQ rs ads hl;refine⟨b,o,a,rfl,hb,?_,?_,?_,hm i r a hr ha⟩
 · rw[hc _ (by omega),g0]
 · rw[Yi,hc _ (by omega),g1]
 rw[Yi,hc _ (by omega),g2]
theorem zKk (c d:Int) (u v:Value) (w:World) (h1 : -2147483648≤c) (h2:c≤2147483647) (h3 : -2147483648≤d) (h4:d≤2147483647) :
 Calls prog 166 #[.agg #[.int .i32 c,u,v],.int .i32 d] w fun e w'=>e=.returned (.int .i64 (c-d))∧Below w.heap.size w w':=by
 have e1:IntKind.i64.wrap c=c:=by rw[Ya];omega
 have e2:IntKind.i64.wrap d=d:=by rw[Ya];omega
 have e3:IntKind.i64.wrap (c-d)=c-d:=by rw[Ya];omega
 have hb:Below w.heap.size w (w.alloc (.cells #[.int .i32 c,u,v] 103)):=(Zd _ _).alloc (Za _) _;have HB:=hy' hb;clear hb;go_enter func166,ntmps166;go_wp2_with fail;go_ret;exact⟨rfl,HB.o⟩
def zPg (T:List Rw.Row) (d:Int) (i:Nat) (is:Bool):Prop:=(is=true→∃r,T[i]?=some r∧Md.find T d=some r)∧(is=false→Md.find T d=none)
def zR1 (T:List Rw.Row) (d:Int) (w:World) (e:Ending) (w':World):Prop:=∃(i:Nat) (is:Bool),e=.returned (.tuple #[.int .i64 i,.bool is])∧zPg T d i is∧Below w.heap.size w w'
theorem Md.search_any (A:Option Addr) (n c:Nat) (T:List Rw.Row) (d:Int) (w:World) (hn:T.length=n) (au:n≤1000000) (hr:Md.rises T) (hbd:Md.bd T) (h3 : -2147483648≤d) (h4:d≤2147483647) (hA:Rw.Sees w A T) :
 Calls prog 165 #[.slice A n c,.int .i32 d,.func (.func 166) #[] #[]] w
  (zR1 T d w):=by
 have HN:=hy' hn;have HR:=hy' hr;have HD:=hy' hbd;have HA:=hy' hA;clear hn hr hbd hA;go_enter func165,ntmps165;go_wp2_with fail;go_loopw [9,10] (fun vi vj wr=>∃i j:Nat,i≤j∧j≤n∧vi=.int .i64 i∧vj=.int .i64 j∧(∀t r,t<i→T[t]?=some r→r.1<d)∧(∀t r,j≤t→T[t]?=some r→d≤r.1)∧Below w.heap.size w wr) (fun vi vj _=>(intOf vj).toNat-(intOf vi).toNat)
 case atStart=>exact⟨0,n,by omega,Za _,rfl,rfl,fun t r ht=>by omega,fun t r ht hx=>by have:=(List.getElem?_eq_some_iff.1 hx).1;have:=HN.o;omega,Zd _ _⟩
 obtain⟨i,j,hij,aq,rfl,rfl,ap,ao,aa⟩:=hrel;have aj:=hy' ap;have ak:=hy' ao;have HB:=hy' aa;clear ap ao
 by_cases hlt:(i:Int)<j
 · obtain⟨x,hx⟩:∃x,T[(i+j)/2]?=some x:=⟨_,Zb (by rw[HN.o];omega)⟩;obtain⟨b,o,a,ai,hb,c0,c1,c2,_⟩:=(HA.o.below aa).row hx;have ah:=(HD.o x (Zj hx)).1;have hc:=zKk x.1 d (.int .i64 x.2.1) (.slice a.1 x.2.2.length a.2) wr ah.1 ah.2 h3 h4;have HX:=hy' hx;have m0:(0:Int)≤(((i+j)/2:Nat):Int):=by omega
   have m1:(((i+j)/2:Nat):Int)<n:=by omega
   subst ai;clear aa hx;go_wp2_with fail;refine hc.mono ?_;rintro e w1 ⟨rfl,ag⟩;have hz:=HB.o.size;have ae:=hy' (HB.o.trans (ag.mono hz));have ar:i<j:=by omega
   clear ag hc c0 c1 c2 hlt
   by_cases hd:x.1-d<0
   · go_wp2_with fail;refine⟨⟨(i+j)/2+1,j,by omega,aq,by go_num,rfl,fun t r ht hx=>?_,ak.o,ae.o⟩,by simp[intOf];omega⟩
     by_cases he:t=(i+j)/2
     · rw[he,HX.o]at hx;cases hx
       omega
     have:=zDr HR.o hx HX.o (by omega);omega
   go_wp2_with fail;refine⟨⟨i,(i+j)/2,by omega,by omega,rfl,by go_num,aj.o,fun t r ht hx=>?_,ae.o⟩,by simp[intOf];omega⟩
   by_cases he:t=(i+j)/2
   · rw[he,HX.o]at hx;cases hx
     omega
   have:=zDr HR.o HX.o hx (by omega);omega
 obtain rfl:i=j:=by omega
 have hcut:=zNK HR.o d i aj.o ak.o
 by_cases hin:(i:Int)<n
 · obtain⟨x,hx⟩:∃x,T[i]?=some x:=⟨_,Zb (by rw[HN.o];omega)⟩;obtain⟨b,o,a,ai,hb,c0,c1,c2,_⟩:=(HA.o.below aa).row hx;have ah:=(HD.o x (Zj hx)).1;have hc:=zKk x.1 d (.int .i64 x.2.1) (.slice a.1 x.2.2.length a.2) wr ah.1 ah.2 h3 h4;have HX:=hy' hx;rw[hx,Zv]at hcut;have af:=hy' hcut;have m0:(0:Int)≤(i:Int):=by omega
   subst ai;clear aa hx hcut hlt;go_wp2_with fail;refine hc.mono ?_;rintro e w1 ⟨rfl,ag⟩;have ae:=hy' (HB.o.trans (ag.mono HB.o.size));clear ag hc c0 c1 c2;rcases hz:(x.1-d == 0) with _|_
   · have hne:¬x.1=d:=fun e=>by simp[e]at hz
     have HH:Hy (zPg T d i false):=hy' ⟨fun e=>Bool.noConfusion e,fun _=>by rw[af.o,Zk hne]⟩;clear hne;go_wp2_with fail;go_ret2;exact⟨i,false,rfl,HH.o,ae.o⟩
   have he:x.1=d:=by have:=beq_iff_eq.1 hz;omega
   have HH:Hy (zPg T d i true):=hy' ⟨fun _=>⟨x,HX.o,by rw[af.o,Zl he]⟩,fun e=>Bool.noConfusion e⟩;clear he;go_wp2_with fail;go_ret2;exact⟨i,true,rfl,HH.o,ae.o⟩
 rw[Yn (by rw[HN.o];omega),Option.bind_none]at hcut;have HH:Hy (zPg T d i false):=hy' ⟨fun e=>Bool.noConfusion e,fun _=>hcut⟩;clear aa hcut hlt;go_wp2_with fail;go_ret2;exact⟨i,false,rfl,HH.o,HB.o⟩
def Rw.At (w:World) (b:Nat) (t:TypeId) (cs:List Value):Prop:=w.heap[b]?=some (.cells cs.toArray t (0,0))
theorem Rw.At.lt {w:World} {b:Nat} {t:TypeId} {cs:List Value} (h:Rw.At w b t cs):b<w.heap.size:=zCF h
theorem Rw.At.cell {w:World} {b:Nat} {t:TypeId} {cs:List Value} (h:Rw.At w b t cs) (i:Nat) {v:Value} (hv:cs[i]?=some v):w.cell? ⟨b,i,none⟩=some v:=by
 unfold Rw.At at h;simp[World.cell?,h,hv]
theorem Rw.At.frozen {w:World} {b:Nat} {t:TypeId} {cs:List Value} (h:Rw.At w b t cs) (i:Nat):w.frozen? ⟨b,i,none⟩=false:=by
 unfold Rw.At at h;simp[World.frozen?,h]
theorem Rw.At.set {w:World} {b:Nat} {t:TypeId} {cs:List Value} (h:Rw.At w b t cs) (i:Nat) (v:Value):Rw.At (w.setCell ⟨b,i,none⟩ v) b t (cs.set i v):=by
 obtain⟨aa,hk⟩:=Array.getElem?_eq_some_iff.1 h;show (w.heap.modify b _)[b]?=_;rw[Xr (by rw[QV];exact aa),QT,hk];simp
theorem Rw.At.grown {w w':World} {b:Nat} {t:TypeId} {cs:List Value} {row:Option Nat} (h:Rw.At w b t cs) (hg:w.grownBy w' row) (hr:row≠some b):Rw.At w' b t cs :=
 (hg.block b h.lt fun e=>hr e.symm).trans h
theorem Rw.At.below {w w':World} {b:Nat} {t:TypeId} {cs:List Value} (h:Rw.At w b t cs) (hb:Below w.heap.size w w'):Rw.At w' b t cs:=(hb.block b h.lt).trans h
theorem Rw.At.new (w:World) (t:TypeId) (cs:List Value):Rw.At (w.alloc (.cells cs.toArray t)) w.heap.size t cs:=World.alloc_heap_new w _
theorem Rw.grown_below {w w':World} (h:Below w.heap.size w w'):w.grownBy w' none:=⟨h.os,h.tape,h.output,h.size,fun k hk _=>h.block k hk⟩
theorem Rw.At.three {w:World} {b:Nat} {t:TypeId} {u v x:Value} (h:Rw.At w b t [u,v,x]) :
 w.cell? ⟨b,0,none⟩=some u∧w.cell? ⟨b,1,none⟩=some v∧w.cell? ⟨b,2,none⟩=some x∧w.frozen? ⟨b,0,none⟩=false∧w.frozen? ⟨b,1,none⟩=false∧w.frozen? ⟨b,2,none⟩=false :=
 ⟨h.cell 0 rfl,h.cell 1 rfl,h.cell 2 rfl,h.frozen 0,h.frozen 1,h.frozen 2⟩
theorem Rw.At.below' {w w':World} {b B:Nat} {t:TypeId} {cs:List Value} (h:Rw.At w b t cs) (hb:Below B w w') (hB:b<B):Rw.At w' b t cs:=(hb.block b hB).trans h
theorem Rw.At.other {w:World} {b b' i:Nat} {t:TypeId} {cs:List Value} (h:Rw.At w b t cs) (hne:b≠b') (v:Value):Rw.At (w.setCell ⟨b',i,none⟩ v) b t cs :=
 (Yk _ _ _ b hne).trans h
theorem Rw.At.alloc {w:World} {b:Nat} {t:TypeId} {cs:List Value} (h:Rw.At w b t cs) (o:Obj):Rw.At (w.alloc o) b t cs:=(Q3 _ _ _ h.lt).trans h
theorem Slt.setAt {w:World} {t t':TypeId} {A:Option Addr} {xs cs:List Value} {b:Nat} (h:Slt w t A xs) (k:Rw.At w b t' cs) (hne:t'≠t) (i:Nat) (v:Value):Slt (w.setCell ⟨b,i,none⟩ v) t A xs:=by
 intro hx;obtain⟨g,o,cs',hA,hb,hc⟩:=h hx;refine⟨g,o,cs',hA,(Yk _ _ _ g fun e=>?_).trans hb,hc⟩;have e:g=b:=e;subst e;have:=k.symm.trans hb;simp only[Zg,XN]at this;exact hne this.2.1
theorem zEi {P:Program} {fn:Func} {p u:Tmp} {ty:TypeId} (h:fn.results = #[.cell p ty,.tmp u]) (tmps:Array Value) (w:World) (g:Nat) (t:TypeId) (cs:Array Value) (fr:Nat × Nat) (d:TypeDesc)
 (hp:tmps.getD p undef=.pointer (some ⟨g,0,none⟩)) (hg:w.heap[g]?=some (.cells cs t fr))
 (hu:P.underlying ty=some d) (hd:(match d with | .struct _ | .array _ _=>true|_=>false)=true) (hi:(P.info? ty).map (·.size)=some cs.size) :
 (results fn tmps).run P w=.ok (.tuple #[.agg cs,tmps.getD u undef]) w:=by
 have aa:tmps[p]?.getD undef=.pointer (some ⟨g,0,none⟩):=by simpa using hp
 simp[results,h,aa,asAddr,Qf w g t ty cs fr d hg hu hd hi]
theorem Rw.grown_set {w:World} (b i:Nat) (v:Value):w.grownBy (w.setCell ⟨b,i,none⟩ v) (some b) :=
 ⟨rfl,rfl,rfl,(by show w.heap.size≤(w.heap.modify b _).size;rw[QV];exact Za _),fun k _ hk=>Yk _ _ _ k (fun e=>hk (by rw[show k=b from e]))⟩
theorem zA0 {w w' w'':World} {row:Option Nat} (h:w.grownBy w' row) (h':w'.grownBy w'' row):w.grownBy w'' row :=
 ⟨h'.os.trans h.os,h'.tape.trans h.tape,h'.output.trans h.output,Zh h.size h'.size,fun k hk hne=>(h'.block k (Zf hk h.size) hne).trans (h.block k hk hne)⟩
theorem zAo {w w':World} {row:Option Nat} (h:Below w.heap.size w w'):w.grownBy w' row:=⟨h.os,h.tape,h.output,h.size,fun k hk _=>h.block k hk⟩
theorem zMe {w w':World} {row:Option Nat} (h:w.grownBy w' none):w.grownBy w' row:=⟨h.os,h.tape,h.output,h.size,fun k hk _=>h.block k hk (by simp)⟩
theorem Rw.At.not {w:World} {b:Nat} {t t':TypeId} {cs:List Value} (h:Rw.At w b t cs) (hne:t≠t'):∀cs' z,w.heap[b]?≠some (.cells cs' t' z):=fun cs' z e=>by
 have:=h.symm.trans e;simp only[Zg,XN]at this;exact hne this.2.1
def zB8 (A:Option Addr) (n c:Nat) (XA:Option Addr) (xn xc:Nat):Value:=.agg #[.slice A n c,.slice XA xn xc]
def zIo (r:Rw.Row) (a:Option Addr × Nat):Value:=.agg #[.int .i32 r.1,.int .i64 r.2.1,.slice a.1 r.2.2.length a.2]
def Md.rowOf (T:List Rw.Row) (d:Int):Rw.Row:=(Md.find T d).getD (0,0,[])
theorem zR2 (T:List Rw.Row) (d:Int):Md.cls T d=(Md.rowOf T d).2.1:=by
 unfold Md.cls Md.rowOf;cases Md.find T d <;> rfl
theorem zR3 (T:List Rw.Row) (d:Int):zB3 T d=(Md.rowOf T d).2.2:=by
 unfold zB3 Md.rowOf;cases Md.find T d <;> rfl
def Md.RetFind (T:List Rw.Row) (d:Int) (w:World) (e:Ending) (w':World):Prop :=
 ∃a:Option Addr × Nat,e=.returned (.tuple #[zIo (Md.rowOf T d) a,.bool (Md.find T d).isSome])∧Sl w' w'.heap.size a.1 ((Md.rowOf T d).2.2.map (Value.int .i32))∧Below w.heap.size w w'
theorem Md.find_any (A:Option Addr) (n c:Nat) (XA:Option Addr) (xn xc:Nat) (T:List Rw.Row) (d:Int) (w:World) (hn:T.length=n) (a6:n≤1000000) (hr:Md.rises T) (hbd:Md.bd T) (h3 : -2147483648≤d) (h4:d≤2147483647) (hA:Rw.Sees w A T) :
 Calls prog 128 #[zB8 A n c XA xn xc,.int .i32 d] w (Md.RetFind T d w):=by
 obtain⟨wa,ak⟩:∃wa,(w.alloc (.cells #[.slice A n c,.slice XA xn xc] 95)).alloc (.cells #[.int .i32 0,.int .i64 0,.slice none 0 0] 103)=wa:=⟨_,rfl⟩;have av:Below w.heap.size w wa:=by rw[←ak];exact ((Zd _ _).alloc (Za _) _).alloc (by simp) _
 have af:Rw.At wa w.heap.size 95 [.slice A n c,.slice XA xn xc]:=by rw[←ak];exact (Rw.At.new w 95 [.slice A n c,.slice XA xn xc]).alloc _
 have ag:Rw.At wa (w.heap.size+1) 103 [.int .i32 0,.int .i64 0,.slice none 0 0]:=by
  have h:=Rw.At.new (w.alloc (.cells #[.slice A n c,.slice XA xn xc] 95)) 103 [.int .i32 0,.int .i64 0,.slice none 0 0];rw[ZD]at h;rw[←ak];exact h
 have a1:w.heap.size+1<wa.heap.size:=ag.lt;have hS:=Md.search_any A n c T d wa hn a6 hr hbd h3 h4 (hA.below av);have a8:=hy' ak;have HN:=hy' hn;have HA:=hy' hA;have aw:=hy' av;have z0:=af.cell 0 rfl;clear ak av hA hr hbd hn;unfold zB8;go_enter func128,ntmps128;go_upto_region 1 with (fail)
 rw[a8.o];go_wp2_with fail;refine hS.mono ?_;rintro e w1 ⟨i,is,rfl,ao,ar⟩;have au:=af.below ar;have aa:=ag.below ar;have z2:=au.cell 0 rfl;obtain⟨m1,m2,m3,m4,m5,m6⟩:=aa.three;have bb:w.heap.size+1<w1.heap.size:=aa.lt;have ae:=hy' (aw.o.trans (ar.mono aw.o.size));have ai:=hy' ao;clear ar ao hS z0 af ag a1;have aj:=hy' aa;clear aa;cases is
 · have hf:=ai.o.2 rfl;have hro:Md.rowOf T d=(0,0,[]):=by unfold Md.rowOf;rw[hf];rfl
   have HF:=hy' hf;have ap:=hy' hro;clear hf hro;go_wp2_with fail;have ah:=((aj.o.set 0 (.int .i32 0)).set 1 (.int .i64 0)).set 2 (.slice none 0 0);refine YD (zEi rfl _ _ (w.heap.size+1) _ _ _ _ rfl ah underlying103 rfl (by kernel_rfl)) rfl ⟨(none,0),?_,?_,?_⟩
   · rw[ap.o,HF.o];rfl
   · rw[ap.o];exact Sl.nil _ _ _
   exact ((ae.o.setCell (p:=⟨w.heap.size+1,0,none⟩) (by simp) _).setCell (p:=⟨w.heap.size+1,1,none⟩) (by simp) _).setCell (p:=⟨w.heap.size+1,2,none⟩) (by simp) _
 obtain⟨r,hr,hf⟩:=ai.o.1 rfl;obtain⟨b,o,a,a7,hb,az,ay,ax,aq⟩:=HA.o.row hr;have c0:=((zAU ae.o).1 b (o+i*3) hb).trans az;have c1:=((zAU ae.o).1 b (o+i*3+1) hb).trans ay;have c2:=((zAU ae.o).1 b (o+i*3+2) hb).trans ax;have ba:b<w1.heap.size:=Zf hb ae.o.size;have m0:(0:Int)≤(i:Int):=by omega
 have m7:(i:Int)<n:=by have:=(List.getElem?_eq_some_iff.1 hr).1;have:=HN.o;omega
 have hro:Md.rowOf T d=r:=by unfold Md.rowOf;rw[hf];rfl
 have HF:=hy' hf;have ap:=hy' hro;have HM:=hy' aq;subst a7;clear hr hf hro aq az ay ax;go_wp2_with fail;have ah:=((aj.o.set 0 (.int .i32 r.1)).set 1 (.int .i64 r.2.1)).set 2 (.slice a.1 r.2.2.length a.2);refine YD (zEi rfl _ _ (w.heap.size+1) _ _ _ _ rfl ah underlying103 rfl (by kernel_rfl)) rfl ⟨a,?_,?_,?_⟩
 · rw[ap.o,HF.o];rfl
 · rw[ap.o];exact HM.o.below (((ae.o.setCell (p:=⟨w.heap.size+1,0,none⟩) (by simp) _).setCell (p:=⟨w.heap.size+1,1,none⟩) (by simp) _).setCell (p:=⟨w.heap.size+1,2,none⟩) (by simp) _) (by simpa using ae.o.size)
 exact ((ae.o.setCell (p:=⟨w.heap.size+1,0,none⟩) (by simp) _).setCell (p:=⟨w.heap.size+1,1,none⟩) (by simp) _).setCell (p:=⟨w.heap.size+1,2,none⟩) (by simp) _
def zTF (l:List Int) (w:World) (e:Ending) (w':World):Prop :=
 ∃A c,e=.returned (.agg #[.slice A l.length c])∧w'.ownsRow w.heap.size 21 1 (.slice A l.length c) l.length (l.map (Value.int .i32))∧Below w.heap.size w w'
theorem zSR {w wr:World} {cs:Array Value} {t:TypeId} (h:Below (w.heap.size+1) (w.alloc (.cells cs t)) wr):wr.heap[w.heap.size]?=some (.cells cs t (0,0))∧Below w.heap.size w wr:=by
 refine⟨(h.block w.heap.size (by omega)).trans (ZW _ _),?_⟩;exact ((Zd _ _).alloc (Za _) _).trans (h.mono (by omega))
theorem zIA {w:World} {g:Nat} {cs:Array Value} {t:TypeId} (h:w.heap[g]?=some (.cells cs t (0,0))) (i:Nat):w.cell? ⟨g,i,none⟩=cs[i]?∧w.frozen? ⟨g,i,none⟩=false:=by
 constructor
 · simp[World.cell?,h]
 simp[World.frozen?,h]
theorem own_base {w:World} {base aa:Nat} {e:TypeId} {size n:Nat} {v:Value} {xs:List Value} (h:w.ownsRow base e size v n xs) (hb:aa≤base):w.ownsRow aa e size v n xs:=by
 obtain⟨h1,h2⟩:=h;refine⟨h1,?_⟩;rcases h2 with h2|⟨g,cap,ae,hv,hg,r⟩
 · exact .inl h2
 exact .inr ⟨g,cap,ae,hv,by omega,r⟩
theorem zSf {w:World} {g:Nat} {u v:Value} {t:TypeId} (h:w.heap[g]?=some (.cells #[u] t (0,0))):(w.setCell ⟨g,0,none⟩ v).heap[g]?=some (.cells #[v] t (0,0)):=by
 simp[World.setCell,YS,h]
def C.par (i:Nat):Bool:=((i:Int)%2 == 1)
theorem zR4 (i:Nat) (hi:i<9223372036854775808):bits BinOp.and IntKind.i64 (i:Int) 1=((i%2:Nat):Int):=by
 have aa:(2:Int) ^ 63=9223372036854775808:=by decide
 have h:=bits_mask .i64 63 (by decide) (fun n h0 h1=>by rw[aa]at h1;rw[Ya];omega) 1 (by decide) (i:Int) (by omega) (by rw[aa];omega);have e:((2:Int) ^ 1-1)=1:=by decide
 rw[e]at h;rw[h];omega
theorem Sl.ints {w:World} {B:Nat} {A:Option Addr} {k:IntKind} {l:List Int} (h:Sl w B A (l.map (Value.int k))) {i:Nat} {x:Int} (hx:l[i]?=some x):∃b o,A=some ⟨b,o,none⟩∧b<B∧w.cell? ⟨b,o+i,none⟩=some (.int k x)∧∀j y,l[j]?=some y→w.cell? ⟨b,o+j,none⟩=some (.int k y):=by
 have hi:i<l.length:=(List.getElem?_eq_some_iff.1 hx).1;obtain⟨b,o,hA,hb,hc⟩:=h (by rw[Ze];omega)
 have hj:∀j y,l[j]?=some y→w.cell? ⟨b,o+j,none⟩=some (.int k y):=by
  intro j y hy;have hj:j<l.length:=(List.getElem?_eq_some_iff.1 hy).1;rw[hc j (by rw[Ze];omega),Zt,hy];rfl
 exact⟨b,o,hA,hb,hj i x hx,hj⟩
theorem C.enter {P:Program} {f:FuncId} {fn:Func} {c:Code} (hf:P.funcs[f]?=some fn) (aa:(fn.name == "runtime.NumGoroutine")=false) (hb:fn.body=some c) (args:Array Value) (w:World) :
 (callFunc f args).run P w=.ok (.enter f args) w:=by
 have h1:fn.name ≠ "runtime.NumGoroutine" := by simpa using aa
 simp[callFunc,hf,h1,hb]
theorem zC0 (A:Option Addr) (n c B:Nat) (l:List Int) (w:World) (hn:l.length=n) (ao:n≤1000000) (hB:B≤w.heap.size) (hA:Sl w B A (l.map (Value.int .i32))) :
 Calls prog 74 #[.slice A n c] w fun r w'=>∃A' c',r=.returned (.slice A' n c')∧w'.ownsRow w.heap.size 21 1 (.slice A' n c') n (l.map (Value.int .i32))∧Go.RowKit.Below w.heap.size w w':=by
 obtain⟨j0,hj0,aj,ah,ag⟩:=Z9 zCv;have HN:=hy' hn;clear hn;rcases A with _|ad
 · have hl:l=[]:=by
    rcases l with _|⟨x,t⟩
    · rfl
    obtain⟨b,o,h,_⟩:=hA (by simp);cases h
   subst hl;obtain rfl:0=n:=HN.o;have ai:∀w,(binOp .eql 79 (.slice none 0 c) (.slice none 0 0)).run prog w=.ok (.bool true) w:=fun w=>by kernel_rfl
   go_enter func74,ntmps74;go_wp2;go_ret;exact⟨none,0,rfl,ZG _ _ _ _,Zd _ _⟩
 have af:Go.RowKit.Below w.heap.size w (w.alloc (.cells #[] 21)):=(Zd _ _).alloc (Za _) _;have hS:=hy' (hA.belowN af hB (Za _));have ai:∀w,(binOp .eql 79 (.slice (some ad) n c) (.slice none 0 0)).run prog w=.ok (.bool false) w:=fun w=>by first|exact Lib.run_eql_slice_nil w _ _ _ _ _ underlying79|kernel_rfl|simp[binOp,Op.equal,Op.maxDepth,Op.equalIn,Xn underlying79]
 have ae:(w.alloc (.cells #[] 21)).ownsRow w.heap.size 21 1 (.slice (some ⟨w.heap.size,0,none⟩) 0 0) 0 []:=⟨rfl,.inr ⟨w.heap.size,0,#[],rfl,Za _,ZW w _,Za _,by decide,rfl,rfl⟩⟩;go_enter func74,ntmps74;go_wp2_with (at_builtin;refine zAh _ rfl _ _ _ rfl w.heap.size 21 j0 _ 1 4 underlying79 hj0 aj ah ag rfl (by omega) _ 0 _ rfl ae _ (some ad) n c (l.map (Value.int .i32)) rfl (by rw[Ze,HN.o];omega) hS.out (zFq _ _) (by simp only[maxLen];omega) (by omega) (by simp) ?_;intro v1 w2 aa ak _);obtain⟨A5,c5,rfl⟩:=zA3 aa;go_wp2;go_ret;rw[Z4]at aa;exact⟨A5,c5,by simp,by simpa using aa,af.trans ak⟩
def Md.Ok (T:List Rw.Row):Prop:=T.length≤1000000∧Md.rises T∧Md.bd T∧∀r∈T,r.2.2.length≤1000000
def Md.Is (w:World) (v:Value) (T:List Rw.Row) (S:List Int):Prop:=∃A c XA xc,v=zB8 A T.length c XA S.length xc∧Rw.Sees w A T∧Sl w w.heap.size XA (S.map (Value.int .i32))
theorem Md.Is.below {w w':World} {v:Value} {T:List Rw.Row} {S:List Int} (h:Md.Is w v T S) (hb:Below w.heap.size w w'):Md.Is w' v T S:=by
 obtain⟨A,c,XA,xc,h1,h2,h3⟩:=h;exact⟨A,c,XA,xc,h1,h2.below hb,h3.below hb hb.size⟩
theorem zHa {v:Value} {T:List Rw.Row} {S:List Int} {w:World} (d:Int) (ok:Md.Ok T) (h:Md.Is w v T S) (h3 : -2147483648≤d) (h4:d≤2147483647) :
 Calls prog 128 #[v,.int .i32 d] w (Md.RetFind T d w):=by
 obtain⟨A,c,XA,xc,rfl,h2,_⟩:=h;exact Md.find_any A T.length c XA S.length xc T d w rfl ok.1 ok.2.1 ok.2.2.1 h3 h4 h2
theorem Md.class_any (v:Value) (T:List Rw.Row) (S:List Int) (d:Int) (w:World) (ok:Md.Ok T) (h:Md.Is w v T S) (h3 : -2147483648≤d) (h4:d≤2147483647) :
 Calls prog 164 #[v,.int .i32 d] w fun e w'=>e=.returned (.int .i64 (Md.cls T d))∧Below w.heap.size w w':=by
 rw[zR2];have hv:=h;obtain⟨A,c,XA,xc,rfl,h2,hX⟩:=hv;obtain⟨xn,hxn⟩:∃k,S.length=k:=⟨_,rfl⟩;obtain⟨n,hn⟩:∃k,T.length=k:=⟨_,rfl⟩;rw[hn,hxn]at h ⊢;have aa:Below w.heap.size w (w.alloc (.cells #[.slice A n c,.slice XA xn xc] 95)):=(Zd _ _).alloc (Za _) _;have ae:Rw.At (w.alloc (.cells #[.slice A n c,.slice XA xn xc] 95)) w.heap.size 95 [.slice A n c,.slice XA xn xc]:=Rw.At.new w 95 [.slice A n c,.slice XA xn xc];have hF:=zHa d ok (h.below aa) h3 h4;have z0:=ae.cell 0 rfl;have z1:=ae.cell 1 rfl;have HB:=hy' aa;clear h h2 hX hn hxn aa ae ok;unfold zB8 at hF ⊢;go_enter func164,ntmps164;go_wp2_with fail;refine hF.mono ?_;rintro e w1 ⟨a,rfl,_,ag⟩;have af:=hy' (HB.o.trans (ag.mono HB.o.size));clear ag z0 z1 hF;unfold zIo;obtain⟨r,hr⟩:∃r,Md.rowOf T d=r:=⟨_,rfl⟩;rw[hr];have HR:=hy' hr;clear hr;go_wp2_with fail;go_ret;rw[HR.o];exact⟨rfl,af.o.alloc af.o.size _⟩
def zBc (l:List Int) (w:World) (e:Ending) (w':World):Prop :=
 ∃A c,e=.returned (.slice A l.length c)∧w'.ownsRow w.heap.size 21 1 (.slice A l.length c) l.length (l.map (Value.int .i32))∧Below w.heap.size w w'
theorem zPJ (v:Value) (T:List Rw.Row) (S:List Int) (d:Int) (w:World) (ok:Md.Ok T) (h:Md.Is w v T S) (h3 : -2147483648≤d) (h4:d≤2147483647) :
 Calls prog 163 #[v,.int .i32 d] w (zBc (Md.mp T d) w):=by
 have hv:=h;obtain⟨A,c,XA,xc,rfl,h2,hX⟩:=hv;obtain⟨xn,hxn⟩:∃k,S.length=k:=⟨_,rfl⟩;obtain⟨n,hn⟩:∃k,T.length=k:=⟨_,rfl⟩;rw[hn,hxn]at h ⊢;have ai:Below w.heap.size w (w.alloc (.cells #[.slice A n c,.slice XA xn xc] 95)):=(Zd _ _).alloc (Za _) _;have aj:Rw.At (w.alloc (.cells #[.slice A n c,.slice XA xn xc] 95)) w.heap.size 95 [.slice A n c,.slice XA xn xc]:=Rw.At.new w 95 [.slice A n c,.slice XA xn xc];have hF:=zHa d ok (h.below ai) h3 h4;have z0:=aj.cell 0 rfl;have z1:=aj.cell 1 rfl;have HB:=hy' ai;have hmb:=zIz ok.2.2.1 d
 have hlen:(Md.rowOf T d).2.2.length≤1000000:=by
  unfold Md.rowOf;cases hf:Md.find T d with
  | none=>exact Zq _
  | some r=>exact ok.2.2.2 r (zAx hf).1
 have HP:=hy' (zBZ d (w.alloc (.cells #[.slice A n c,.slice XA xn xc] 95)) h3 h4);obtain⟨m,hm⟩:∃m,Md.mp T d=m:=⟨_,rfl⟩;rw[hm]at hmb ⊢;have HM:=hy' hm;rcases hpk:zAl d with ⟨x,y,is⟩
 have hp:=HP.o;rw[hpk]at hp;have af:=hy' hpk;clear h h2 hX hn hxn ai aj ok hm hpk HP;unfold zB8 at hF ⊢;cases is
 · have ah:m=(Md.rowOf T d).2.2:=by
    rw[←HM.o,←zR3];unfold Md.mp;rw[af.o,Zk (by simp)]
   obtain⟨r,hr⟩:∃r,Md.rowOf T d=r:=⟨_,rfl⟩;unfold Md.RetFind at hF;rw[hr]at ah hlen hF;subst ah;clear hr HM af hmb;go_enter func163,ntmps163;go_wp2_with fail;refine hp.mono ?_;rintro e w0 ⟨rfl,rfl⟩;go_wp2_with fail;refine hF.mono ?_;rintro e w1 ⟨a,rfl,ap,aq⟩;have ao:=hy' (HB.o.trans (aq.mono HB.o.size));have ag:Below w1.heap.size w1 (w1.alloc (.cells #[.int .i32 r.1,.int .i64 r.2.1,.slice a.1 r.2.2.length a.2] 103)):=(Zd _ _).alloc (Za _) _;have hC:=zC0 a.1 r.2.2.length a.2 _ r.2.2 _ rfl hlen (Za _) (ap.below ag ag.size);have ak:=hy' (ao.o.trans (ag.mono ao.o.size));clear aq z0 z1 hF ap ag hp;unfold zIo;go_wp2_with fail;refine hC.mono ?_;rintro e w2 ⟨A',c',rfl,ae,ar⟩;have HO:=hy' (own_base ae ak.o.size);have au:=hy' (ak.o.trans (ar.mono ak.o.size));clear ae ar hC;go_wp2_with fail;go_ret;exact⟨A',c',rfl,HO.o,au.o⟩
 have ah:m=[x,y]:=by
  rw[←HM.o];unfold Md.mp;rw[af.o,Zl rfl]
 subst ah;clear HM af hF hlen;go_enter func163,ntmps163;go_wp2_with fail;refine hp.mono ?_;rintro e w0 ⟨rfl,rfl⟩;go_wp2_with fail;go_ret;have aa:=ZW (w.alloc (.cells #[.slice A n c,.slice XA xn xc] 95)) (.cells #[.int .i32 x,.int .i32 y] 21);rw[ZD]at aa;exact⟨_,_,rfl,⟨rfl,.inr ⟨_,_,#[.int .i32 x,.int .i32 y],rfl,ZZ _,aa,Za _,by decide,rfl,rfl⟩⟩,HB.o.alloc HB.o.size _⟩
theorem Pg.in_any (c:Int) (w:World):Calls prog 110 #[.int .i32 c] w fun e w'=>e=.returned (.bool (decide (0≤c∧c≤1114111)))∧w=w':=by
 go_enter func110,ntmps110
 by_cases h0:0≤c
 · by_cases h1:c≤1114111
   · go_wp2;go_ret;exact⟨zCc (by simp;omega),rfl⟩
   go_wp2;go_ret;exact⟨zCc (by simp;omega),rfl⟩
 go_wp2;go_ret;exact⟨zCc (by simp;omega),rfl⟩
theorem Pg.and_8 (n:Int) (h0:0≤n) (h1:n≤1114111):bits .and .i32 n 255=n%256:=by
 have hm:(BitVec.ofInt 32 255).toNat=2 ^ 8-1:=by decide
 have key:(BitVec.ofInt 32 n &&& BitVec.ofInt 32 255).toNat=(n%((2 ^ 32:Nat):Int)).toNat%2 ^ 8:=by
  rw[XC,Xo,hm,Yj]
 show IntKind.i32.wrap ((BitVec.ofInt 32 n &&& BitVec.ofInt 32 255).toNat:Nat)=n%256;rw[key,Qu];omega
def Pg.Is (w:World) (v:Value) (idx:List Int) (bl:List (List Int)):Prop :=
 ∃g A c,v=.pointer (some ⟨g,0,none⟩)∧Rw.At w g 205 (idx.map (Value.int .u16)++[.slice A bl.length c])∧Sl w w.heap.size A (bl.flatten.map (Value.int .u16))
def Pg.Of (w:World) (v:Value) (f:Int→Int):Prop:=Pg.Is w v (Pg.idx f 4352) (zAr f 4352)
theorem Pg.Is.below {w w':World} {v:Value} {idx:List Int} {bl:List (List Int)} (h:Pg.Is w v idx bl) (hb:Below w.heap.size w w'):Pg.Is w' v idx bl:=by
 obtain⟨g,A,c,hv,ha,hs⟩:=h;exact⟨g,A,c,hv,ha.below hb,hs.below hb hb.size⟩
theorem zCy {w:World} {g:Nat} {t:TypeId} {xs:List Value} {v:Value} (h:Rw.At w g t (xs++[v])) {n:Nat} (hn:xs.length=n):w.cell? ⟨g,n,none⟩=some v :=
 h.cell n (by rw[ZO (by omega),hn,Yu];rfl)
theorem zDU {w:World} {g:Nat} {t:TypeId} {xs:List Value} {v u:Value} (h:Rw.At w g t (xs++[v])) {n:Nat} (hn:xs[n]?=some u):w.cell? ⟨g,n,none⟩=some u :=
 h.cell n (by rw[Z1 (List.getElem?_eq_some_iff.1 hn).1];exact hn)
def Pg.get (f:Int→Int) (c:Int):Int:=if 0≤c∧c≤1114111 then f c else 0
theorem zKl (v:Value) (f:Int→Int) (c:Int) (w:World) (h:Pg.Of w v f) :
 Calls prog 75 #[v,.int .i32 c] w fun e w'=>e=.returned (.int .u16 (Pg.get f c))∧Below w.heap.size w w':=by
 obtain⟨g,A,cp,rfl,ae,hs⟩:=h;obtain⟨o,ho⟩:∃o,Pg.get f c=o:=⟨_,rfl⟩;rw[ho]
 by_cases hc:0≤c∧c≤1114111
 rotate_left
 · have ah:o=0:=by rw[←ho];unfold Pg.get;rw[if_neg hc]
   subst ah;have hI:=Pg.in_any c w;rw[Zp hc]at hI;have HI:=hy' hI;clear hI ho hc ae hs;go_enter func75,ntmps75;go_wp2_with fail;refine HI.o.mono ?_;rintro e w1 ⟨rfl,rfl⟩;go_wp2_with fail;go_ret;exact⟨rfl,Zd _ _⟩
 obtain⟨N,hN⟩:∃N:Nat,c/256=N:=⟨(c/256).toNat,by omega⟩;obtain⟨M,hM⟩:∃M:Nat,c%256=M:=⟨(c%256).toNat,by omega⟩;have aq:N<4352:=by omega
 have av:M<256:=by omega
 have af:c=256*(N:Int)+M:=by omega
 have hand:=Pg.and_8 c hc.1 hc.2;rw[hM]at hand;have aa:=(zDT f 4352 (zAc f N)).2 (.inr ⟨N,aq,rfl⟩);have ao:=zPD f 4352 aq;have ap:=zPe aa;have aj:=zQY aa;have au:=zH6 f 4352;obtain⟨p,hp⟩:∃p,Pg.at (zAr f 4352) (zAc f N)=p:=⟨_,rfl⟩;rw[hp]at ao ap aj;have ai:=zIS (zAr f 4352) p M _ (zEh f 4352) aj av;rw[zH5 f N av]at ai;obtain⟨bn,ag⟩:∃bn,(zAr f 4352).length=bn:=⟨_,rfl⟩;rw[ag]at ap au ae;have z0:=zDU ae (n:=N) (u:=.int .u16 p) (by rw[Zt,ao];rfl);have z1:=zCy ae (n:=4352) (by rw[Ze,zCn]);obtain⟨b,o',rfl,hb,ar⟩:=hs (by rw[Ze,zG5 _ (zEh f 4352),ag];omega);have ak:=ar (p*256+M) (by rw[Ze,zG5 _ (zEh f 4352),ag];omega);rw[Zt,ai,Zw,←af]at ak;have ah:f c=o:=by rw[←ho];unfold Pg.get;rw[if_pos hc]
 rw[ah]at ak;have hI:=Pg.in_any c w;rw[Zs hc]at hI;have HI:=hy' hI;have aw:(N:Int)<4352:=by omega
 have ax:(0:Int)≤N:=by omega
 have a7:(M:Int)<256:=by omega
 have ay:(0:Int)≤M:=by omega
 have az:(p:Int)<bn:=by omega
 have a6:(0:Int)≤p:=by omega
 have a1:=ae.lt;rw[←Yi]at ak;clear hI ho hc hM af aa ao aj hp ai ag hs ar ah au ae;go_enter func75,ntmps75;go_wp2_with fail;refine HI.o.mono ?_;rintro e w1 ⟨rfl,rfl⟩;go_wp2_with fail;go_quiet (fail);go_wp2_with fail;go_ret;exact⟨rfl,below_drewN (Zd _ _) _⟩
open Go.ChangeMaps (setBlock modify_eq_set)
open Go.ChangeMaps
def Mp.Is (P:Program) (k:TypeId) (w:World) (b:Nat) (F:Value→Option Value):Prop :=
 ∃es clock,w.heap[b]?=some (.map es clock)∧(∀e∈es.toList,∃l,keyOf P k e.key=some l)∧(es.toList.Pairwise fun x y=>x.key≠y.key)∧∀x v,F x=some v↔∃e∈es.toList,e.key=x∧e.val=v
section
variable {P:Program} {k:TypeId} {w:World} {b:Nat} {F:Value→Option Value}
theorem Mp.Is.made (w:World) (P:Program) (k:TypeId):Mp.Is P k (w.alloc (.map #[] 0)) w.heap.size fun _=>none :=
 ⟨#[],0,ZW w _,fun e he=>by simp at he,by simp,fun x v=>by simp⟩
theorem Mp.Is.lt (h:Mp.Is P k w b F):b<w.heap.size:=by
 obtain⟨es,c,hb,_⟩:=h;exact zCF hb
theorem Mp.Is.below {w':World} (h:Mp.Is P k w b F) (hb:Below w.heap.size w w'):Mp.Is P k w' b F:=by
 have aa:=h.lt;obtain⟨es,c,hh,r⟩:=h;exact⟨es,c,(hb.block b aa).trans hh,r⟩
theorem Mp.Is.grown {w':World} {row:Option Nat} (h:Mp.Is P k w b F) (hg:w.grownBy w' row) (hne:some b≠row):Mp.Is P k w' b F:=by
 have aa:=h.lt;obtain⟨es,c,hh,r⟩:=h;exact⟨es,c,(hg.block b aa hne).trans hh,r⟩
theorem Mp.Is.look {t e:TypeId} (h:Mp.Is P k w b F) (K:Go.Maps.Keyed P k) (ht:P.underlying t=some (.map k e)) {z:Value} (hz:(zeroValue e).run P w=.ok z w) {x:Value} {l:Lit} (hk:keyOf P k x=some l) (c:Bool) :
 (Instr.lookup t (.map (some b)) x c).run P w=.ok (if c=true then .tuple #[(F x).getD z,.bool (F x).isSome] else (F x).getD z) w:=by
 obtain⟨es,clock,hb,aa,af,hF⟩:=h;rcases K.find w hk es.toList aa with ⟨h1,h2⟩|⟨j,e0,h1,h2,h3⟩
 · have hn:F x=none:=by
    cases hx:F x with
    | none=>rfl
    | some v =>
      obtain⟨e,he,ae,_⟩:=(hF x v).1 hx;exact absurd ae (h2 e he)
   rw[hn];simp[Instr.lookup,Xn ht,XH hb,K.check w _ hk,h1,hz,Result.andThen]
 have hn:F x=some e0.val:=(hF x _).2 ⟨e0,Zj h2,h3,rfl⟩;rw[hn];simp[Instr.lookup,Xn ht,XH hb,K.check w _ hk,h1,Result.andThen]
theorem Mp.Is.put {t e:TypeId} (h:Mp.Is P k w b F) (K:Go.Maps.Keyed P k) (ht:P.underlying t=some (.map k e)) {x v:Value} {l:Lit} (hk:keyOf P k x=some l) (F':Value→Option Value) (h1:F' x=some v) (h2:∀y,y≠x→F' y=F y) :
 ∃w',(Instr.mapUpdate t (.map (some b)) x v).run P w=.ok () w'∧Mp.Is P k w' b F'∧w.grownBy w' (some b):=by
 obtain⟨es,clock,hb,ag,af,hF⟩:=h;rcases K.find w hk es.toList ag with ⟨g1,g2⟩|⟨j,e0,g1,g2,g3⟩
 · refine⟨setBlock w b (.map (es.push ⟨x,v,clock⟩) (clock+1)),?_,⟨es.push ⟨x,v,clock⟩,clock+1,Qk hb _,?_,?_,?_⟩,⟨rfl,rfl,rfl,by simp[setBlock],fun i _ hi=>Qi hb _ (fun e=>hi (by rw[e]))⟩⟩
   · simp[Instr.mapUpdate,Xn ht,XH hb,K.check w false hk,g1,Jd _ hb,Result.andThen,setBlock]
   · intro e he;rw[QW]at he;rcases List.mem_append.1 he with he|he
     · exact ag e he
     rw[ZE]at he;subst he;exact⟨l,hk⟩
   · rw[QW,Jy];refine⟨af,by simp,fun a ha c hc=>?_⟩;rw[ZE]at hc;subst hc;exact g2 a ha
   intro y u;rw[QW]
   by_cases hy:y=x
   · subst hy;rw[h1];constructor
     · intro hu;cases hu
       exact⟨_,Xq _ (List.mem_singleton.2 rfl),rfl,rfl⟩
     rintro⟨a,ha,aa,hv⟩;rcases List.mem_append.1 ha with ha|ha
     · exact absurd aa (g2 a ha)
     rw[ZE]at ha;subst ha;exact ZR some hv
   rw[h2 y hy,hF y u];constructor
   · rintro⟨a,ha,r⟩;exact⟨a,YZ _ ha,r⟩
   rintro⟨a,ha,aa,hv⟩;rcases List.mem_append.1 ha with ha|ha
   · exact⟨a,ha,aa,hv⟩
   rw[ZE]at ha;subst ha;exact absurd aa.symm hy
 have hj:es[j]?=some e0:=by simpa using g2
 have ah:j<es.toList.length:=(List.getElem?_eq_some_iff.1 g2).1;have ae:(es.modify j (fun e'=>{ e' with key:=x,val:=v })).toList=es.toList.set j { e0 with key:=x,val:=v }:=by rw[Array.toList_modify,modify_eq_set _ _ _ _ g2]
 have who:∀a∈es.toList.set j { e0 with key:=x,val:=v },a={ e0 with key:=x,val:=v }∨(a∈es.toList∧a.key≠x):=by
  intro a ha;obtain⟨i,hi,ex⟩:=Xz ha;rw[Qv]at ex;split at ex
  · exact .inl ex.symm
  rename_i hne;have hi':i<es.toList.length:=by simpa using hi
  refine .inr ⟨ex▸X6 hi',?_⟩;have h0:es.toList[j]=e0:=(List.getElem?_eq_some_iff.1 g2).2;rcases Z3 i j with hl|hl
  · have:=List.pairwise_iff_getElem.1 af i j hi' ah hl;rw[ex,h0,g3]at this;exact this
  have:=List.pairwise_iff_getElem.1 af j i ah hi' (by omega);rw[ex,h0,g3]at this;exact this.symm
 have aj:∀a∈es.toList,a.key≠x→a∈es.toList.set j { e0 with key:=x,val:=v }:=by
  intro a ha hne;obtain⟨i,hi,ex⟩:=Xz ha;refine List.mem_iff_getElem.2 ⟨i,by simpa using hi,?_⟩;rw[Qv,Zk,ex];intro e;subst e;have h0:es.toList[j]=e0:=(List.getElem?_eq_some_iff.1 g2).2;rw[h0]at ex;exact hne (by rw[←ex,g3])
 have new:{ e0 with key:=x,val:=v }∈es.toList.set j { e0 with key:=x,val:=v }:=List.mem_iff_getElem.2 ⟨j,by simpa using ah,by simp⟩;refine⟨setBlock w b (.map (es.modify j (fun e'=>{ e' with key:=x,val:=v })) clock),?_,⟨es.modify j (fun e'=>{ e' with key:=x,val:=v }),clock,Qk hb _,?_,?_,?_⟩,⟨rfl,rfl,rfl,by simp[setBlock],fun i _ hi=>Qi hb _ (fun e=>hi (by rw[e]))⟩⟩
 · simp[Instr.mapUpdate,Xn ht,XH hb,K.check w false hk,g1,hj,g3,K.stays w hk,Jd _ hb,Result.andThen,setBlock]
 · intro a ha;rw[ae]at ha;rcases who a ha with rfl|⟨ha,_⟩
   · exact⟨l,hk⟩
   exact ag a ha
 · rw[ae];refine List.pairwise_iff_getElem.2 fun i i' hi hi' ai=>?_
   rw[YF]at hi hi';rw[Qv,Qv];have h0:es.toList[j]=e0:=(List.getElem?_eq_some_iff.1 g2).2;have hp:=List.pairwise_iff_getElem.1 af i i' hi hi' ai
   by_cases hji:j=i
   · subst hji;rw[Zl rfl,Zk (by omega)];rw[h0,g3]at hp;exact hp
   rw[Zk hji]
   by_cases hji':j=i'
   · subst hji';rw[Zl rfl];rw[h0,g3]at hp;exact hp
   rw[Zk hji'];exact hp
 intro y u;rw[ae]
 by_cases hy:y=x
 · subst hy;rw[h1];constructor
   · intro hu;cases hu
     exact⟨_,new,rfl,rfl⟩
   rintro⟨a,ha,aa,hv⟩;rcases who a ha with rfl|⟨_,hne⟩
   · exact ZR some hv
   exact absurd aa hne
 rw[h2 y hy,hF y u];constructor
 · rintro⟨a,ha,aa,hv⟩;exact⟨a,aj a ha (by rw[aa];exact hy),aa,hv⟩
 rintro⟨a,ha,aa,hv⟩;rcases who a ha with rfl|⟨ha,_⟩
 · exact absurd aa.symm hy
 exact⟨a,ha,aa,hv⟩
theorem zHI {α β:Type} {f:α→Option β}:∀{l:List α},(∀x∈l,∃y,f x=some y)→∃ys,l.mapM f=some ys
 | [],_=>⟨[],rfl⟩
 | x::l,h=>by
   obtain⟨y,hy⟩:=h x ZI;obtain⟨ys,aa⟩:=zHI fun z hz=>h z (ZT _ hz)
   exact⟨y::ys,by simp[List.mapM_cons,hy,aa]⟩
theorem zMf {e:TypeId} {n:Nat} {q:IntKind} (A:Go.WideMaps.ArrKey P k e n) (he:P.underlying e=some (.int q)) (ag:∃m,P.types.size=m+1) (xs:List Int) (hn:xs.length=n) (hw:∀x∈xs,(Lit.int q x).wf=true) :
 ∃l,keyOf P k (.agg (xs.map (Value.int q)).toArray)=some l:=by
 obtain⟨m,hm⟩:=ag
 have ae:(Value.agg (xs.map (Value.int q)).toArray).formed P k=true:=by
  unfold Value.formed;rw[A.hu];simp[A.size,hn]
 have aa:∃ls,P.keyLits (P.types.size+1) k (xs.map (Value.int q))=some ls:=by
  have af:∃ys,((List.range n).mapM fun i=>P.keyLits P.types.size e (((xs.map (Value.int q)).drop (i*P.cellsOf e)).take (P.cellsOf e)))=some ys:=by
   refine zHI fun i hi=>?_
   rw[Jz]at hi;have hi':i<xs.length:=by omega
   have hx:(((xs.map (Value.int q)).drop (i*P.cellsOf e)).take (P.cellsOf e))=[.int q xs[i]]:=by
    rw[A.one,Nat.mul_one,List.drop_eq_getElem_cons (by simpa using hi')];simp
   rw[hx,hm];unfold Program.keyLits;rw[he];simp[hw xs[i] (X6 hi')]
  obtain⟨ys,ai⟩:=af;unfold Program.keyLits;rw[A.hu];simp only[Ze,hn,A.size,Yo];rw[ai];exact⟨_,rfl⟩
 obtain⟨ls,ah⟩:=aa;unfold keyOf;rw[A.hu];simp only[A.keyType ⟨m,hm⟩,ae,Bool.and_self,Yo,Value.cells];rw[ah];exact⟨_,rfl⟩
end
end
section
open Go.RowKit
theorem zSg {P:Program} {f:FuncId} {fn:Func} (hf:P.funcs[f]?=some fn) (aa:(fn.name == "runtime.NumGoroutine")=false) (hb:fn.body.isNone=false) (args:Array Value) (w:World) :
 (callFunc f args).run P w=.ok (.enter f args) w:=by
 rcases h:fn.body with _|c
 · rw[h]at hb;cases hb
 exact C.enter hf aa h args w
theorem zR5:(prog.info? 240).map (fun i=>(i.zero,i.size,i.bytes))=some (some (.agg #[.int .i32 0,.int .i32 0]),2,8):=by kernel_rfl
def C.fl (k:IntKind):List (Int × Int)→List Value
 | []=>[]
 | (x,y)::t=>.int k x::.int k y::C.fl k t
theorem C.fl_len (k:IntKind):∀rs,(C.fl k rs).length=2*rs.length
 | []=>rfl
 | (x,y)::t=>by show (C.fl k t).length+1+1=2*(t.length+1);rw[C.fl_len k t];omega
theorem C.fl_app (k:IntKind):∀a b,C.fl k (a++b)=C.fl k a++C.fl k b
 | [],b=>rfl
 | (x,y)::t,b=>by show _::_::C.fl k (t++b)=_;rw[C.fl_app k t b];rfl
theorem C.fl_get (k:IntKind):∀(rs:List (Int × Int)) (i:Nat) (r:Int × Int),rs[i]?=some r→(C.fl k rs)[2*i]?=some (.int k r.1)∧(C.fl k rs)[2*i+1]?=some (.int k r.2)
 | [],i,r,h=>by simp at h
 | (x,y)::t,0,r,h=>by simp at h;subst h;exact⟨rfl,rfl⟩
 | (x,y)::t,i+1,r,h=>by
  have:=C.fl_get k t i r (by simpa using h);rw[show 2*(i+1)=2*i+1+1 by omega];exact this
theorem own_ne {w:World} {base:Nat} {e:TypeId} {size n:Nat} {v:Value} {xs:List Value} (h:w.ownsRow base e size v n xs) (g:Nat) (hg:g<base):v.ownBlock≠some g:=fun hk=>by have:=(h.lt _ hk).1;omega
def zSS (rs:List (Int × Int)) (w:World) (e:Ending) (w':World):Prop :=
 ∃A c,e=.returned (.slice A rs.length c)∧w'.ownsRow w.heap.size 240 2 (.slice A rs.length c) rs.length (C.fl .i32 rs)∧Below w.heap.size w w'
theorem zMg (A:Option Addr) (c n B:Nat) (l:List Int) (w:World) (hn:l.length=n) (bm:n≤1000000) (bh:n%2=0) (hbd:∀x∈l,0≤x∧x≤1114112) (hB:B≤w.heap.size) (hA:Sl w B A (l.map (Value.int .i32))) :
 Calls prog 134 #[.agg #[.slice A n c]] w (zSS (zAN l) w):=by
 have HN:=hy' hn;have au:=hy' hbd;have HL:=hy' (zH3 l);clear hn hbd;obtain⟨j0,hj0,bf,a8,a7⟩:=Z9 zR5;go_enter func134,ntmps134;go_wp2;go_loopw [4,3] (fun vi v wr=>∃j k:Nat,k≤2*j∧2*j≤k∧k≤n∧vi=.int .i64 (k:Int)∧wr.ownsRow (w.heap.size+1) 240 2 v j (C.fl .i32 ((zAN l).take j))∧Below (w.heap.size+1) (w.alloc (.cells #[.slice A n c] 90)) wr) (fun vi _ _=>n-(intOf vi).toNat)
 case atStart=>exact⟨0,0,by omega,by omega,by omega,rfl,ZG _ _ _ _,Zd _ _⟩
 obtain⟨j,k,bn,bl,hj,rfl,aa,af⟩:=hrel;have bg:w.heap.size+1≤wr.heap.size:=by have:=af.size;simpa using this
 obtain⟨ah,ar⟩:=zSR af;obtain⟨bc,bk⟩:=zIA ah 0;simp only[Qt,YX]at bc;clear ah
 by_cases hlt:k<n
 rotate_left
 · obtain rfl:k=n:=by omega
   have g1:¬(k:Int)<k:=by omega
   have e0:(zAN l).take j=zAN l:=Zi (by rw[HL.o,HN.o];omega);have e1:j=(zAN l).length:=by rw[HL.o,HN.o];omega
   rw[e0]at aa;have E1:=hy' e1;clear e0 e1;obtain⟨A5,c5,rfl⟩:=zA3 aa;go_wp2;go_ret;refine⟨A5,c5,ZR (fun q=>Ending.returned (.slice A5 q c5)) E1.o,?_,ar⟩;rw[←E1.o];exact own_base aa (by omega)
 obtain⟨x,hx⟩:∃x,l[k]?=some x:=⟨_,Zb (by rw[HN.o];omega)⟩;obtain⟨y,hy⟩:∃y,l[k+1]?=some y:=⟨_,Zb (by rw[HN.o];omega)⟩;have ba:=au.o x (Zj hx);have a1:=au.o y (Zj hy);obtain⟨bj,aw⟩:=ba;obtain⟨bp,bi⟩:=a1;obtain⟨b,o,rfl,bo,az,aq⟩:=hA.ints hx;have bb:=aq _ _ hy;rw[←(zAU ar).1 _ _ (by omega)]at az bb;have ao:=own_ne aa w.heap.size (by omega);have aj:=own_ne aa b (by omega);clear aq hA
 have hg:(zAN l)[j]?=some (x,y-1):=by
  obtain rfl:k=2*j:=by omega
  rw[zKg l j (by rw[HN.o];omega)];rw[Zb (by rw[HN.o];omega)]at hx hy;simp only[Zg]at hx hy;rw[hx,hy]
 have HG:=hy' hg;have g1:(k:Int)<n:=by omega
 clear hg hx hy;go_wp2;have ak:=hy' (Sl.lit (w:=(wr.alloc (.cells #[.int .i32 x,.int .i32 (y-1)] 240)).drew) (A:=some ⟨wr.heap.size,0,none⟩) (xs:=[.int .i32 x,.int .i32 (y-1)]) rfl 240 (0,0) (ZW wr _));have ag:=(aa.alloc (.cells #[.int .i32 x,.int .i32 (y-1)] 240)).drew;have ap:Below (w.heap.size+1) (w.alloc (.cells #[.slice (some ⟨b,o,none⟩) n c] 90)) ((wr.alloc (.cells #[.int .i32 x,.int .i32 (y-1)] 240)).drew):=(af.alloc bg _).drew;have av:=hy' ap;clear ap;have q1:(0:Int)≤(k:Int)+1:=by omega
 have q2:(k:Int)+1<n:=by omega
 have q3:((k:Int)+1).toNat=k+1:=by omega
 have q4:(0:Int)≤(k:Int):=by omega
 have ax:w.heap.size+1≤((wr.alloc (.cells #[.int .i32 x,.int .i32 (y-1)] 240)).drew).heap.size:=by have:=av.o.size;simpa using this
 have ay:IntKind.i64.wrap ((k:Int)+1)=(k:Int)+1:=by rw[Ya];omega
 have a6:IntKind.i32.wrap (y-1)=y-1:=by rw[Qu];omega
 go_region_held3 (fun w'=>w'.cell? ⟨w.heap.size,0,none⟩=some (.slice (some ⟨b,o,none⟩) n c)∧w'.cell? ⟨b,o+k,none⟩=some (.int .i32 x)∧w'.cell? ⟨b,o+(k+1),none⟩=some (.int .i32 y)) (first
 | go_keep
 | (go_split_ands
    refine⟨?_,?_,?_⟩
    · (rw[ae.cell_far _ (by simp;omega) (Yc ao)];assumption)
    · (rw[ae.cell_far _ (by simp;omega) (Yc aj)];assumption)
    (rw[ae.cell_far _ (by simp;omega) (Yc aj)];assumption)))
  ((refine zGz _ (by rfl) _ _ _ (by rfl) (w.heap.size+1) 240 j0 _ 2 8 underlying237 hj0 bf a8 a7 rfl (by omega) _ j _ (by rfl) ag _ (some ⟨wr.heap.size,0,none⟩) 1 1 [.int .i32 x,.int .i32 (y-1)] (by rfl) (by rfl) ak.out (by simp[Value.oneCell']) (by simp only[maxLen];omega) (by omega) ax ?_;intro v1 w2 ai aw ae))
 clear q1 q2 q3 q4 ay a6 ax;go_wp2;refine⟨⟨j+1,k+2,by omega,by omega,by omega,by go_num,?_,av.o.trans aw⟩,by simp[intOf];omega⟩;rw[Zy,HG.o,C.fl_app];exact ai
end
def zDx:List Int→Nat→Int
 | _,0=>0
 | x::y::t,i+1=>y-x+zDx t i
 | _,_=>0
theorem zST (l:List Int):zDx l 0=0:=by unfold zDx;rfl
theorem zGA {x y:Int} {t:List Int} (h:C.ok (x::y::t)):C.ok t :=
 ⟨zAH (zAH h.1),fun z hz=>h.2.1 z (by simp[hz]),by have:=h.2.2;simp at this;omega⟩
theorem zIV:∀{l:List Int} {i:Nat} {r:Int × Int},C.ok l→(zAN l)[i]?=some r→zDx l (i+1)=zDx l i+(r.2-r.1+1)
 | [],i,r,_,h=>by simp[zAN]at h
 | [x],i,r,_,h=>by simp[zAN]at h
 | x::y::t,0,r,_,h=>by
   simp[zAN]at h;subst h;show y-x+zDx t 0=0+(y-1-x+1);rw[show zDx t 0=0 by cases t <;> rfl];omega
 | x::y::t,i+1,r,hk,h=>by
   have:=zIV (zGA hk) (show (zAN t)[i]?=some r from h);show y-x+zDx t (i+1)=y-x+zDx t i+_;rw[this];omega
theorem zMh:∀{l:List Int} (_:C.ok l) (i:Nat),0≤zDx l i∧zDx l i≤C.count l
 | [],_,i=>by cases i <;> exact⟨Xs _,Xs _⟩
 | [x],h,_=>by have:=h.2.2;simp at this
 | x::y::t,h,0=>⟨Xs _,(zKf h).1⟩
 | x::y::t,h,i+1=>by
   have aa:=zBC h.1 y (by simp);have:=zMh (zGA h) i;show 0≤y-x+zDx t i∧y-x+zDx t i≤y-x+C.count t;omega
theorem zL9:∀{l:List Int} {i:Nat} {r:Int × Int},C.ok l→(zAN l)[i]?=some r→0≤r.1∧r.1≤r.2∧r.2≤1114111∧r.1≤1114111
 | [],i,r,_,h=>by simp[zAN]at h
 | [x],i,r,_,h=>by simp[zAN]at h
 | x::y::t,0,r,hk,h=>by
   simp[zAN]at h;subst h;have aa:=zBC hk.1 y (by simp);have h1:=hk.2.1 x (by simp);have h2:=hk.2.1 y (by simp);dsimp only;omega
 | x::y::t,i+1,r,hk,h=>zL9 (zGA hk) (show (zAN t)[i]?=some r from h)
section
open Go.RowKit
theorem Sl.pair {w:World} {B:Nat} {A:Option Addr} {k:IntKind} {rs:List (Int × Int)} (h:Sl w B A (C.fl k rs)) {i:Nat} {r:Int × Int} (hr:rs[i]?=some r) :
 ∃b o,A=some ⟨b,o,none⟩∧b<B∧w.cell? ⟨b,o+i*2,none⟩=some (.int k r.1)∧w.cell? ⟨b,o+i*2+1,none⟩=some (.int k r.2):=by
 have hi:i<rs.length:=(List.getElem?_eq_some_iff.1 hr).1;obtain⟨b,o,hA,hb,hc⟩:=h (by rw[C.fl_len];omega);obtain⟨h0,h1⟩:=C.fl_get k rs i r hr;refine⟨b,o,hA,hb,?_,?_⟩
 · rw[Je,hc _ (by rw[C.fl_len];omega),h0]
 rw[Je,Yi,hc _ (by rw[C.fl_len];omega),h1]
theorem zDV {P:Program} {fn:Func} {p u:Tmp} {ty:TypeId} (h:fn.results = #[.cell p ty,.tmp u]) (tmps:Array Value) (w:World) (g:Nat) (t:TypeId) (cs:Array Value) (fr:Nat × Nat) (d:TypeDesc)
 (hp:tmps.getD p undef=.pointer (some ⟨g,0,none⟩)) (hg:w.heap[g]?=some (.cells cs t fr))
 (hu:P.underlying ty=some d) (hd:(match d with | .struct _ | .array _ _=>true|_=>false)=true) (hi:(P.info? ty).map (·.size)=some cs.size) :
 (results fn tmps).run P w=.ok (.tuple #[.agg cs,tmps.getD u undef]) w:=by
 have aa:tmps[p]?.getD undef=.pointer (some ⟨g,0,none⟩):=by simpa using hp
 simp[results,h,aa,asAddr,Qf w g t ty cs fr d hg hu hd hi]
theorem Sl.take {w:World} {B:Nat} {A:Option Addr} {xs:List Value} (h:Sl w B A xs) (m:Nat):Sl w B A (xs.take m):=by
 intro hx;rw[Zn]at hx;obtain⟨b,o,hA,hb,hc⟩:=h (by omega);refine⟨b,o,hA,hb,fun i hi=>?_⟩;rw[Zn]at hi;rw[hc i (by omega),Yv,Zl (by omega)]
end
def zR6 (rs:List (Int × Int)) (c:Int):Bool:=rs.any fun r=>decide (r.1≤c∧c≤r.2)
theorem zHb:∀(l:List Int),C.ok l→∀c,zR6 (zAN l) c=C.mem l c
 | [],_,c=>rfl
 | [x],h,c=>by have:=h.2.2;simp at this
 | x::y::t,h,c=>by
   have ih:=zHb t (zGA h) c;have aa:=zBC h.1 y (by simp);show (decide (x≤c∧c≤y-1)||zR6 (zAN t) c)=_;rw[ih,C.mem_cons,C.mem_cons]
   by_cases h1:x≤c
   · by_cases h2:y≤c
     · rw[Zp (by omega),Zs h1,Zs h2];simp
     have hm:C.mem t c=false:=zBm (zAH h.1) (by omega);rw[Zs (show x≤c∧c≤y-1 by omega),Zs h1,Zp h2,hm];rfl
   have hm:C.mem t c=false:=zBm (zAH h.1) (by omega);rw[Zp (by omega),Zp h1,hm];rfl
section
variable {S:List Int} (hS:C.ok S) (hC:∀c,C.mem S c=true→C.isC c=true) {d:Int} (h0:0≤d) (h1:d≤1114111)
include hS hC h0 h1
end
section
open Go.RowKit
def C.ins (x:Int):List Int→List Int
 | []=>[x]
 | y::t=>if x<y then x::y::t else if x=y then y::t else y::C.ins x t
end
theorem zDW:∀(l:List Int) (x c:Int),C.srt (l++[x])→C.mem (l++[x]) c=(C.mem l c ^^ decide (x≤c))
 | [],x,c,_=>by simp[C.mem]
 | y::t,x,c,h=>by
   have ih:=zDW t x c (zAH h);have aa:=zBC h x (by simp);rw[ZN,C.mem_cons,ih,C.mem_cons]
   by_cases hy:y≤c
   · rw[Zs hy];cases C.mem t c <;> cases decide (x≤c) <;> rfl
   rw[Zp hy,Zp (by omega)];rfl
theorem zFu {l:List Int} {x:Int} (h:C.srt l) (hx:∀y∈l,y<x):C.srt (l++[x]):=by
 unfold C.srt;rw[Jy];exact⟨h,List.pairwise_singleton _ _,fun a ha b hb=>by simp at hb;subst hb;exact hx a ha⟩
def C.step (p:Int→Bool) (acc:List Int) (a b:Int):List Int :=
 if p a=true then (if acc.getLast?=some a then acc.dropLast++[b] else acc++[a,b]) else acc
def zHJ (p:Int→Bool) (acc:List Int) (a:Int):Prop :=
 C.srt acc∧acc.length%2=0∧(∀x∈acc,x≤a)∧∀c,C.mem acc c=(p c&&decide (c<a))
theorem zNV {p:Int→Bool} {acc:List Int} {a b:Int} (h:zHJ p acc a) (ak:a<b) (hp:∀c,a≤c→c<b→p c=p a):zHJ p (C.step p acc a b) b:=by
 obtain⟨h1,h2,h3,h4⟩:=h;unfold C.step
 have key:∀c,p a=true→((p c&&decide (c<a)) ^^ decide (a≤c) ^^ decide (b≤c))=(p c&&decide (c<b)):=by
  intro c ae
  by_cases ha:a≤c
  · by_cases hb:b≤c
    · rw[Zs ha,Zs hb,Zp (show ¬c<a by omega),Zp (show ¬c<b by omega)];simp
    rw[Zs ha,Zp hb,Zp (show ¬c<a by omega),Zs (show c<b by omega),hp c ha (by omega),ae];rfl
  rw[Zp ha,Zp (show ¬b≤c by omega),Zs (show c<a by omega),Zs (show c<b by omega)];simp
 split
 rotate_left
 · rename_i ae;refine⟨h1,h2,fun x hx=>by have:=h3 x hx;omega,fun c=>?_⟩;rw[h4 c]
   by_cases ha:c<a
   · rw[Zs ha,Zs (by omega)]
   by_cases hb:c<b
   · have hf:p a=false:=by cases h:p a <;> simp_all
     rw[hp c (by omega) hb,hf];rfl
   rw[Zp ha,Zp hb]
 rename_i ae;split
 · rename_i hl
   obtain⟨l,rfl⟩:∃l,acc=l++[a]:=by
    obtain⟨l,ah⟩:=List.getLast?_eq_some_iff.1 hl;exact⟨l,ah⟩
   rw[JA];have ai:C.srt l:=(List.pairwise_append.1 h1).1;have aa:∀y∈l,y<a:=fun y hy=>(List.pairwise_append.1 h1).2.2 y hy a (by simp)
   have af:=zFu ai (x:=b) (fun y hy=>by have:=aa y hy;omega);refine⟨af,by simpa using h2,?_,?_⟩
   · intro x hx;rcases List.mem_append.1 hx with hx|hx
     · have:=aa x hx;omega
     simp at hx;omega
   intro c;rw[zDW _ _ _ af,←key c ae,←h4 c,zDW _ _ _ h1];cases C.mem l c <;> cases decide (a≤c) <;> cases decide (b≤c) <;> rfl
 rename_i hl
 have aa:∀y∈acc,y<a:=by
  intro y hy;rcases Jf y a with h'|h'
  · exact h'
  exfalso;have aj:y=a:=by have:=h3 y hy;omega
  subst aj;rcases YT acc with rfl|⟨l,z,rfl⟩
  · cases hy
  rw[YU]at *;have hz:=h3 z (by simp);rcases List.mem_append.1 hy with hy|hy
  · have:=(List.pairwise_append.1 h1).2.2 y hy z (by simp);omega
  simp at hy;subst hy;exact hl (by simp)
 have ag:=zFu h1 aa
 have af:=zFu ag (x:=b) (fun y hy=>by
  rcases List.mem_append.1 hy with hy|hy
  · have:=aa y hy;omega
  simp at hy;omega)
 have e:acc++[a,b]=(acc++[a])++[b]:=by simp
 rw[e];refine⟨af,by simp;omega,?_,?_⟩
 · intro x hx;simp at hx;rcases hx with hx|hx|hx
   · have:=aa x hx;omega
   · omega
   omega
 intro c;rw[zDW _ _ _ af,zDW _ _ _ ag,h4 c,key c ae]
theorem zKm {p:Int→Bool} {acc:List Int} {a b:Int} (hp:p a=true) (h:acc.getLast?≠some a):C.step p acc a b=acc++[a,b]:=by
 unfold C.step;rw[Zl hp,Zk h]
theorem zMi {p:Int→Bool} {acc:List Int} {a b:Int} (hp:p a=false):C.step p acc a b=acc:=by
 unfold C.step;rw[Zk (by simp[hp])]
theorem zPK {p:Int→Bool} {acc:List Int} {a b x:Int} (h:x∈C.step p acc a b):x∈acc∨x=a∨x=b:=by
 unfold C.step at h;split at h
 rotate_left
 · exact .inl h
 split at h
 · rcases List.mem_append.1 h with h|h
   · exact .inl (List.dropLast_subset _ h)
   simp at h;exact .inr (.inr h)
 rcases List.mem_append.1 h with h|h
 · exact .inl h
 simp at h;rcases h with h|h
 · exact .inr (.inl h)
 exact .inr (.inr h)
theorem zNW {p:Int→Bool} {acc:List Int} {a c:Int} (h:zHJ p acc a) (aa:a≤c) (hp:∀d,a≤d→d<c→p d=false):zHJ p acc c:=by
 obtain⟨h1,h2,h3,h4⟩:=h;refine⟨h1,h2,fun x hx=>by have:=h3 x hx;omega,fun d=>?_⟩;rw[h4 d]
 by_cases h:d<a
 · rw[Zs h,Zs (by omega)]
 by_cases h':d<c
 · rw[hp d (by omega) h'];rfl
 rw[Zp h,Zp h']
theorem zPL {p:Int→Bool} {acc:List Int} {c b:Int} (h:p c=C.isC c):C.step p acc c b=C.step C.isC acc c b:=by
 unfold C.step;rw[h]
theorem C.step_bd {acc:List Int} {c:Int} (h:∀x∈acc,0≤x∧x≤1114112):∀x∈C.step C.isC acc c (c+1),0≤x∧x≤1114112:=by
 intro x hx;cases hc:C.isC c
 · rw[zMi hc]at hx;exact h x hx
 have hb:0≤c∧c≤1114111:=by simp[C.isC]at hc;omega
 rcases zPK hx with hx|rfl|rfl
 · exact h x hx
 · omega
 omega
def zEU (cs acc:List Int):List Int:=cs.foldl (fun o c=>C.step C.isC o c (c+1)) acc
theorem zR7 {p:Int→Bool}:∀(cs acc:List Int) (a:Int),C.srt cs→(∀c∈cs,a≤c)→(∀d,a≤d→p d=(decide (d∈cs)&&C.isC d))→(∀x∈acc,0≤x∧x≤1114112)→zHJ p acc a →
 (∀x∈zEU cs acc,0≤x∧x≤1114112)∧∃b,zHJ p (zEU cs acc) b∧∀d,b≤d→p d=false
 | [],acc,a,_,_,hp,hb,h=>⟨hb,a,h,fun d hd=>by rw[hp d hd];simp⟩
 | c::t,acc,a,hs,hc,hp,hb,h=>by
   have aa:=hc c (by simp);have ae:∀z∈t,c<z:=zBC hs
   have h1:=zNW h aa (fun d d1 d2=>by
    rw[hp d d1]
    have:d∉c::t:=by
     intro hm;rcases List.mem_cons.1 hm with rfl|hm
     · omega
     have:=ae d hm;omega
    rw[Zp this];rfl)
   have af:p c=C.isC c:=by rw[hp c aa,Zs (by simp)];rfl
   have h2:=zNV h1 (show c<c+1 by omega) (fun d d1 d2=>by rw[show d=c by omega]);rw[zPL af]at h2;show (∀x∈zEU t (C.step C.isC acc c (c+1)),0≤x∧x≤1114112)∧∃b,zHJ p (zEU t (C.step C.isC acc c (c+1))) b∧∀d,b≤d→p d=false;refine zR7 t _ (c+1) (zAH hs) (fun z hz=>by have:=ae z hz;omega) (fun d hd=>?_) (C.step_bd hb) h2;rw[hp d (by omega)];congr 1;rw[Ke];constructor
   · intro hm;rcases List.mem_cons.1 hm with rfl|hm
     · omega
     exact hm
   intro hm;simp[hm]
theorem zR8 (cs:List Int) (hs:C.srt cs):C.ok (zEU cs [])∧∀d,C.mem (zEU cs []) d=(decide (d∈cs)&&C.isC d):=by
 obtain⟨a,ha⟩:∃a:Int,∀c∈cs,a≤c:=by
  cases cs with
  | nil=>exact⟨0,by simp⟩
  | cons c t=>exact⟨c,fun z hz=>by
     rcases List.mem_cons.1 hz with rfl|hz
     · exact Xs _
     have:=zBC hs z hz;omega⟩
 have h0:zHJ (fun d=>decide (d∈cs)&&C.isC d) [] a:=by
  refine⟨List.Pairwise.nil,rfl,by simp,fun d=>?_⟩
  by_cases hd:d<a
  · have:d∉cs:=fun hm=>by have:=ha d hm;omega
    show false=((decide (d∈cs)&&C.isC d)&&decide (d<a));rw[Zp this];rfl
  show false=((decide (d∈cs)&&C.isC d)&&decide (d<a));rw[Zp hd,Kw]
 obtain⟨hb,b,⟨u1,u2,u3,u4⟩,hz⟩:=zR7 cs [] a hs ha (fun d _=>rfl) (by simp) h0;refine⟨⟨u1,hb,u2⟩,fun d=>?_⟩;rw[u4 d]
 by_cases hd:d<b
 · rw[Zs hd,KA]
 have:=hz d (by omega);rw[this];show ((decide (d∈cs)&&C.isC d)&&decide (d<b))=false;rw[this];rfl
theorem zIW {l:List Int} {j:Nat} (h:j<l.length):l.toArray[j]! = l[j]:=by
 rw[getElem!_pos l.toArray j (by simpa using h)];simp
theorem zR9 {l:List Int} (hs:l.Pairwise (· ≤ ·)) {i j:Nat} (hij:i≤j) (hj:j<l.length):l[i]'(by omega)≤l[j]:=by
 rcases Z3 i j with h|h
 · exact List.pairwise_iff_getElem.1 hs i j (by omega) hj h
 obtain rfl:i=j:=by omega
 exact Xs _
theorem zKn (l:List Int) (hs:l.Pairwise (· ≤ ·)):∀m,m≤l.length→C.srt (Lib.compactUpTo l.toArray m)∧∀z,z∈Lib.compactUpTo l.toArray m↔z∈l.take m
 | 0,_=>⟨by simp[Lib.compactUpTo,C.srt],by simp[Lib.compactUpTo]⟩
 | m+1,hm=>by
   obtain⟨h1,h2⟩:=zKn l hs m (by omega);have ae:m<l.length:=by omega
   have et:l.take (m+1)=l.take m++[l[m]]:=by rw[YI ae]
   have eg:=zIW ae;rw[Lib.compactUpTo_succ]
   by_cases hk:m=0∨l[m]≠l[m-1]'(by omega)
   · have aa:Lib.keeps l.toArray m=true:=by
      unfold Lib.keeps;rw[YE,eg,zIW (show m-1<l.length by omega)];exact hk
     rw[Zl aa,eg];refine⟨zFu h1 fun y hy=>?_,fun z=>by rw[Xj,h2,et,Xj]⟩;obtain⟨j,hj,rfl⟩:=Xz ((h2 y).1 hy);have af:j<m:=by rw[Zn]at hj;omega
     rw[J9];rcases hk with rfl|hk
     · omega
     have a1:=zR9 hs (i:=j) (j:=m-1) (by omega) (by omega);have a2:=zR9 hs (i:=m-1) (j:=m) (by omega) ae;omega
   have h0:m≠0:=fun h=>hk (.inl h)
   have he:l[m]=l[m-1]'(by omega):=by
    rcases Int.decEq l[m] (l[m-1]'(by omega)) with h|h
    · exact absurd (.inr h) hk
    exact h
   have aa:Lib.keeps l.toArray m=false:=by
    unfold Lib.keeps;rw[Z2,eg,zIW (show m-1<l.length by omega)];exact hk
   rw[aa];refine⟨by simpa using h1,fun z=>?_⟩;rw[et];simp only[ZF,Ye,ZC];rw[h2,Xj];constructor
   · exact .inl
   rintro (h|h)
   · exact h
   rw[ZE]at h;subst h;rw[he];have:l[m-1]'(by omega)=(l.take m)[m-1]'(by rw[Zn];omega):=by rw[J9]
   rw[this];exact X6 _
def zEV (l:List Int):List Int:=Lib.compactUpTo (l.mergeSort fun x y=>decide (x≤y)).toArray l.length
theorem zIX (l:List Int):C.srt (zEV l)∧∀z,z∈zEV l↔z∈l:=by
 have hs:(l.mergeSort fun x y=>decide (x≤y)).Pairwise (· ≤ ·):=by
  have h:=List.pairwise_mergeSort (le:=fun x y:Int=>decide (x≤y)) (by intro a b c h1 h2;simp at *;omega) (by intro a b;simp;omega) l;exact h.imp (by intro a b h;simpa using h)
 obtain⟨h1,h2⟩:=zKn _ hs l.length (by simp);refine⟨h1,fun z=>?_⟩;unfold zEV;rw[h2,Zi (by simp)];exact (List.mergeSort_perm l _).mem_iff
def C.chars (l:List Int):List Int:=zEU (zEV l) []
theorem zBL (l:List Int):C.ok (C.chars l)∧∀d,C.mem (C.chars l) d=(decide (d∈l)&&C.isC d):=by
 obtain⟨h1,h2⟩:=zIX l;obtain⟨h3,h4⟩:=zR8 (zEV l) h1;refine⟨h3,fun d=>?_⟩;show C.mem (zEU (zEV l) []) d=_;rw[h4 d];congr 1;rw[Ke];exact h2 d
section
open Go.RowKit
structure Ud.At where
 m:Option Addr
 mc:Nat
 f:Option Addr
 fc:Nat
def zBB (T:List Rw.Row) (X:Int→Bool):List Rw.Row→List Ud.At→List Value
 | r::l,a::es=>.slice a.m r.2.2.length a.mc::.slice a.f (Ud.full T r.1).length a.fc::.bool (zAt T X r.1)::zBB T X l es
 | _,_=>[]
theorem zHc (T:List Rw.Row) (X:Int→Bool):∀(l:List Rw.Row) (es:List Ud.At),es.length=l.length→(zBB T X l es).length=l.length*3
 | [],_,_=>by simp[zBB]
 | r::l,[],h=>by simp at h
 | r::l,a::es,h=>by simp[zBB,zHc T X l es (by simpa using h)];omega
theorem zKo (T:List Rw.Row) (X:Int→Bool):∀(l:List Rw.Row) (es:List Ud.At) (r:Rw.Row) (a:Ud.At),es.length=l.length→zBB T X (l++[r]) (es++[a])=zBB T X l es++[.slice a.m r.2.2.length a.mc,.slice a.f (Ud.full T r.1).length a.fc,.bool (zAt T X r.1)]
 | [],[],r,a,_=>rfl
 | [],_::_,_,_,h=>by simp at h
 | _::_,[],_,_,h=>by simp at h
 | q::l,b::es,r,a,h=>by simp[zBB,zKo T X l es r a (by simpa using h)]
theorem zKp (T:List Rw.Row) (X:Int→Bool):∀(l:List Rw.Row) (es:List Ud.At) (i:Nat) (r:Rw.Row) (a:Ud.At),l[i]?=some r→es[i]?=some a →
 (zBB T X l es)[i*3]?=some (.slice a.m r.2.2.length a.mc)∧(zBB T X l es)[i*3+1]?=some (.slice a.f (Ud.full T r.1).length a.fc)∧(zBB T X l es)[i*3+2]?=some (.bool (zAt T X r.1))
 | [],_,_,_,_,h,_=>by simp at h
 | _::_,[],_,_,_,_,h=>by simp at h
 | q::l,b::es,0,r,a,h1,h2=>by
   simp at h1 h2;subst h1;subst h2;simp[zBB]
 | q::l,b::es,i+1,r,a,h1,h2=>by
   have:=zKp T X l es i r a (by simpa using h1) (by simpa using h2);rw[show (i+1)*3=i*3+3 by omega];simpa [zBB] using this
def Ud.ints (l:List Int):List Value:=l.map (Value.int .i32)
def Ud.Ents (w:World) (T:List Rw.Row) (X:Int→Bool) (A:Option Addr) (es:List Ud.At):Prop :=
 es.length=(zAK T).length∧Sl w w.heap.size A (zBB T X (zAK T) es)∧∀(i:Nat) r a,(zAK T)[i]?=some r→es[i]?=some a→Sl w w.heap.size a.m (Ud.ints r.2.2)∧Sl w w.heap.size a.f (Ud.ints (Ud.full T r.1))
theorem Ud.Ents.below {w w':World} {T:List Rw.Row} {X:Int→Bool} {A:Option Addr} {es:List Ud.At} (h:Ud.Ents w T X A es) (hb:Below w.heap.size w w'):Ud.Ents w' T X A es :=
 ⟨h.1,h.2.1.below hb hb.size,fun i r a h1 h2=>⟨(h.2.2 i r a h1 h2).1.below hb hb.size,(h.2.2 i r a h1 h2).2.below hb hb.size⟩⟩
def Ud.Beg (w:World) (T:List Rw.Row) (b:Nat):Prop:=∃F:Value→Option Value,Mp.Is prog 21 w b F ∧
 ∀c:Int,(zPf T T c=[]∧F (.int .i32 c)=none)∨∃A cap,F (.int .i32 c)=some (.slice A (zPf T T c).length cap)∧Sl w w.heap.size A (Ud.ints (zPf T T c))
def Ud.Joi (w:World) (T:List Rw.Row) (X:Int→Bool) (b:Nat):Prop:=∃F:Value→Option Value,Mp.Is prog 167 w b F∧∀a c:Int,F (.agg #[.int .i32 a,.int .i32 c])=(zCj T X T a c).map (Value.int .i32)
structure Ud.Is (w:World) (v:Value) (T:List Rw.Row) (S:List Int):Prop where
 is:∃b A0 c0 XA xc pc pp A3 c3 mb jb A4 c4 A5 c5 A6 c6 es,
  v=.pointer (some ⟨b,0,none⟩) ∧
  Rw.At w b 143 [.slice A0 (Ud.keep T).length c0,.slice XA S.length xc,pc,pp,.slice A3 (zAK T).length c3,.map (some mb),.map (some jb),.slice A4 (C.chars (zQZ T T)).length c4,.slice A5 (C.chars (Ud.sec T (C.mem S) T)).length c5,.slice A6 (C.chars (zR0 T)).length c6] ∧
  Rw.Sees w A0 (Ud.keep T)∧Sl w w.heap.size XA (Ud.ints S)∧Pg.Of w pc (Pg.last (zMd T))∧Pg.Of w pp (Pg.last (zH7 T))∧Ud.Ents w T (C.mem S) A3 es∧Ud.Beg w T mb∧Ud.Joi w T (C.mem S) jb ∧
  Sl w w.heap.size A4 (Ud.ints (C.chars (zQZ T T)))∧Sl w w.heap.size A5 (Ud.ints (C.chars (Ud.sec T (C.mem S) T)))∧Sl w w.heap.size A6 (Ud.ints (C.chars (zR0 T)))
theorem Ud.Beg.below {w w':World} {T:List Rw.Row} {b:Nat} (h:Ud.Beg w T b) (hb:Below w.heap.size w w'):Ud.Beg w' T b:=by
 obtain⟨F,h1,h2⟩:=h;refine⟨F,h1.below hb,fun c=>?_⟩;rcases h2 c with h|⟨A,cap,h3,h4⟩
 · exact .inl h
 exact .inr ⟨A,cap,h3,h4.below hb hb.size⟩
theorem Ud.Joi.below {w w':World} {T:List Rw.Row} {X:Int→Bool} {b:Nat} (h:Ud.Joi w T X b) (hb:Below w.heap.size w w'):Ud.Joi w' T X b:=by
 obtain⟨F,h1,h2⟩:=h;exact⟨F,h1.below hb,h2⟩
theorem Ud.Is.below {w w':World} {v:Value} {T:List Rw.Row} {S:List Int} (h:Ud.Is w v T S) (hb:Below w.heap.size w w'):Ud.Is w' v T S:=by
 obtain⟨b,A0,c0,XA,xc,pc,pp,A3,c3,mb,jb,A4,c4,A5,c5,A6,c6,es,h1,h2,h3,h4,h5,h6,h7,h8,h9,af,aa,ae⟩:=h.is;exact⟨b,A0,c0,XA,xc,pc,pp,A3,c3,mb,jb,A4,c4,A5,c5,A6,c6,es,h1,h2.below hb,h3.below hb,h4.below hb hb.size,h5.below hb,h6.below hb,h7.below hb,h8.below hb,h9.below hb,af.below hb hb.size,aa.below hb hb.size,ae.below hb hb.size⟩
structure Ud.Ok (T:List Rw.Row) (S:List Int):Prop where
 chk:Md.chk T (C.mem S)=0
 srt:C.srt S
 len:T.length≤10000
 slen:S.length≤1000000
theorem Ud.Ok.good {T:List Rw.Row} {S:List Int} (h:Ud.Ok T S):∀r∈T,Md.good r:=(zEf h.chk).1
theorem Ud.Ok.rises {T:List Rw.Row} {S:List Int} (h:Ud.Ok T S):Md.rises T:=(zEf h.chk).2.1
theorem Ud.Is.form {w:World} {v:Value} {T:List Rw.Row} {S:List Int} (h:Ud.Is w v T S):∃b,v=.pointer (some ⟨b,0,none⟩)∧b<w.heap.size:=by
 obtain⟨b,A0,c0,XA,xc,pc,pp,A3,c3,mb,jb,A4,c4,A5,c5,A6,c6,es,h1,h2,_⟩:=h.is;exact⟨b,h1,h2.lt⟩
end
theorem zFv {r:Rw.Row} (h:Md.good r):0≤r.1∧r.1≤1114111:=by
 have:=h.1;unfold C.isC at this;simp only[Zo]at this;exact⟨this.1,this.2.1⟩
theorem Ud.Ok.bd {T:List Rw.Row} {S:List Int} (h:Ud.Ok T S):Md.bd T:=by
 intro r hr;have hg:=h.good r hr;have h1:=zFv hg;refine⟨by omega,fun c hc=>?_⟩;have:=(hg.2.2.2.2.2 c hc).1;unfold C.isC at this;simp only[Zo]at this;omega
theorem zPM {T:List Rw.Row} {S:List Int} (h:Ud.Ok T S) (c:Int):Pg.get (Pg.last (zMd T)) c=Md.cls T c:=by
 unfold Pg.get;rw[zNR h.rises (fun r hr=>(h.good r hr).2.1)];split
 · rfl
 rename_i hc;unfold Md.cls;cases hf:Md.find T c with
 | none=>rfl
 | some r =>
   obtain⟨h1,h2⟩:=zAx hf;have:=zFv (h.good r h1);omega
theorem zIY {T:List Rw.Row} {S:List Int} (h:Ud.Ok T S) (c:Int):0≤Md.cls T c∧Md.cls T c≤254:=by
 unfold Md.cls;cases hf:Md.find T c with
 | none=>simp
 | some r =>
   have:=h.good r (zAx hf).1;exact⟨this.2.1,this.2.2.1⟩
theorem zRa {T:List Rw.Row} {S:List Int} (h:Ud.Ok T S) (c:Int):(∃(i:Nat) (r:Rw.Row),(zAK T)[i]?=some r∧r.1=c∧Md.find T c=some r∧0<r.2.2.length∧Pg.get (Pg.last (zH7 T)) c=(i:Int)+1)∨(Pg.get (Pg.last (zH7 T)) c=0∧zB3 T c=[]):=by
 rcases zPG h.rises c with ⟨i,r,h1,h2,h3,h4⟩|⟨h1,h2⟩
 · refine .inl ⟨i,r,h1,h2,h3,h4,?_⟩;have hb:=zFv (h.good r (zAx h3).1);unfold Pg.get;rw[Zl (by omega),←h2,zNS h.rises h1]
 refine .inr ⟨?_,h2⟩;unfold Pg.get;rw[zNT h1];simp
theorem zNX {T:List Rw.Row} {c:Int} (hr:zB3 T c=[]) (hk:zA2 c<4):Ud.full T c=[c]:=by
 unfold Ud.full;rw[(zPH hr hk).2];rfl
theorem zLa {T:List Rw.Row} {S:List Int} (h:Ud.Ok T S) {c:Int} (hs:zA9 c≠[]):Ud.full T c=zA9 c:=by
 have hk:zA2 c=4∨zA2 c=5:=by
  unfold zA9 at hs
  by_cases h4:zA2 c=4
  · exact .inl h4
  by_cases h5:zA2 c=5
  · exact .inr h5
  rw[Zk h4,Zk h5]at hs;exact absurd rfl hs
 unfold Ud.full;rw[zNU h.good hk];rfl
theorem zLb {c:Int} (hs:zA9 c=[]):zA2 c<4:=by
 have:=zH9 c;unfold zA9 at hs
 by_cases h4:zA2 c=4
 · rw[Zl h4]at hs;cases hs
 by_cases h5:zA2 c=5
 · rw[Zk h4,Zl h5]at hs;cases hs
 omega
theorem Ud.isC_bd {c:Int} (h:C.isC c=true):0≤c∧c≤1114111:=by
 unfold C.isC at h;simp only[Zo]at h;exact⟨h.1,h.2.1⟩
def zDX:List Int→Int→Nat
 | [],_=>0
 | x::t,d=>if x<d then zDX t d+1 else 0
def C.hit (l:List Int) (d:Int):Bool:=l[zDX l d]? == some d
theorem zIB:∀(l:List Int) (d:Int),zDX l d≤l.length
 | [],_=>Za _
 | x::t,d=>by
   show (if x<d then zDX t d+1 else 0)≤t.length+1;have:=zIB t d;split <;> omega
theorem zPh:∀{l:List Int} (_:C.srt l) {k:Nat} {x:Int},l[k]?=some x→∀d,(x<d↔k<zDX l d)
 | [],_,k,x,h,d=>by simp at h
 | y::t,hs,0,x,h,d=>by
   simp at h;subst h;show _↔0<(if y<d then zDX t d+1 else 0);split <;> simp_all
 | y::t,hs,k+1,x,h,d=>by
   have h':t[k]?=some x:=by simpa using h
   have:=zPh (zAH hs) h' d;have hy:=zBC hs x (Zj h');show _↔k+1<(if y<d then zDX t d+1 else 0);split
   · rw[this];omega
   constructor
   · intro hx;omega
   intro hx;omega
theorem zMj:∀{l:List Int} (_:C.srt l) (d:Int),C.mem l d=(((zDX l d+(if C.hit l d=true then 1 else 0))%2) == 1)
 | [],_,d=>rfl
 | x::t,hs,d=>by
   have ih:=zMj (zAH hs) d;rw[C.mem_cons];rcases J5 x d with h|h|h
   · have e1:zDX (x::t) d=zDX t d+1:=by show (if x<d then _ else _)=_;rw[Zl h]
     have e2:C.hit (x::t) d=C.hit t d:=by unfold C.hit;rw[e1];simp
     rw[Zs (by omega),e1,e2,ih];generalize (if C.hit t d=true then 1 else 0)=q;rcases Nat.mod_two_eq_zero_or_one (zDX t d+q) with h0|h0
     · rw[h0,show (zDX t d+1+q)%2=1 by omega];rfl
     rw[h0,show (zDX t d+1+q)%2=0 by omega];rfl
   · subst h;have e1:zDX (x::t) x=0:=by show (if x<x then _ else _)=_;rw[Zk (by omega)]
     have e2:C.hit (x::t) x=true:=by unfold C.hit;rw[e1];simp
     rw[Zs (by omega),zBm hs (by omega),e1,e2];rfl
   have e1:zDX (x::t) d=0:=by show (if x<d then _ else _)=_;rw[Zk (by omega)]
   have e2:C.hit (x::t) d=false:=by unfold C.hit;rw[e1];simp;omega
   rw[Zp (by omega),e1,e2];rfl
section
open Go.RowKit
theorem zPN (x:Int) (w:World):Calls prog 217 #[.int .i32 x] w fun e w'=>e=.returned (.bool false)∧w=w':=by
 go_enter func217,ntmps217;go_wp2;go_ret;exact⟨by simp,rfl⟩
theorem zNY (x y:Int) (w:World):Calls prog 178 #[.int .i32 x,.int .i32 y] w fun e w'=>e=.returned (.bool (decide (x<y)))∧w=w':=by
 go_enter func178,ntmps178;go_wp2_with fail;refine (zPN _ _).mono ?_;rintro e w1 ⟨rfl,rfl⟩;go_wp2;go_ret;exact⟨rfl,rfl⟩
theorem C.search_any (A:Option Addr) (c n B:Nat) (l:List Int) (d:Int) (w:World) (hn:l.length=n) (ag:n≤1000000) (hs:C.srt l) (hA:Sl w B A (l.map (Value.int .i32))) :
 Calls prog 146 #[.slice A n c,.int .i32 d] w (fun e w'=>e=.returned (.tuple #[.int .i64 (zDX l d:Nat),.bool (C.hit l d)])∧Below w.heap.size w w'):=by
 have HN:=hy' hn;have HS:=hy' hs;have hP:=zIB l d;rw[hn]at hP;obtain⟨P,hp⟩:∃P,zDX l d=P:=⟨_,rfl⟩;rw[hp]at hP;have HP:=hy' hp;clear hn hs hp;go_enter func146,ntmps146;go_wp2;go_loop [7,8] (fun vi vj=>∃i j:Nat,i≤P∧P≤j∧j≤n∧vi=.int .i64 i∧vj=.int .i64 j) (fun vi vj=>(intOf vj).toNat-(intOf vi).toNat)
 case atStart=>exact⟨0,n,by omega,hP,Za _,rfl,rfl⟩
 obtain⟨i,j,hi,hj,af,rfl,rfl⟩:=hrel
 by_cases hlt:(i:Int)<j
 · obtain⟨x,hx⟩:∃x,l[(i+j)/2]?=some x:=⟨_,Zb (by rw[HN.o];omega)⟩;obtain⟨b,o,rfl,ae,hc,_⟩:=hA.ints hx;have aa:=zPh HS.o hx d;rw[HP.o]at aa;have m0:(0:Int)≤(((i+j)/2:Nat):Int):=by omega
   have m1:(((i+j)/2:Nat):Int)<n:=by omega
   go_wp2_with fail;refine (zNY _ _ _).mono ?_;rintro e w1 ⟨rfl,rfl⟩
   by_cases hd:x<d
   · have hk:=aa.1 hd;have hdd:decide (x<d)=true:=Zs hd;clear aa;go_wp2;exact⟨⟨(i+j)/2+1,j,by omega,by omega,by omega,by go_num,by go_num⟩,by simp[intOf];omega⟩
   have hk:¬(i+j)/2<P:=fun h=>hd (aa.2 h)
   have hdd:decide (x<d)=false:=Zp hd;clear aa;go_wp2;exact⟨⟨i,(i+j)/2,by omega,by omega,by omega,by go_num,by go_num⟩,by simp[intOf];omega⟩
 obtain rfl:i=P:=by omega
 obtain rfl:i=j:=by omega
 by_cases hin:(i:Int)<n
 · obtain⟨x,hx⟩:∃x,l[i]?=some x:=⟨_,Zb (by rw[HN.o];omega)⟩;obtain⟨b,o,rfl,ae,hc,_⟩:=hA.ints hx;have hh:C.hit l d=(x == d):=by unfold C.hit;rw[HP.o,hx];rfl
   have HH:=hy' hh;clear hx hh;have m0:(0:Int)≤(i:Int):=by omega
   rcases hxd:(x == d) with _|_
   · go_wp2;go_ret2;rw[HP.o,HH.o,hxd];exact⟨rfl,Zd _ _⟩
   go_wp2;go_ret2;rw[HP.o,HH.o,hxd];exact⟨rfl,Zd _ _⟩
 have hh:C.hit l d=false:=by
  unfold C.hit;rw[HP.o,Yn (by rw[HN.o];omega)];rfl
 have HH:=hy' hh;clear hh;go_wp2;go_ret2;rw[HP.o,HH.o];exact⟨rfl,Zd _ _⟩
def zPO (l:List Int) (d:Int):Nat:=zDX l d+(if C.hit l d=true then 1 else 0)
theorem zNZ (A:Option Addr) (c n B:Nat) (l:List Int) (d:Int) (w:World) (hn:l.length=n) (ai:n≤1000000) (hs:C.srt l) (hB:B≤w.heap.size) (hA:Sl w B A (l.map (Value.int .i32))) :
 Calls prog 112 #[.agg #[.slice A n c],.int .i32 d] w (fun e w'=>e=.returned (.int .i64 (zPO l d:Nat))∧Below w.heap.size w w'):=by
 have HF:=hy' (C.search_any A c n B l d);have HN:=hy' hn;have HS:=hy' hs;have hP:=zIB l d;rw[hn]at hP;have ae:zPO l d=zDX l d+(if C.hit l d=true then 1 else 0):=rfl;obtain⟨P,hp⟩:∃P,zDX l d=P:=⟨_,rfl⟩;obtain⟨q,hq⟩:∃q,C.hit l d=q:=⟨_,rfl⟩;rw[hp,hq]at ae;rw[hp]at hP;rw[hp,hq]at HF;have af:=hy' ae;clear hn hs hp hq ae;go_enter func112,ntmps112;go_wp2_with fail;have ag:Below w.heap.size w (w.alloc (.cells #[.slice A n c] 90)):=(Zd _ _).alloc (Za _) _;refine (HF.o _ HN.o ai HS.o (hA.belowN ag hB (Za _))).mono ?_;rintro e w1 ⟨rfl,aa⟩;have ah:=ag.trans (aa.mono (by simp));rcases q with _|_
 · go_wp2;go_ret;exact⟨by rw[af.o];rfl,ah⟩
 go_wp2;go_ret;exact⟨by rw[af.o];rfl,ah⟩
theorem zMk (A:Option Addr) (c n B:Nat) (l:List Int) (d:Int) (w:World) (hn:l.length=n) (af:n≤1000000) (hs:C.srt l) (hB:B≤w.heap.size) (hA:Sl w B A (l.map (Value.int .i32))) :
 Calls prog 77 #[.agg #[.slice A n c],.int .i32 d] w (fun e w'=>e=.returned (.bool (C.mem l d))∧Below w.heap.size w w'):=by
 have HF:=hy' (zNZ A c n B l d);have hP:=zIB l d;rw[hn]at hP;have HN:=hy' hn;have HS:=hy' hs;have hm:=zMj hs d;have ag:zPO l d≤n+1:=by unfold zPO;split <;> omega
 change C.mem l d=((zPO l d%2) == 1) at hm;obtain⟨q,hq⟩:∃q,zPO l d=q:=⟨_,rfl⟩;rw[hq]at HF hm ag;have HM:=hy' hm;have hb:=zR4 q (by omega);clear hn hs hq hm;go_enter func77,ntmps77;go_wp2_with fail;have ae:Below w.heap.size w (w.alloc (.cells #[.slice A n c] 90)):=(Zd _ _).alloc (Za _) _;refine (HF.o _ HN.o af HS.o (by simp <;> omega) (hA.belowN ae hB (Za _))).mono ?_;rintro e w1 ⟨rfl,aa⟩;have ah:=ae.trans (aa.mono (by simp));go_wp2;go_ret;refine⟨?_,ah⟩;rw[HM.o];refine zCc ?_;rw[Yx];simp;omega
end
end Go.Proofs.YtdbpjmfflofadaaGreatDoor
