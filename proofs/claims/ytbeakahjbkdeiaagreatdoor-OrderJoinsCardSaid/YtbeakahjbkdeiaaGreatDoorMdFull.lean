/- Small laws that all walks of this seat use: slices that are read, slices that are handed back, an append of one. -/
import Derived.Test.YtbeakahjbkdeiaaGreatDoorAl1
import Derived.Test.YtbeakahjbkdeiaaGreatDoorRows
import Derived.WalkKit
import Derived.WalkSpells
import Derived.WalkLawsBesides
import Derived.Lib.Hide
namespace Go.Proofs.YtbeakahjbkdeiaaGreatDoor
open Go.RowKit
set_option linter.unusedSimpArgs false
set_option linter.unusedVariables false
theorem ret_int {k:IntKind} {a b:Int} (h:a=b):Ending.returned (.int k a)=.returned (.int k b):=by rw[h]
theorem ret_bool {a b:Bool} (h:a=b):Ending.returned (.bool a)=.returned (.bool b):=by rw[h]
theorem ret_tuple3 {k k':IntKind} {a a' b b':Int} {x x':Bool} (h:(a,b,x)=(a',b',x')) :
 Ending.returned (.tuple #[.int k a,.int k' b,.bool x])=.returned (.tuple #[.int k a',.int k' b',.bool x']):=by
 simp only[YN]at h
 obtain⟨rfl,rfl,rfl⟩:=h
 rfl
theorem bcell {B:Nat} {W w1:World} (hb:Below B W w1):(∀b o,b<B→w1.cell? ⟨b,o,none⟩=W.cell? ⟨b,o,none⟩)∧(∀b o,b<B→w1.frozen? ⟨b,o,none⟩=W.frozen? ⟨b,o,none⟩) :=
 ⟨fun b o h=>hb.cell (p:=⟨b,o,none⟩) h,fun b o h=>hb.frozen (p:=⟨b,o,none⟩) h⟩
def Sl (w:World) (B:Nat) (A:Option Addr) (xs:List Value):Prop :=
 0<xs.length→∃b o,A=some ⟨b,o,none⟩∧b<B∧∀i,i<xs.length→w.cell? ⟨b,o+i,none⟩=xs[i]?
theorem Sl.nil (w:World) (B:Nat) (A:Option Addr):Sl w B A []:=fun h=>absurd h (by simp)
theorem Sl.below {w w':World} {B B':Nat} {A:Option Addr} {xs:List Value} (h:Sl w B A xs) (hb:Below B w w') (hB:B≤B'):Sl w' B' A xs:=by
 intro hx
 obtain⟨b,o,hA,aa,hc⟩:=h hx
 exact⟨b,o,hA,by omega,fun i hi=>by rw[←hc i hi];exact hb.cell (p:=⟨b,o+i,none⟩) aa⟩
theorem Sl.belowN {w w':World} {B B0 B':Nat} {A:Option Addr} {xs:List Value} (h:Sl w B A xs) (hb:Below B0 w w') (h0:B≤B0) (hB:B≤B'):Sl w' B' A xs :=
 h.below (hb.mono h0) hB
theorem Sl.lit {w:World} {A:Option Addr} {b:Nat} {xs:List Value} (hA:A=some ⟨b,0,none⟩) (t:TypeId) (z:Nat × Nat) (hb:w.heap[b]?=some (.cells xs.toArray t z)):Sl w w.heap.size A xs:=by
 intro _
 have aa:b<w.heap.size:=by
  rcases ZY b w.heap.size with aa|hge
  · exact aa
  · rw[YP hge]at hb;cases hb
 refine⟨b,0,hA,aa,fun i hi=>?_⟩
 simp[World.cell?,hb]
theorem Sl.of_own {w:World} {base:Nat} {e:TypeId} {size n c:Nat} {A:Option Addr} {xs:List Value} (h:w.ownsRow base e size (.slice A n c) n xs):Sl w w.heap.size A xs:=by
 intro hx
 obtain⟨hl,h⟩:=h
 rcases h with ⟨hv,hn⟩|⟨g,cap,af,hv,_,hg,_,_,_,aa⟩
 · subst hn;simp at hl;rw[hl]at hx;simp at hx
 · simp only[ZV]at hv
   obtain⟨hA,_,_⟩:=hv
   have ae:g<w.heap.size:=by
    rcases ZY g w.heap.size with ae|hge
    · exact ae
    · rw[YP hge]at hg;cases hg
   refine⟨g,0,hA,ae,fun i hi=>?_⟩
   rw[←aa]
   simp[World.cell?,hg,Ys,←hl,hi]
theorem heap_lt {w:World} {g:Nat} {o:Obj} (h:w.heap[g]?=some o):g<w.heap.size:=by
 rcases ZY g w.heap.size with aa|hge
 · exact aa
 · rw[YP hge]at h;cases h
theorem own_below {w w':World} {base B:Nat} {e:TypeId} {size n:Nat} {v:Value} {xs:List Value} (h:w.ownsRow base e size v n xs) (hb:Below B w w') (hB:w.heap.size≤B):w'.ownsRow base e size v n xs:=by
 obtain⟨h1,h2⟩:=h
 refine⟨h1,?_⟩
 rcases h2 with h2|⟨g,cap,cur,hv,hg,hh,r⟩
 · exact .inl h2
 · exact .inr ⟨g,cap,cur,hv,hg,(hb.block g (by have:=heap_lt hh;omega)).trans hh,r⟩
def RetInts (k:IntKind) (l:List Int) (w:World) (e:Ending) (w':World):Prop :=
 ∃A c,e=.returned (.slice A l.length c)∧Sl w' w'.heap.size A (l.map (Value.int k))∧Below w.heap.size w w'
theorem own_form {w:World} {base:Nat} {e:TypeId} {size n:Nat} {v:Value} {xs:List Value} (h:w.ownsRow base e size v n xs):∃A c,v=.slice A n c:=by
 rcases h.2 with ⟨rfl,rfl⟩|⟨g,cap,aa,hv,_⟩
 · exact⟨none,0,rfl⟩
 · exact⟨_,_,hv⟩
section
variable {P:Program}
theorem wpList_push1 {ops:Array Oper} {rest:List Oper} {o:Oper} {a:Act} {Q:Exit→Act→World→Prop} (w:World) (hgd:o.guard=none) (s x:Operand) (t:TypeId)
 (ho:o.op=.call { callee:=.builtin .append,args := #[s,x],argTypes := #[t,t] })
 (base:Nat) (e:TypeId) (i:TypeInfo) (z:Value) (bytes:Nat) (ht:P.underlying t=some (.slice e)) (hi:P.info? e=some i) (hz:i.zero=some z)
 (hsize:i.size=1) (hby:i.bytes=bytes) (hzs:z.cells.size=1)
 (v:Value) (n:Nat) (xs:List Value) (hs:a.eval s=v) (hown:w.ownsRow base e 1 v n xs)
 (u:Value) (h1:u.oneCell'=true) (hx:a.eval x=.slice (some ⟨w.heap.size,0,none⟩) 1 1)
 (h63:n+1≤maxLen) (hbytes:(n+1)*bytes≤140737488355328) (hbase:base≤w.heap.size)
 (h:∀v' w',w'.ownsRow base e 1 v' (n+1) (xs++[u])→Below base w w'→wpList P ops Q rest (a.put o.dst v') w') :
 wpList P ops Q (o::rest) a (w.alloc (.cells #[u] e)):=by
 refine wpList_append_own (P:=P) _ hgd s x t ho base e i z 1 bytes ht hi hz hsize hby hzs (by omega) v n xs hs (hown.alloc _) ⟨w.heap.size,0,none⟩ 1 1 [u] hx rfl ?_ ?_ h63 hbytes (by simp;omega) ?_
 · exact cell_one_new _ _ _
 · intro q hq
   simp only[Zy]at hq
   subst hq
   exact h1
 · intro v' w' h2 h3 _
   refine h v' w' h2 ?_
   refine (((Zd _ _).alloc hbase _).grown h3 (by simp;omega) ?_)
   intro k hk
   exact (hown.lt k hk).1
end
theorem infoInt:(Tryz.prog.info? 3).map (fun i=>(i.zero,i.size,i.bytes))=some (some (.int .i64 0),1,8):=by kernel_rfl
theorem infoRune:(Tryz.prog.info? 21).map (fun i=>(i.zero,i.size,i.bytes))=some (some (.int .i32 0),1,4):=by kernel_rfl
theorem infoByte:(Tryz.prog.info? 5).map (fun i=>(i.zero,i.size,i.bytes))=some (some (.int .u8 0),1,1):=by kernel_rfl
set_option maxHeartbeats 400000 in
theorem Hg.in_any (c a n:Int) (w:World) (h1:0≤a) (h2:0≤n) (h3:a+n≤100000) :
 Calls Tryz.prog 124 #[.int .i32 c,.int .i32 a,.int .i32 n] w fun e w'=>e=.returned (.bool (decide (a≤c∧c<a+n)))∧w=w':=by
 go_enter Tryz.func124,Tryz.ntmps124
 go_wp2
 all_goals
  go_ret
  exact⟨ret_bool (by simp;try omega),rfl⟩
def Hg.ofK (c:Int):Int :=
 if 4352≤c∧c<4371 then 1 else if 4449≤c∧c<4470 then 2 else if 4520≤c∧c<4547 then 3
 else if ¬(44032≤c∧c<55204) then 0 else if (c-44032)%28=0 then 4 else 5
set_option maxHeartbeats 400000 in
theorem Hg.of_any (c:Int) (w:World) (h1 : -2147483648≤c) (h2:c≤2147483647) :
 Calls Tryz.prog 81 #[.int .i32 c] w fun e w'=>e=.returned (.int .i64 (Hg.ofK c))∧w=w':=by
 go_enter Tryz.func81,Tryz.ntmps81
 go_wp2
 all_goals
  go_ret
  refine⟨ret_int ?_,rfl⟩
  try simp only[Y8,Xe,Xv,Bool.not_eq_false',Zp,ZX]at *
  unfold Hg.ofK
  grind
def Hg.pairK (c:Int):Int × Int × Bool :=
 if Hg.ofK c=4 then (4352+(c-44032)/588,4449+(c-44032)%588/28,true)
 else if Hg.ofK c=5 then (c-(c-44032)%28,4519+(c-44032)%28,true)
 else (0,0,false)
theorem Hg.ofK_syl (c:Int) (h:Hg.ofK c=4∨Hg.ofK c=5):44032≤c∧c<55204:=by
 unfold Hg.ofK at h
 grind
set_option maxHeartbeats 400000 in
theorem Hg.pair_any (c:Int) (w:World) (h1 : -2147483648≤c) (h2:c≤2147483647) :
 Calls Tryz.prog 98 #[.int .i32 c] w fun e w'=>e=.returned (.tuple #[.int .i32 (Hg.pairK c).1,.int .i32 (Hg.pairK c).2.1,.bool (Hg.pairK c).2.2])∧w=w':=by
 by_cases h4:Hg.ofK c=4
 · have hs:=Hg.ofK_syl c (.inl h4)
   obtain⟨ae,af⟩:=hs
   have hb:=beq_iff_eq.2 h4
   have H4:=Za h4
   clear h4
   go_enter Tryz.func98,Tryz.ntmps98
   go_wp2_with (go_at_call 81;refine (Hg.of_any _ _ h1 h2).mono ?_;rintro e w' ⟨rfl,rfl⟩)
   go_ret3
   refine⟨ret_tuple3 ?_,rfl⟩
   unfold Hg.pairK
   rw[Zv H4.out]
 · by_cases h5:Hg.ofK c=5
   · have hs:=Hg.ofK_syl c (.inr h5)
     obtain⟨ae,af⟩:=hs
     have hb:(Hg.ofK c == 4)=false:=by rw[h5];rfl
     have aa:=beq_iff_eq.2 h5
     have H5:=Za h5
     have H4:=Za h4
     clear h4 h5
     go_enter Tryz.func98,Tryz.ntmps98
     go_wp2_with (go_at_call 81;refine (Hg.of_any _ _ h1 h2).mono ?_;rintro e w' ⟨rfl,rfl⟩)
     go_ret3
     refine⟨ret_tuple3 ?_,rfl⟩
     unfold Hg.pairK
     rw[Zs H4.out,Zv H5.out]
   · have hb:(Hg.ofK c == 4)=false:=beq_eq_false_iff_ne.2 h4
     have aa:(Hg.ofK c == 5)=false:=beq_eq_false_iff_ne.2 h5
     have H5:=Za h5
     have H4:=Za h4
     clear h4 h5
     go_enter Tryz.func98,Tryz.ntmps98
     go_wp2_with (go_at_call 81;refine (Hg.of_any _ _ h1 h2).mono ?_;rintro e w' ⟨rfl,rfl⟩)
     go_ret3
     refine⟨ret_tuple3 ?_,rfl⟩
     unfold Hg.pairK
     rw[Zs H4.out,Zs H5.out]
def Hg.splitK (c:Int):List Int :=
 if Hg.ofK c=4 then [4352+(c-44032)/588,4449+(c-44032)%588/28]
 else if Hg.ofK c=5 then [4352+(c-44032)/588,4449+(c-44032)%588/28,4519+(c-44032)%28]
 else []
theorem Hg.ofK_four (c:Int) (h1:44032≤c) (h2:c<55204) (h:(c-44032)%28=0):Hg.ofK c=4:=by
 unfold Hg.ofK
 grind
theorem Hg.pairK_four (c:Int) (h:Hg.ofK c=4):Hg.pairK c=(4352+(c-44032)/588,4449+(c-44032)%588/28,true):=by
 unfold Hg.pairK;rw[if_pos h]
theorem Hg.pairK_five (c:Int) (h:Hg.ofK c=5):Hg.pairK c=(c-(c-44032)%28,4519+(c-44032)%28,true):=by
 unfold Hg.pairK;rw[if_neg (by rw[h];decide),if_pos h]
theorem Hg.pairK_none (c:Int) (h4:¬Hg.ofK c=4) (h5:¬Hg.ofK c=5):Hg.pairK c=(0,0,false):=by
 unfold Hg.pairK;rw[if_neg h4,if_neg h5]
theorem Hg.two_of (c:Int) (h1:44032≤c) (h2:c<55204):Hg.pairK (c-(c-44032)%28)=(4352+(c-44032)/588,4449+(c-44032)%588/28,true):=by
 rw[Hg.pairK_four _ (Hg.ofK_four _ (by omega) (by omega) (by omega))]
 refine Prod.ext ?_ (Prod.ext ?_ rfl) <;> simp only[] <;> omega
set_option maxHeartbeats 400000 in
theorem Hg.kind_any (c:Int) (w:World) (h1 : -2147483648≤c) (h2:c≤2147483647) :
 Calls Tryz.prog 133 #[.int .i64 c] w fun e w'=>e=.returned (.int .i64 (Hg.ofK c))∧w=w':=by
 go_enter Tryz.func133,Tryz.ntmps133
 go_wp2
 all_goals
  go_ret
  refine⟨ret_int ?_,rfl⟩
  try simp only[Y8,Xe,Xv,Bool.not_eq_false',Zp,ZX]at *
  unfold Hg.ofK
  grind
set_option maxHeartbeats 1000000 in
theorem Hg.parts_any (
 c:Int) (w:World) (h1 : -2147483648≤c) (h2:c≤2147483647) :
 Calls Tryz.prog 82 #[.int .i64 c] w (RetInts .i64 (Hg.splitK c) w):=by
 go_enter Tryz.func82,Tryz.ntmps82
 go_wp2
 go_loop [3,4] (fun n l=>∃k:Int,0≤k∧k≤19∧n=.int .i64 (44032+588*k)∧l=.int .i64 (4352+k)∧(k=0∨44032+588*k≤c)) (fun _ l=>(5000-intOf l).toNat)
 case atStart=>exact⟨0,by omega,by omega,rfl,rfl,.inl rfl⟩
 case round =>
  obtain⟨k,af,aa,rfl,rfl,hk⟩:=hrel
  by_cases hl:4352+k≤4370
  · by_cases hc:44032+588*k+588≤c
    · go_wp2
      exact⟨⟨k+1,by omega,by omega,by go_num,by go_num,.inr (by omega)⟩,by simp[intOf];omega⟩
    · go_wp2
      go_loop [3,5] (fun n v=>∃j:Int,0≤j∧j≤21∧n=.int .i64 (44032+588*k+28*j)∧v=.int .i64 (4449+j)∧(j=0∨44032+588*k+28*j≤c)) (fun _ v=>(5000-intOf v).toNat)
      case atStart=>exact⟨0,by omega,by omega,by go_num,rfl,.inl rfl⟩
      case round =>
       obtain⟨j,hj0,ae,rfl,rfl,hj⟩:=hrel
       by_cases hv:4449+j≤4469
       · by_cases hd:44032+588*k+28*j+28≤c
         · go_wp2
           exact⟨⟨j+1,by omega,by omega,by go_num,by go_num,.inr (by omega)⟩,by simp[intOf];omega⟩
         · by_cases he:c=44032+588*k+28*j
           · have hb:(c == 44032+588*k+28*j)=true:=beq_iff_eq.2 he
             have H4:=Hg.ofK_four c (by omega) (by omega) (by omega)
             have HS:Hid (Hg.splitK c=[4352+k,4449+j]):=by
              show Hg.splitK c=[4352+k,4449+j]
              unfold Hg.splitK
              rw[Zv H4,show (c-44032)/588=k from by omega,show (c-44032)%588/28=j from by omega]
             clear H4
             have HE:=Za he
             clear he
             go_wp2
             go_ret
             rw[HS.out]
             exact⟨_,_,rfl,Sl.lit rfl _ _ (ZT _ _),(Zd _ _).alloc (Zb _) _⟩
           · have hb:(c == 44032+588*k+28*j)=false:=beq_eq_false_iff_ne.2 he
             by_cases hg:44032+588*k+28*j<c
             · have H5:Hg.ofK c=5:=by unfold Hg.ofK;grind
               have HS:Hid (Hg.splitK c=[4352+k,4449+j,4519+c-(44032+588*k+28*j)]):=by
                show Hg.splitK c=[4352+k,4449+j,4519+c-(44032+588*k+28*j)]
                unfold Hg.splitK
                rw[Zs (by rw[H5];decide),Zv H5,show (c-44032)/588=k from by omega,show (c-44032)%588/28=j from by omega,
                 show 4519+(c-44032)%28=4519+c-(44032+588*k+28*j) from by omega]
               clear H5
               go_wp2
               go_ret
               rw[HS.out]
               exact⟨_,_,rfl,Sl.lit rfl _ _ (ZT _ _),(Zd _ _).alloc (Zb _) _⟩
             · have HS:Hid (Hg.splitK c=[]):=by
                show Hg.splitK c=[]
                have:¬(44032≤c∧c<55204):=by omega
                unfold Hg.splitK
                rw[Zs (fun h=>this (Hg.ofK_syl c (.inl h))),Zs (fun h=>this (Hg.ofK_syl c (.inr h)))]
               go_wp2
               go_ret
               rw[HS.out]
               exact⟨_,_,rfl,fun h=>absurd h (by simp),Zd _ _⟩
       · omega
  · have HS:Hid (Hg.splitK c=[]):=by
     show Hg.splitK c=[]
     have:¬(44032≤c∧c<55204):=by omega
     unfold Hg.splitK
     rw[Zs (fun h=>this (Hg.ofK_syl c (.inl h))),Zs (fun h=>this (Hg.ofK_syl c (.inr h)))]
    go_wp2
    go_ret
    rw[HS.out]
    exact⟨_,_,rfl,fun h=>absurd h (by simp),Zd _ _⟩
end Go.Proofs.YtbeakahjbkdeiaaGreatDoor
namespace Go.Proofs.YtbeakahjbkdeiaaGreatDoor
def Md.one (mp:Int→List Int) (c:Int):List Int:=if mp c=[] then [c] else mp c
def Md.step (mp:Int→List Int) (L:List Int):List Int:=L.flatMap (Md.one mp)
def Md.plain (mp:Int→List Int) (L:List Int):Bool:=L.all fun c=>(mp c).isEmpty
def Md.docF (mp:Int→List Int):Nat→List Int→Option (List Int)
 | 0,_=>none
 | k+1,L=>if Md.plain mp L=true then some L else if (Md.step mp L).length > 32 then none else Md.docF mp k (Md.step mp L)
def Md.leaf (out:List Int) (c:Int):Option (List Int):=if out.length<32 then some (out++[c]) else none
def Md.expL (f:List Int→Int→Option (List Int)):List Int→List Int→Option (List Int)
 | out,[]=>some out
 | out,d::r=>(f out d).bind fun o=>Md.expL f o r
def Md.exp (mp:Int→List Int):Nat→List Int→Int→Option (List Int)
 | 0,out,c=>if mp c=[] then Md.leaf out c else none
 | k+1,out,c=>if mp c=[] then Md.leaf out c else Md.expL (Md.exp mp k) out (mp c)
def Md.lvL (f:Int→Option (List Int)):List Int→Option (List Int)
 | []=>some []
 | d::r=>(f d).bind fun a=>(Md.lvL f r).map (a ++ ·)
def Md.lv (mp:Int→List Int):Nat→Int→Option (List Int)
 | 0,c=>if mp c=[] then some [c] else none
 | k+1,c=>if mp c=[] then some [c] else Md.lvL (Md.lv mp k) (mp c)
def Md.fit (out:List Int) (l:List Int):Option (List Int):=if out.length+l.length≤32 then some (out++l) else none
theorem Md.lvL_len {f:Int→Option (List Int)} (hf:∀c l,f c=some l→1≤l.length):∀(L l:List Int),Md.lvL f L=some l→L.length≤l.length
 | [],l,_=>Zz _
 | d::r,l,h=>by
   unfold Md.lvL at h
   cases hd:f d with
   | none=>rw[hd]at h;cases h
   | some a =>
     rw[hd,Zt]at h
     cases hr:Md.lvL f r with
     | none=>rw[hr]at h;cases h
     | some b =>
       rw[hr,Zn]at h
       cases h
       have h1:=hf d a hd
       have h2:=Md.lvL_len hf r b hr
       simp
       omega
theorem Md.lv_len (mp:Int→List Int):∀(k:Nat) (c:Int) (l:List Int),Md.lv mp k c=some l→1≤l.length
 | 0,c,l,h=>by
   unfold Md.lv at h
   split at h
   · cases h;simp
   · cases h
 | k+1,c,l,h=>by
   unfold Md.lv at h
   split at h
   · cases h;simp
   · rename_i hne
     have:=Md.lvL_len (Md.lv_len mp k) _ _ h
     have h2:1≤(mp c).length:=by
      cases hm:mp c with
      | nil=>exact absurd hm hne
      | cons a b=>simp
     omega
theorem Md.lv_more (mp:Int→List Int) {c:Int} (k:Nat) {l:List Int} (h:Md.lv mp k c=some l) (hc:mp c≠[]):(mp c).length≤l.length:=by
 cases k with
 | zero=>unfold Md.lv at h;rw[if_neg hc]at h;cases h
 | succ k=>unfold Md.lv at h;rw[if_neg hc]at h;exact Md.lvL_len (Md.lv_len mp k) _ _ h
theorem Md.expL_lv {f:List Int→Int→Option (List Int)} {g:Int→Option (List Int)} (hf:∀out c,out.length≤32→f out c=(g c).bind (Md.fit out)) :
 ∀(L out:List Int),out.length≤32→Md.expL f out L=(Md.lvL g L).bind (Md.fit out)
 | [],out,ho=>by
   unfold Md.expL Md.lvL Md.fit
   simp[ho]
 | d::r,out,ho=>by
   unfold Md.expL Md.lvL
   rw[hf out d ho]
   cases hd:g d with
   | none=>rfl
   | some a =>
     rw[Zt,Zt]
     by_cases h1:out.length+a.length≤32
     · rw[show Md.fit out a=some (out++a) by unfold Md.fit;rw[if_pos h1],Option.bind_some,Md.expL_lv hf r (out++a) (by simpa using h1)]
       cases hr:Md.lvL g r with
       | none=>rfl
       | some b =>
         rw[Zt,Zn,Zt]
         unfold Md.fit
         simp[Yh]
     · rw[show Md.fit out a=none by unfold Md.fit;rw[if_neg h1],Option.bind_none]
       cases hr:Md.lvL g r with
       | none=>rfl
       | some b =>
         rw[Zn,Zt]
         unfold Md.fit
         rw[Zs (by simp;omega)]
theorem Md.leaf_fit (out:List Int) (c:Int):Md.leaf out c=Md.fit out [c]:=by
 unfold Md.leaf Md.fit
 by_cases h:out.length<32
 · rw[Zv h,Zv (by simp;omega)]
 · rw[Zs h,Zs (by simp;omega)]
theorem Md.exp_lv (mp:Int→List Int):∀(k:Nat) (out:List Int) (c:Int),out.length≤32→Md.exp mp k out c=(Md.lv mp k c).bind (Md.fit out)
 | 0,out,c,ho=>by
   unfold Md.exp Md.lv
   by_cases h:mp c=[]
   · rw[Zv h,Zv h,Md.leaf_fit];rfl
   · rw[Zs h,Zs h];rfl
 | k+1,out,c,ho=>by
   unfold Md.exp Md.lv
   by_cases h:mp c=[]
   · rw[Zv h,Zv h,Md.leaf_fit];rfl
   · rw[Zs h,Zs h]
     exact Md.expL_lv (fun o d hd=>Md.exp_lv mp k o d hd) _ _ ho
theorem Md.lvL_app (f:Int→Option (List Int)):∀(a b:List Int),Md.lvL f (a++b)=(Md.lvL f a).bind fun x=>(Md.lvL f b).map (x ++ ·)
 | [],b=>by simp[Md.lvL]
 | d::r,b=>by
   rw[ZP,Md.lvL,Md.lvL,Md.lvL_app f r b]
   cases f d with
   | none=>rfl
   | some x =>
     cases Md.lvL f r with
     | none=>rfl
     | some y =>
       cases Md.lvL f b with
       | none=>rfl
       | some z=>simp
theorem Md.lv_plain (mp:Int→List Int) (k:Nat) {c:Int} (h:mp c=[]):Md.lv mp k c=some [c]:=by
 cases k with
 | zero=>unfold Md.lv;rw[if_pos h]
 | succ k=>unfold Md.lv;rw[if_pos h]
theorem Md.lv_one (mp:Int→List Int) (k:Nat) (c:Int):Md.lv mp (k+1) c=Md.lvL (Md.lv mp k) (Md.one mp c):=by
 unfold Md.one
 by_cases h:mp c=[]
 · rw[Zv h,Md.lv_plain mp _ h,Md.lvL,Md.lv_plain mp _ h];rfl
 · rw[Zs h,Md.lv,Zs h]
theorem Md.lvL_step (mp:Int→List Int) (k:Nat):∀(L:List Int),Md.lvL (Md.lv mp (k+1)) L=Md.lvL (Md.lv mp k) (Md.step mp L)
 | []=>rfl
 | d::r=>by
   have e:Md.step mp (d::r)=Md.one mp d++Md.step mp r:=by simp[Md.step]
   rw[e,Md.lvL_app,Md.lvL,Md.lvL_step mp k r,Md.lv_one]
theorem Md.lvL_plain (mp:Int→List Int) (k:Nat):∀(L:List Int),Md.plain mp L=true→Md.lvL (Md.lv mp k) L=some L
 | [],_=>rfl
 | d::r,h=>by
   unfold Md.plain at h
   rw[List.all_cons,Zx,List.isEmpty_iff]at h
   rw[Md.lvL,Md.lv_plain mp k h.1,Md.lvL_plain mp k r (by unfold Md.plain;exact h.2)]
   rfl
theorem Md.lvL_zero (mp:Int→List Int):∀(L:List Int),Md.plain mp L≠true→Md.lvL (Md.lv mp 0) L=none
 | [],h=>absurd rfl h
 | d::r,h=>by
   rw[Md.lvL]
   by_cases hd:mp d=[]
   · have:Md.plain mp r≠true:=fun hr=>h (by unfold Md.plain at hr ⊢;rw[List.all_cons,hr,hd];rfl)
     rw[Md.lvL_zero mp r this]
     cases Md.lv mp 0 d <;> rfl
   · rw[Md.lv,Zs hd];rfl
theorem Md.doc_lv (mp:Int→List Int):∀(k:Nat) (L:List Int),L.length≤32→Md.docF mp (k+1) L=(Md.lvL (Md.lv mp k) L).bind (Md.fit [])
 | 0,L,hL=>by
   rw[Md.docF]
   by_cases h:Md.plain mp L=true
   · rw[Zv h,Md.lvL_plain mp 0 L h,Zt]
     unfold Md.fit
     simp[hL]
   · rw[Zs h,Md.lvL_zero mp L h]
     split <;> rfl
 | k+1,L,hL=>by
   rw[Md.docF]
   by_cases h:Md.plain mp L=true
   · rw[Zv h,Md.lvL_plain mp _ L h,Zt]
     unfold Md.fit
     simp[hL]
   · rw[Zs h,Md.lvL_step]
     by_cases h2:(Md.step mp L).length > 32
     · rw[Zv h2]
       cases hl:Md.lvL (Md.lv mp k) (Md.step mp L) with
       | none=>rfl
       | some l =>
         have:=Md.lvL_len (Md.lv_len mp k) _ _ hl
         rw[Zt]
         unfold Md.fit
         rw[Zs (by simp;omega)]
     · rw[Zs h2,Md.doc_lv mp k _ (by omega)]
theorem Md.full_eq (mp:Int→List Int) (k:Nat) (c:Int):Md.docF mp (k+1) [c]=Md.exp mp k [] c:=by
 rw[Md.doc_lv mp k [c] (by simp),Md.exp_lv mp k [] c (by simp),Md.lvL]
 cases Md.lv mp k c with
 | none=>rfl
 | some a=>simp[Md.lvL]
theorem Md.lvL_none {mp:Int→List Int} {f:Int→Option (List Int)} (hf:∀c l,f c=some l→∀d∈l,mp d=[]):∀(L l:List Int),Md.lvL f L=some l→∀d∈l,mp d=[]
 | [],l,h,d,hd=>by cases h;cases hd
 | e::r,l,h,d,hd=>by
   unfold Md.lvL at h
   cases he:f e with
   | none=>rw[he]at h;cases h
   | some a =>
     rw[he,Zt]at h
     cases hr:Md.lvL f r with
     | none=>rw[hr]at h;cases h
     | some b =>
       rw[hr,Zn]at h
       cases h
       rcases List.mem_append.1 hd with h1|h1
       · exact hf e a he d h1
       · exact Md.lvL_none hf r b hr d h1
theorem Md.lv_none (mp:Int→List Int):∀(k:Nat) (c:Int) (l:List Int),Md.lv mp k c=some l→∀d∈l,mp d=[]
 | 0,c,l,h,d,hd=>by
   unfold Md.lv at h
   split at h
   · rename_i hc
     cases h
     rw[Zy]at hd
     rw[hd];exact hc
   · cases h
 | k+1,c,l,h,d,hd=>by
   unfold Md.lv at h
   split at h
   · rename_i hc
     cases h
     rw[Zy]at hd
     rw[hd];exact hc
   · exact Md.lvL_none (Md.lv_none mp k) _ _ h d hd
theorem Md.exp_none {mp:Int→List Int} {k:Nat} {c:Int} {l:List Int} (h:Md.exp mp k [] c=some l):(∀d∈l,mp d=[])∧1≤l.length∧(mp c).length≤l.length∧l.length≤32:=by
 rw[Md.exp_lv mp k [] c (by simp)]at h
 cases hl:Md.lv mp k c with
 | none=>rw[hl]at h;cases h
 | some a =>
   rw[hl,Zt]at h
   unfold Md.fit at h
   split at h
   · rename_i hle
     cases h
     rw[ZZ]
     refine⟨Md.lv_none mp k c a hl,Md.lv_len mp k c a hl,?_,by simpa using hle⟩
     by_cases hc:mp c=[]
     · rw[hc];exact Zz _
     · exact Md.lv_more mp k hl hc
   · cases h
theorem Md.exp_plain {mp:Int→List Int} (k:Nat) {c:Int} (h:mp c=[]):Md.exp mp k [] c=some [c]:=by
 rw[Md.exp_lv mp k [] c (by simp),Md.lv_plain mp k h];rfl
end Go.Proofs.YtbeakahjbkdeiaaGreatDoor
