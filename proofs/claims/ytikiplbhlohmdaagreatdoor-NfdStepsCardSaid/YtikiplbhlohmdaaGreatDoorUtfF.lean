/- Decode, the reference's Decode, and the law UtfDecodes' parts. -/
import Derived.Test.YtikiplbhlohmdaaGreatDoorUtfD
set_option linter.unusedVariables false
set_option linter.unusedSimpArgs false
namespace Go.Proofs.YtikiplbhlohmdaaGreatDoor
open Go.RowKit
def RetOwn2 (el:TypeId) (k:IntKind) (l:List Int) (n:Int) (w:World) (e:Ending) (w':World):Prop :=
 ∃A c,e=.returned (.tuple #[.slice A l.length c,.int .i64 n])∧w'.ownsRow w.heap.size el 1 (.slice A l.length c) l.length (l.map (Value.int k))∧Below w.heap.size w w'
theorem RetOwn2.mk {el:TypeId} {k:IntKind} {l:List Int} {n:Int} {w w':World} {v:Value} {m:Nat} {xs:List Value} (h:w'.ownsRow w.heap.size el 1 v m xs) (hm:m=l.length) (hx:xs=l.map (Value.int k)) (hb:Below w.heap.size w w') :
 RetOwn2 el k l n w (.returned (.tuple #[v,.int .i64 n])) w':=by
 subst hm hx
 obtain⟨A,c,rfl⟩:=own_form h
 exact⟨A,c,rfl,h,hb⟩
def U.decN (r:List UInt8):Int:=if r=[] then 0 else 6
def U.decL (cs:List Int) (r:List UInt8):List Int:=if r=[] then cs else []
theorem U.decN_cons (a:UInt8) (r:List UInt8):U.decN (a::r)=6:=rfl
theorem U.decL_cons (cs:List Int) (a:UInt8) (r:List UInt8):U.decL cs (a::r)=[]:=rfl
set_option maxRecDepth 100000 in
set_option maxHeartbeats 1000000 in
theorem U.decode_any (s:ByteArray) (w:World) (hs:s.size≤1000000000000) (hH:Heads w) (cs:List Int) (r:List UInt8) (hd:U.Dec s.data.toList cs r) :
 Calls Tryz.prog 51 #[.string s] w (RetOwn2 21 .i32 (U.decL cs r) (U.decN r) w):=by
 obtain⟨d1,d2,d3⟩:=hd
 have hlen:s.size=(U.encs cs).length+r.length:=by rw[←ba_len,d1,Ze]
 have D1:=Za d1
 have D2:=Za d2
 have D3:=Za d3
 have HL:=Za hlen
 clear d1 d2 d3 hlen
 obtain⟨i0,hi,aw,a1,a6⟩:=Z7 infoRune
 go_enter Tryz.func51,Tryz.ntmps51
 go_wp2
 go_loopw [0,4] (fun x v wr=>∃a b y,cs=a++b∧x=.string y∧y.data.toList=U.encs b++r∧y.size≤s.size∧wr.ownsRow w.heap.size 21 1 v a.length (a.map (Value.int .i32))∧Below w.heap.size w wr) (fun x _ _=>match x with | .string y=>y.size|_=>0)
 case atStart=>exact⟨[],cs,s,rfl,rfl,D1.out,Zb _,ZC _ _ _ _,Zd _ _⟩
 case round =>
  obtain⟨a,b,y,ao,rfl,hy,bc,af,ae⟩:=hrel
  have au:=ae.size
  have ar:=hH.next ae
  have bf:(U.encs a).length≤s.size:=by rw[HL.out,ao,U.encs_append,Ze];omega
  have az:=U.encs_len a
  have ap:=Za ao
  have HY:=Za hy
  have aq:y.size≤maxLen:=by unfold maxLen;omega
  clear ao hy
  rcases b with _|⟨c,b⟩
  · have ha:cs=a:=by rw[ap.out,Yc]
    rcases r with _|⟨r0,r'⟩
    · have he:y.toList.isEmpty=true:=by rw[ba_list,HY.out];rfl
      have av:=Za ha
      clear ha
      go_wp2
      go_ret2
      exact RetOwn2.mk af (by rw[show U.decL cs []=cs from rfl,av.out]) (by rw[show U.decL cs []=cs from rfl,av.out]) ae
    · have he:y.toList.isEmpty=false:=by rw[ba_list,HY.out];rfl
      have h3:U.next3 y.data.toList=(0,0,false):=by rw[HY.out];exact U.next3_none D3.out
      have H3:=Za h3
      clear h3 ha
      go_wp2_with fail
      refine (U.next_any _ _ aq ar).mono ?_
      rintro e w1 ⟨rfl,aa⟩
      rw[H3.out]
      go_wp2
      go_ret2
      rw[U.decL_cons,U.decN_cons]
      exact RetOwn2.mk (ZC _ _ _ _) rfl rfl (ae.trans (aa.mono au))
  · have hc:=D2.out c (by rw[ap.out];simp)
    obtain⟨l1,l2⟩:=U.enc_pos c
    have aj:y.size=(U.enc c).length+((U.encs b).length+r.length):=by rw[←ba_len,HY.out,U.encs_cons,Ze,Ze,Yi]
    have h3:U.next3 y.data.toList=(c,(U.enc c).length,true):=by rw[HY.out];exact U.next3_some (U.dec_next hc)
    have he:y.toList.isEmpty=false:=ba_nonempty y (by omega)
    obtain⟨k,hk⟩:∃k,(U.enc c).length=k:=⟨_,rfl⟩
    obtain⟨z,hz⟩:∃z:ByteArray,y.extract k y.size=z:=⟨_,rfl⟩
    have ak:z.data.toList=U.encs b++r:=by
     rw[←hz,ba_drop,HY.out,U.encs_cons,Zz,←hk,List.drop_left]
    have ax:z.size<y.size:=by
     rw[aj,←ba_len,ak,Ze];omega
    have H3:=Za h3
    have ba:=Za ak
    rw[hk]at l1 l2 H3 aj
    have bg:k≤y.size:=by omega
    have a8:=(U.isC_iff c).1 hc
    obtain⟨c1,c2,-⟩:=a8
    clear hk h3 ak aj
    have bb:a.length+1≤1000000000001:=by omega
    go_wp2_with fail
    refine (U.next_any _ _ aq ar).mono ?_
    rintro e w1 ⟨rfl,aa⟩
    rw[H3.out]
    have ag:=own_below af aa (Zb _)
    have ah:=ae.trans (aa.mono au)
    have a7:=ah.size
    clear af aa
    go_wp2_with (at_builtin;refine wpList_push1 _ rfl _ _ _ rfl w.heap.size 21 i0 _ 4 Tryz.underlying49 hi aw a1 a6 rfl _ a.length _ rfl ag _ rfl rfl (by simp only[maxLen];omega) (by omega) a7 ?_;intro v1 w2 ai ay)
    exact⟨⟨a++[c],b,z,by rw[ap.out,Zz];rfl,rfl,ba.out,by omega,by rw[Ze,ZM];exact ai,ah.trans ay⟩,ax⟩
def U.rdN (cs:List Int) (r:List UInt8):Int:=if r=[] then -1 else ((U.encs cs).length:Nat)
theorem U.rdN_cons (cs:List Int) (a:UInt8) (r:List UInt8):U.rdN cs (a::r)=((U.encs cs).length:Nat):=rfl
set_option maxRecDepth 100000 in
set_option maxHeartbeats 1000000 in
theorem U.rdecode_any (s:ByteArray) (w:World) (hs:s.size≤1000000000000) (cs:List Int) (r:List UInt8) (hd:U.Dec s.data.toList cs r) :
 Calls Tryz.prog 33 #[.string s] w (RetOwn2 3 .i64 (U.decL cs r) (U.rdN cs r) w):=by
 obtain⟨d1,d2,d3⟩:=hd
 have hlen:s.size=(U.encs cs).length+r.length:=by rw[←ba_len,d1,Ze]
 have D1:=Za d1
 have D2:=Za d2
 have D3:=Za d3
 have HL:=Za hlen
 clear d1 d2 d3 hlen
 obtain⟨i0,hi,a6,a8,ba⟩:=Z7 infoInt
 go_enter Tryz.func33,Tryz.ntmps33
 go_wp2
 go_loopw [5,4] (fun i v wr=>∃a b,cs=a++b∧i=.int .i64 ((U.encs a).length:Nat)∧wr.ownsRow w.heap.size 3 1 v a.length (a.map (Value.int .i64))∧Below w.heap.size w wr) (fun i _ _=>s.size-(intOf i).toNat)
 case atStart =>
  refine⟨[],cs,rfl,rfl,?_,(Zd _ _).alloc (Zb _) _⟩
  exact⟨rfl,.inr ⟨w.heap.size,0,#[],rfl,Zb _,ZP _ _,Zb _,by decide,rfl,rfl⟩⟩
 case round =>
  obtain⟨a,b,ao,rfl,ah,af⟩:=hrel
  have ax:=af.size
  have ae:s.data.toList.drop (U.encs a).length=U.encs b++r:=by rw[D1.out,ao,U.encs_append,Zz,List.drop_left]
  have ag:(U.encs a).length+(U.encs b).length+r.length=s.size:=by rw[HL.out,ao,U.encs_append,Ze]
  have ap:=U.encs_len a
  have au:=Za ao
  clear ao
  obtain⟨m,hm⟩:∃m,(U.encs a).length=m:=⟨_,rfl⟩
  have HM:=Za hm
  rw[hm]at ae ag ap
  rw[hm]
  clear hm
  obtain⟨x,hx⟩:∃x:ByteArray,s.extract m s.size=x:=⟨_,rfl⟩
  have aq:x.data.toList=U.encs b++r:=by rw[←hx,←ae];exact ba_drop s _
  have bf:x.size≤s.size:=by rw[←ba_len,aq,Ze];omega
  have aw:x.size≤maxLen:=by unfold maxLen;omega
  have a1:=Za aq
  clear aq ae
  rcases b with _|⟨c,b⟩
  · have ha:cs=a:=by rw[au.out,Yc]
    rcases r with _|⟨r0,r'⟩
    · have av:¬(m:Int)<s.size:=by simp[U.encs]at ag;omega
      have ar:=Za ha
      clear ha ag
      go_wp2
      go_ret2
      rw[show U.rdN cs [] = -1 from rfl,show U.decL cs []=cs from rfl,ar.out]
      exact RetOwn2.mk ah rfl rfl af
    · have av:(m:Int)<s.size:=by rw[ZI]at ag;omega
      have h3:U.firstK x.data.toList=(0,0):=by rw[a1.out];exact U.first_none D3.out
      have H3:=Za h3
      have ar:=Za ha
      clear ha ag h3
      go_wp2_with fail
      refine (U.first_any _ _ aw).mono ?_
      rintro e w1 ⟨rfl,aa⟩
      rw[H3.out]
      go_wp2
      go_ret2
      rw[U.decL_cons,U.rdN_cons,ar.out,HM.out]
      exact RetOwn2.mk (ZC _ _ _ _) rfl rfl (af.trans (aa.mono ax))
  · have hc:=D2.out c (by rw[au.out];simp)
    obtain⟨l1,l2⟩:=U.enc_pos c
    have av:(m:Int)<s.size:=by rw[U.encs_cons,Ze]at ag;omega
    have h3:U.firstK x.data.toList=(c,(U.enc c).length):=by rw[a1.out];exact U.first_some (U.dec_next hc)
    have hq:m+(U.enc c).length≤s.size:=by rw[U.encs_cons,Ze]at ag;omega
    have ay:(U.encs (a++[c])).length=m+(U.enc c).length:=by rw[U.encs_append,Ze,HM.out];simp[U.encs]
    have H3:=Za h3
    have az:=Za ay
    clear ag h3 ay
    obtain⟨k,hk⟩:∃k,(U.enc c).length=k:=⟨_,rfl⟩
    rw[hk]at l1 l2 hq az H3
    have bg:((k:Int) == 0)=false:=by simp;omega
    clear hk
    have bc:a.length+1≤1000000000001:=by omega
    go_wp2_with fail
    refine (U.first_any _ _ aw).mono ?_
    rintro e w1 ⟨rfl,aa⟩
    rw[H3.out]
    have ai:=own_below ah aa (Zb _)
    have aj:=af.trans (aa.mono ax)
    have bb:=aj.size
    clear ah aa
    go_wp2_with (at_builtin;refine wpList_push1 _ rfl _ _ _ rfl w.heap.size 3 i0 _ 8 Tryz.underlying23 hi a6 a8 ba rfl _ a.length _ rfl ai _ rfl rfl (by simp only[maxLen];omega) (by omega) bb ?_;intro v1 w2 ak a7)
    exact⟨⟨a++[c],b,by rw[au.out,Zz];rfl,by rw[az.out];go_num,by rw[Ze,ZM];exact ak,aj.trans a7⟩,by simp[intOf];omega⟩
theorem U.or192:∀x:Fin 32,bits BinOp.or IntKind.u8 192 ((x.val:Nat):Int)=192+((x.val:Nat):Int):=by decide +kernel
theorem U.or224:∀x:Fin 16,bits BinOp.or IntKind.u8 224 ((x.val:Nat):Int)=224+((x.val:Nat):Int):=by decide +kernel
theorem U.or240:∀x:Fin 8,bits BinOp.or IntKind.u8 240 ((x.val:Nat):Int)=240+((x.val:Nat):Int):=by decide +kernel
theorem U.or0:∀x:Fin 128,bits BinOp.or IntKind.u8 0 ((x.val:Nat):Int)=((x.val:Nat):Int):=by decide +kernel
theorem U.or192i (x:Int) (h1:0≤x) (h2:x<32):bits BinOp.or IntKind.u8 192 x=192+x:=by
 obtain⟨n,rfl⟩:=YF h1
 exact U.or192 ⟨n,by omega⟩
theorem U.or224i (x:Int) (h1:0≤x) (h2:x<16):bits BinOp.or IntKind.u8 224 x=224+x:=by
 obtain⟨n,rfl⟩:=YF h1
 exact U.or224 ⟨n,by omega⟩
theorem U.or240i (x:Int) (h1:0≤x) (h2:x<8):bits BinOp.or IntKind.u8 240 x=240+x:=by
 obtain⟨n,rfl⟩:=YF h1
 exact U.or240 ⟨n,by omega⟩
theorem U.or0i (x:Int) (h1:0≤x) (h2:x<128):bits BinOp.or IntKind.u8 0 x=x:=by
 obtain⟨n,rfl⟩:=YF h1
 exact U.or0 ⟨n,by omega⟩
theorem U.wrapB (x:Int) (h1:0≤x) (h2:x<256):IntKind.u8.wrap x=x:=by
 exact IntWalk.u8_in x (by omega)
def bytesV (l:List UInt8):List Value:=l.map fun b=>Value.int .u8 (b.toNat:Int)
section
set_option maxRecDepth 100000
set_option maxHeartbeats 1000000
theorem U.put_1 (c:Int) (v:Value) (n base:Nat) (xs:List Value) (w:World) (h1:0≤c) (h2:c<128) (hc:U.isC c=true) (hH:Heads w) (ag:w.ownsRow base 5 1 v n xs) (hn:n≤1000000000000) (aj:base≤w.heap.size) :
 Calls Tryz.prog 53 #[v,.int .i32 c] w fun e w'=>∃v',e=.returned v'∧w'.ownsRow base 5 1 v' (n+1) (xs++[.int .u8 (c)])∧Below base w w':=by
 have hw:U.width c=1:=by unfold U.width;grind
 have HW:=Za hw
 clear hw hc
 have m0:=hH.cell 0
 have m1:=hH.cell 1
 have m2:=hH.cell 2
 simp[U.row]at m0 m1 m2
 obtain⟨i0,hi,ao,aq,av⟩:=Z7 infoByte
 go_enter Tryz.func53,Tryz.ntmps53
 go_wp2_with fail
 refine (U.width_any _ _ (by omega) (by omega) hH).mono ?_
 rintro e w' ⟨rfl,rfl⟩
 rw[HW.out]
 go_wp2
 have ar:=U.wrapB (c) (by omega) (by omega)
 have ap:=U.or0i (c) (by omega) (by omega)
 have aw:IntKind.i64.wrap 0=0:=by decide
 have au:IntKind.i64.wrap 0=0:=by decide
 have hne:v.ownBlock≠some w.heap.size:=fun h=>by have:=(ag.lt _ h).2;omega
 go_region_held3 (fun w'=>w'.cell? ⟨w.heap.size,0,none⟩=some (.int .u8 0)) (first|go_keep|(rw[aa.cell_far _ (by simp;omega) (Z8 hne)];assumption))
  ((refine step_push1 _ rfl _ _ _ rfl base 5 i0 _ 1 Tryz.underlying77 hi ao aq av rfl v n xs rfl (((ag.alloc _).alloc _).drew) _ rfl (w.heap.size+1) rfl (cell1 _ _ _ _ (size_alloc1 _ _)) (by simp only[maxLen];omega) (by omega) (by simp;omega) ?_;intro v1 w1 af ae aa))
 have ak:Below base w w1:=(((Zd _ _).alloc aj _).alloc (by simp;omega) _).drew.trans ae
 have ay:=ak.size
 clear aa ae ar ap aw au
 go_wp2
 go_loopw [7,0] (fun i v wr=>Below base w wr∧((i=.int .i64 (-1)∧wr.ownsRow base 5 1 v (n+1) (xs++[.int .u8 (c)])))) (fun i _ _=>(intOf i+1).toNat)
 case atStart=>exact⟨ak,⟨rfl,af⟩⟩
 case round =>
  obtain⟨ai,hrel⟩:=hrel
  have ax:=ai.size
  rcases hrel with ⟨rfl,ah⟩
  · go_wp2
    go_ret
    exact⟨_,rfl,ah,ai⟩
theorem U.put_2 (c:Int) (v:Value) (n base:Nat) (xs:List Value) (w:World) (h1:128≤c) (h2:c<2048) (hc:U.isC c=true) (hH:Heads w) (aj:w.ownsRow base 5 1 v n xs) (hn:n≤1000000000000) (ak:base≤w.heap.size) :
 Calls Tryz.prog 53 #[v,.int .i32 c] w fun e w'=>∃v',e=.returned v'∧w'.ownsRow base 5 1 v' (n+2) (xs++[.int .u8 (192+c/64),.int .u8 (128+c%64)])∧Below base w w':=by
 have hw:U.width c=2:=by unfold U.width;grind
 have HW:=Za hw
 clear hw hc
 have m0:=hH.cell 3
 have m1:=hH.cell 4
 have m2:=hH.cell 5
 simp[U.row]at m0 m1 m2
 obtain⟨i0,hi,ao,aq,ar⟩:=Z7 infoByte
 go_enter Tryz.func53,Tryz.ntmps53
 go_wp2_with fail
 refine (U.width_any _ _ (by omega) (by omega) hH).mono ?_
 rintro e w' ⟨rfl,rfl⟩
 rw[HW.out]
 go_wp2
 have aw:=U.wrapB (c/64) (by omega) (by omega)
 have au:=U.or192i (c/64) (by omega) (by omega)
 have ay:IntKind.i64.wrap 1=1:=by decide
 have ax:IntKind.i64.wrap 6=6:=by decide
 have hne:v.ownBlock≠some w.heap.size:=fun h=>by have:=(aj.lt _ h).2;omega
 go_region_held3 (fun w'=>w'.cell? ⟨w.heap.size,0,none⟩=some (.int .u8 192)) (first|go_keep|(rw[ae.cell_far _ (by simp;omega) (Z8 hne)];assumption))
  ((refine step_push1 _ rfl _ _ _ rfl base 5 i0 _ 1 Tryz.underlying77 hi ao aq ar rfl v n xs rfl (((aj.alloc _).alloc _).drew) _ rfl (w.heap.size+1) rfl (cell1 _ _ _ _ (size_alloc1 _ _)) (by simp only[maxLen];omega) (by omega) (by simp;omega) ?_;intro v1 w1 ai af ae))
 have ap:Below base w w1:=(((Zd _ _).alloc ak _).alloc (by simp;omega) _).drew.trans af
 have a1:=ap.size
 clear ae af aw au ay ax
 go_wp2
 go_loopw [7,0] (fun i v wr=>Below base w wr∧((i=.int .i64 0∧wr.ownsRow base 5 1 v (n+1) (xs++[.int .u8 (192+c/64)]))∨(i=.int .i64 (-1)∧wr.ownsRow base 5 1 v (n+2) (xs++[.int .u8 (192+c/64),.int .u8 (128+c%64)])))) (fun i _ _=>(intOf i+1).toNat)
 case atStart=>exact⟨ap,.inl ⟨rfl,ai⟩⟩
 case round =>
  obtain⟨ah,hrel⟩:=hrel
  have az:=ah.size
  rcases hrel with ⟨rfl,aa⟩|⟨rfl,aa⟩
  · go_wp2_with (at_builtin;refine wpList_push1 _ rfl _ _ _ rfl base 5 i0 _ 1 Tryz.underlying77 hi ao aq ar rfl _ (n+1) _ rfl aa _ rfl rfl (by simp only[maxLen];omega) (by omega) (by omega) ?_;intro v1 w2 ag av)
    rw[Zz]at ag
    exact⟨⟨ah.trans av,.inr (⟨rfl,ag⟩)⟩,by simp[intOf]⟩
  · go_wp2
    go_ret
    exact⟨_,rfl,aa,ah⟩
theorem U.put_3 (c:Int) (v:Value) (n base:Nat) (xs:List Value) (w:World) (h1:2048≤c) (h2:c<65536) (hc:U.isC c=true) (hH:Heads w) (aj:w.ownsRow base 5 1 v n xs) (hn:n≤1000000000000) (ak:base≤w.heap.size) :
 Calls Tryz.prog 53 #[v,.int .i32 c] w fun e w'=>∃v',e=.returned v'∧w'.ownsRow base 5 1 v' (n+3) (xs++[.int .u8 (224+c/4096),.int .u8 (128+c/64%64),.int .u8 (128+c%64)])∧Below base w w':=by
 have hw:U.width c=3:=by unfold U.width;grind
 have HW:=Za hw
 clear hw hc
 have m0:=hH.cell 6
 have m1:=hH.cell 7
 have m2:=hH.cell 8
 simp[U.row]at m0 m1 m2
 obtain⟨i0,hi,ao,aq,ar⟩:=Z7 infoByte
 go_enter Tryz.func53,Tryz.ntmps53
 go_wp2_with fail
 refine (U.width_any _ _ (by omega) (by omega) hH).mono ?_
 rintro e w' ⟨rfl,rfl⟩
 rw[HW.out]
 go_wp2
 have aw:=U.wrapB (c/4096) (by omega) (by omega)
 have av:=U.or224i (c/4096) (by omega) (by omega)
 have ay:IntKind.i64.wrap 2=2:=by decide
 have ax:IntKind.i64.wrap 12=12:=by decide
 have hne:v.ownBlock≠some w.heap.size:=fun h=>by have:=(aj.lt _ h).2;omega
 go_region_held3 (fun w'=>w'.cell? ⟨w.heap.size,0,none⟩=some (.int .u8 224)) (first|go_keep|(rw[ag.cell_far _ (by simp;omega) (Z8 hne)];assumption))
  ((refine step_push1 _ rfl _ _ _ rfl base 5 i0 _ 1 Tryz.underlying77 hi ao aq ar rfl v n xs rfl (((aj.alloc _).alloc _).drew) _ rfl (w.heap.size+1) rfl (cell1 _ _ _ _ (size_alloc1 _ _)) (by simp only[maxLen];omega) (by omega) (by simp;omega) ?_;intro v1 w1 ai ah ag))
 have au:Below base w w1:=(((Zd _ _).alloc ak _).alloc (by simp;omega) _).drew.trans ah
 have a1:=au.size
 clear ag ah aw av ay ax
 go_wp2
 go_loopw [7,0] (fun i v wr=>Below base w wr∧((i=.int .i64 1∧wr.ownsRow base 5 1 v (n+1) (xs++[.int .u8 (224+c/4096)]))∨(i=.int .i64 0∧wr.ownsRow base 5 1 v (n+2) (xs++[.int .u8 (224+c/4096),.int .u8 (128+c/64%64)]))∨(i=.int .i64 (-1)∧wr.ownsRow base 5 1 v (n+3) (xs++[.int .u8 (224+c/4096),.int .u8 (128+c/64%64),.int .u8 (128+c%64)])))) (fun i _ _=>(intOf i+1).toNat)
 case atStart=>exact⟨au,.inl ⟨rfl,ai⟩⟩
 case round =>
  obtain⟨af,hrel⟩:=hrel
  have az:=af.size
  rcases hrel with ⟨rfl,aa⟩|⟨rfl,aa⟩|⟨rfl,aa⟩
  · go_wp2_with (at_builtin;refine wpList_push1 _ rfl _ _ _ rfl base 5 i0 _ 1 Tryz.underlying77 hi ao aq ar rfl _ (n+1) _ rfl aa _ rfl rfl (by simp only[maxLen];omega) (by omega) (by omega) ?_;intro v1 w2 ae ap)
    rw[Zz]at ae
    exact⟨⟨af.trans ap,.inr (.inl ⟨rfl,ae⟩)⟩,by simp[intOf]⟩
  · go_wp2_with (at_builtin;refine wpList_push1 _ rfl _ _ _ rfl base 5 i0 _ 1 Tryz.underlying77 hi ao aq ar rfl _ (n+2) _ rfl aa _ rfl rfl (by simp only[maxLen];omega) (by omega) (by omega) ?_;intro v1 w2 ae ap)
    rw[Zz]at ae
    exact⟨⟨af.trans ap,.inr (.inr (⟨rfl,ae⟩))⟩,by simp[intOf]⟩
  · go_wp2
    go_ret
    exact⟨_,rfl,aa,af⟩
theorem U.put_4 (c:Int) (v:Value) (n base:Nat) (xs:List Value) (w:World) (h1:65536≤c) (h2:c≤1114111) (hc:U.isC c=true) (hH:Heads w) (ak:w.ownsRow base 5 1 v n xs) (hn:n≤1000000000000) (ao:base≤w.heap.size) :
 Calls Tryz.prog 53 #[v,.int .i32 c] w fun e w'=>∃v',e=.returned v'∧w'.ownsRow base 5 1 v' (n+4) (xs++[.int .u8 (240+c/262144),.int .u8 (128+c/4096%64),.int .u8 (128+c/64%64),.int .u8 (128+c%64)])∧Below base w w':=by
 have hw:U.width c=4:=by unfold U.width;grind
 have HW:=Za hw
 clear hw hc
 have m0:=hH.cell 9
 have m1:=hH.cell 10
 have m2:=hH.cell 11
 simp[U.row]at m0 m1 m2
 obtain⟨i0,hi,ap,aq,ar⟩:=Z7 infoByte
 go_enter Tryz.func53,Tryz.ntmps53
 go_wp2_with fail
 refine (U.width_any _ _ (by omega) (by omega) hH).mono ?_
 rintro e w' ⟨rfl,rfl⟩
 rw[HW.out]
 go_wp2
 have aw:=U.wrapB (c/262144) (by omega) (by omega)
 have av:=U.or240i (c/262144) (by omega) (by omega)
 have ay:IntKind.i64.wrap 3=3:=by decide
 have ax:IntKind.i64.wrap 18=18:=by decide
 have hne:v.ownBlock≠some w.heap.size:=fun h=>by have:=(ak.lt _ h).2;omega
 go_region_held3 (fun w'=>w'.cell? ⟨w.heap.size,0,none⟩=some (.int .u8 240)) (first|go_keep|(rw[ag.cell_far _ (by simp;omega) (Z8 hne)];assumption))
  ((refine step_push1 _ rfl _ _ _ rfl base 5 i0 _ 1 Tryz.underlying77 hi ap aq ar rfl v n xs rfl (((ak.alloc _).alloc _).drew) _ rfl (w.heap.size+1) rfl (cell1 _ _ _ _ (size_alloc1 _ _)) (by simp only[maxLen];omega) (by omega) (by simp;omega) ?_;intro v1 w1 ai ah ag))
 have au:Below base w w1:=(((Zd _ _).alloc ao _).alloc (by simp;omega) _).drew.trans ah
 have a1:=au.size
 clear ag ah aw av ay ax
 go_wp2
 go_loopw [7,0] (fun i v wr=>Below base w wr∧((i=.int .i64 2∧wr.ownsRow base 5 1 v (n+1) (xs++[.int .u8 (240+c/262144)]))∨(i=.int .i64 1∧wr.ownsRow base 5 1 v (n+2) (xs++[.int .u8 (240+c/262144),.int .u8 (128+c/4096%64)]))∨(i=.int .i64 0∧wr.ownsRow base 5 1 v (n+3) (xs++[.int .u8 (240+c/262144),.int .u8 (128+c/4096%64),.int .u8 (128+c/64%64)]))∨(i=.int .i64 (-1)∧wr.ownsRow base 5 1 v (n+4) (xs++[.int .u8 (240+c/262144),.int .u8 (128+c/4096%64),.int .u8 (128+c/64%64),.int .u8 (128+c%64)])))) (fun i _ _=>(intOf i+1).toNat)
 case atStart=>exact⟨au,.inl ⟨rfl,ai⟩⟩
 case round =>
  obtain⟨af,hrel⟩:=hrel
  have az:=af.size
  rcases hrel with ⟨rfl,ae⟩|⟨rfl,ae⟩|⟨rfl,ae⟩|⟨rfl,ae⟩
  · go_wp2_with (at_builtin;refine wpList_push1 _ rfl _ _ _ rfl base 5 i0 _ 1 Tryz.underlying77 hi ap aq ar rfl _ (n+1) _ rfl ae _ rfl rfl (by simp only[maxLen];omega) (by omega) (by omega) ?_;intro v1 w2 aa aj)
    rw[Zz]at aa
    exact⟨⟨af.trans aj,.inr (.inl ⟨rfl,aa⟩)⟩,by simp[intOf]⟩
  · go_wp2_with (at_builtin;refine wpList_push1 _ rfl _ _ _ rfl base 5 i0 _ 1 Tryz.underlying77 hi ap aq ar rfl _ (n+2) _ rfl ae _ rfl rfl (by simp only[maxLen];omega) (by omega) (by omega) ?_;intro v1 w2 aa aj)
    rw[Zz]at aa
    exact⟨⟨af.trans aj,.inr (.inr (.inl ⟨rfl,aa⟩))⟩,by simp[intOf]⟩
  · go_wp2_with (at_builtin;refine wpList_push1 _ rfl _ _ _ rfl base 5 i0 _ 1 Tryz.underlying77 hi ap aq ar rfl _ (n+3) _ rfl ae _ rfl rfl (by simp only[maxLen];omega) (by omega) (by omega) ?_;intro v1 w2 aa aj)
    rw[Zz]at aa
    exact⟨⟨af.trans aj,.inr (.inr (.inr (⟨rfl,aa⟩)))⟩,by simp[intOf]⟩
  · go_wp2
    go_ret
    exact⟨_,rfl,ae,af⟩
end
theorem U.u8v (x:Int) (h0:0≤x) (h1:x<256):Value.int .u8 (((U.u8 x).toNat:Nat):Int)=.int .u8 x:=by rw[U.u8_toNat x h0 h1]
theorem U.put_any (c:Int) (v:Value) (n base:Nat) (xs:List Value) (w:World) (hc:U.isC c=true) (hH:Heads w) (ae:w.ownsRow base 5 1 v n xs) (hn:n≤1000000000000) (aa:base≤w.heap.size) :
 Calls Tryz.prog 53 #[v,.int .i32 c] w fun e w'=>∃v',e=.returned v'∧w'.ownsRow base 5 1 v' (n+(U.enc c).length) (xs++bytesV (U.enc c))∧Below base w w':=by
 obtain⟨h1,h2,h3⟩:=(U.isC_iff c).1 hc
 unfold U.enc bytesV
 by_cases c1:c<128
 · rw[Zp c1]
   simp only[ZT,Ys,ZI,Z6]
   rw[U.u8v c (by omega) (by omega)]
   exact U.put_1 c v n base xs w h1 c1 hc hH ae hn aa
 · by_cases c2:c<2048
   · rw[Zl c1,Zp c2]
     simp only[ZT,Ys,ZI,Z6]
     rw[U.u8v (192+c/64) (by omega) (by omega),U.u8v (128+c%64) (by omega) (by omega)]
     exact U.put_2 c v n base xs w (by omega) c2 hc hH ae hn aa
   · by_cases c3:c<65536
     · rw[Zl c1,Zl c2,Zp c3]
       simp only[ZT,Ys,ZI,Z6]
       rw[U.u8v (224+c/4096) (by omega) (by omega),U.u8v (128+c/64%64) (by omega) (by omega),U.u8v (128+c%64) (by omega) (by omega)]
       exact U.put_3 c v n base xs w (by omega) c3 hc hH ae hn aa
     · rw[Zl c1,Zl c2,Zl c3]
       simp only[ZT,Ys,ZI,Z6]
       rw[U.u8v (240+c/262144) (by omega) (by omega),U.u8v (128+c/4096%64) (by omega) (by omega),U.u8v (128+c/64%64) (by omega) (by omega),U.u8v (128+c%64) (by omega) (by omega)]
       exact U.put_4 c v n base xs w (by omega) h2 hc hH ae hn aa
end Go.Proofs.YtikiplbhlohmdaaGreatDoor
