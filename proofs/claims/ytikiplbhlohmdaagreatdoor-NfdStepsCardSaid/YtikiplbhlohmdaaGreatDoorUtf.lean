/- The lookups of a loaded table: Map, Full, Join, Inner. -/
import Derived.Test.YtikiplbhlohmdaaGreatDoorOrWalk
set_option linter.unusedVariables false
set_option linter.unusedSimpArgs false
namespace Go.Proofs.YtikiplbhlohmdaaGreatDoor
open Go.RowKit
theorem Ud.fullT_le {T:List Rw.Row} {S:List Int} (ok:Ud.Ok T S) (c:Int):(Ud.full T c).length≤32:=by
 obtain⟨l,hl⟩:=Md.full_some ok.chk c
 unfold Ud.full
 rw[hl]
 exact (Md.full_none hl).2.2.1
set_option maxRecDepth 100000 in
set_option maxHeartbeats 1000000 in
theorem Ud.full_any (v:Value) (T:List Rw.Row) (S:List Int) (c:Int) (w:World) (ok:Ud.Ok T S) (h:Ud.Is w v T S) (h3 : -2147483648≤c) (h4:c≤2147483647) :
 Calls Tryz.prog 21 #[v,.int .i32 c] w (RetInts .i32 (Ud.full T c) w):=by
 have hS:=Hg.split_any c w h3 h4
 obtain⟨s,hs⟩:∃s,Hg.splitK c=s:=⟨_,rfl⟩
 rw[hs]at hS
 by_cases hne:s=[]
 · subst hne
   have hF:∀W,Below w.heap.size w W→Calls Tryz.prog 41 #[v,.int .i32 c] W (Ud.RetFind T S c W):=fun W hW=>Ud.find_any v T S c W ok (h.below hW)
   have hk:=Ud.split_kind hs
   have hle:=Ud.fullT_le ok c
   have hA:Ud.isr T c=true→Ud.fl T c=Ud.full T c:=fun hz=>by unfold Ud.fl;rw[if_pos hz]
   have hB:Ud.isr T c=false→Ud.full T c=[c]:=fun hz=>by
    refine Ud.full_one ?_ hk
    unfold Ud.isr at hz
    rw[ZY]at hz
    exact Zy (by omega)
   obtain⟨rn,aq⟩:∃z,(Md.rmp T c).length=z:=⟨_,rfl⟩
   obtain⟨z,hz⟩:∃z,Ud.isr T c=z:=⟨_,rfl⟩
   obtain⟨fl,ak⟩:∃z,Ud.fl T c=z:=⟨_,rfl⟩
   obtain⟨pb,hpb⟩:∃z,Ud.isp T S c=z:=⟨_,rfl⟩
   obtain⟨l,hl⟩:∃z,Ud.full T c=z:=⟨_,rfl⟩
   unfold Ud.RetFind at hF
   rw[hz,ak,aq,hpb]at hF
   rw[hl]at hle ⊢
   rw[hz,ak,hl]at hA
   rw[hz,hl]at hB
   have HF:=Za hF
   have HA:=Za hA
   have HB:=Za hB
   clear hF hz ak hl hpb h ok h3 h4 hA hB hs hk aq
   go_enter Tryz.func21,Tryz.ntmps21
   go_wp2_with fail
   refine hS.mono ?_
   rintro e w0 ⟨A,cc,rfl,_,aa⟩
   have aw:=HF.out w0 aa
   have ah:=Za aa
   clear hS aa HF
   go_wp2_with fail
   refine aw.mono ?_
   rintro e w1 ⟨m,mc,f,fc,rfl,_,af,au⟩
   have ai:Below w1.heap.size w1 (w1.alloc (.cells #[.slice m rn mc,.slice f fl.length fc,.bool pb] 79)):=(Zd _ _).alloc (Zb _) _
   have hn:=Rw.At.new w1 79 [.slice m rn mc,.slice f fl.length fc,.bool pb]
   have y1:=hn.cell 1 rfl
   have av:=Za (ah.out.trans (au.mono ah.out.size))
   have ag:=Za (av.out.trans (ai.mono av.out.size))
   have aj:=Za (af.below ai ai.size)
   clear au hn af ai aw
   cases z
   · have ap:=HB.out rfl
     clear HB
     subst ap
     clear y1 HA
     go_wp2_with fail
     go_ret
     have hh:=ZP (w1.alloc (.cells #[.slice m rn mc,.slice f fl.length fc,.bool pb] 79)) (.cells #[.int .i32 c] 21)
     rw[show (w1.alloc (.cells #[.slice m rn mc,.slice f fl.length fc,.bool pb] 79)).heap.size=w1.heap.size+1 by simp]at hh
     exact⟨_,_,rfl,Sl.lit rfl _ _ hh,ag.out.alloc ag.out.size _⟩
   · have ap:=HA.out rfl
     subst ap
     have hC:=R.clone_any f fl.length fc _ fl _ rfl (by omega) (Zb _) aj.out
     clear HA HB
     go_wp2_with fail
     refine hC.mono ?_
     rintro e w2 ⟨A',c',rfl,ae,ar⟩
     have HO:=Za (Sl.of_own ae)
     have ax:=Za (ag.out.trans (ar.mono ag.out.size))
     clear ae ar hC y1
     go_wp2_with fail
     go_ret
     exact⟨A',c',rfl,HO.out,ax.out⟩
 · have ao:=Ud.full_split ok (c:=c) (by rw[hs];exact hne)
   rw[hs]at ao
   rw[ao]
   have hpos:(0:Int)<s.length:=by
    have:=List.length_pos_iff.2 hne
    omega
   clear hs hne ao h ok h3 h4
   go_enter Tryz.func21,Tryz.ntmps21
   go_wp2_with fail
   refine hS.mono ?_
   rintro e w0 ⟨A,cc,rfl,af,aa⟩
   have aj:=Za af
   have ah:=Za aa
   clear hS aa af
   go_wp2_with fail
   go_ret
   exact⟨A,cc,rfl,aj.out,ah.out⟩
end Go.Proofs.YtikiplbhlohmdaaGreatDoor
namespace Go.Proofs.YtikiplbhlohmdaaGreatDoor
def U.isC (c:Int):Bool:=decide (0≤c∧c≤1114111∧(c<55296∨57343<c))
def U.width (c:Int):Nat:=if U.isC c then (if c<128 then 1 else if c<2048 then 2 else if c<65536 then 3 else 4) else 0
def U.u8 (c:Int):UInt8:=UInt8.ofNat c.toNat
def U.enc (c:Int):List UInt8 :=
 if c<128 then [U.u8 c] else if c<2048 then [U.u8 (192+c/64),U.u8 (128+c%64)]
 else if c<65536 then [U.u8 (224+c/4096),U.u8 (128+c/64%64),U.u8 (128+c%64)]
 else [U.u8 (240+c/262144),U.u8 (128+c/4096%64),U.u8 (128+c/64%64),U.u8 (128+c%64)]
def U.bv (l:List UInt8) (i:Nat):Int:=((l.getD i 0).toNat:Int)
def U.sizeK (b:Int):Nat:=if b<128 then 1 else if b<192 then 0 else if b<224 then 2 else if b<240 then 3 else if b<248 then 4 else 0
def U.headK:Nat→Int|1=>0|2=>192|3=>224|_=>240
def U.accK (l:List UInt8) (n:Nat):Nat→Int|0=>U.bv l 0-U.headK n|i+1=>U.accK l n i*64+(U.bv l (i+1)-128)
def U.tails (l:List UInt8) (n:Nat):Prop:=∀j,j<n→1≤j→128≤U.bv l j∧U.bv l j<192
instance (l:List UInt8) (n:Nat):Decidable (U.tails l n):=by unfold U.tails;exact inferInstance
def U.nextK (l:List UInt8):Option (Int × Nat) :=
 if l=[] then none else
 if U.sizeK (U.bv l 0)=0∨l.length<U.sizeK (U.bv l 0) then none else
 if U.tails l (U.sizeK (U.bv l 0))∧U.width (U.accK l (U.sizeK (U.bv l 0)) (U.sizeK (U.bv l 0)-1))=U.sizeK (U.bv l 0)
 then some (U.accK l (U.sizeK (U.bv l 0)) (U.sizeK (U.bv l 0)-1),U.sizeK (U.bv l 0)) else none
theorem U.bv_lt (l:List UInt8) (i:Nat):0≤U.bv l i∧U.bv l i<256:=by
 unfold U.bv
 have:=(l.getD i 0).toNat_lt
 omega
theorem U.u8_toNat (c:Int) (h0:0≤c) (h1:c<256):((U.u8 c).toNat:Int)=c:=by
 unfold U.u8
 rw[XV]
 omega
theorem U.u8_of (b:UInt8) (c:Int) (h:c=(b.toNat:Int)):U.u8 c=b:=by
 subst h
 unfold U.u8
 simp
theorem U.bv0 (b:UInt8) (t:List UInt8):U.bv (b::t) 0=(b.toNat:Int):=rfl
theorem U.isC_iff (c:Int):U.isC c=true↔(0≤c∧c≤1114111∧(c<55296∨57343<c)):=by unfold U.isC;simp
theorem U.width_pos (c:Int):0<U.width c↔U.isC c=true:=by unfold U.width;grind
theorem U.enc_len (c:Int) (h:U.isC c=true):(U.enc c).length=U.width c:=by
 unfold U.enc U.width;rw[if_pos h];grind
theorem U.width_le (c:Int):U.width c≤4:=by unfold U.width;grind
theorem U.nextK_of (c:Int) (hc:U.isC c=true) (l:List UInt8):U.nextK (U.enc c++l)=some (c,(U.enc c).length):=by
 have h:=(U.isC_iff c).1 hc
 have hw:=U.enc_len c hc
 by_cases h1:c<128
 · have e:U.enc c=[U.u8 c]:=by unfold U.enc;rw[if_pos h1]
   have hb:U.bv ([U.u8 c]++l) 0=c:=U.u8_toNat c (by omega) (by omega)
   have hs:U.sizeK c=1:=by unfold U.sizeK;rw[if_pos h1]
   rw[e]at hw ⊢
   unfold U.nextK
   rw[hb,hs,Zl (by simp),Zl (by simp)]
   have ha:U.accK ([U.u8 c]++l) 1 (1-1)=c:=by show U.bv _ 0-0=c;rw[hb];omega
   rw[ha,if_pos ⟨fun j h1 h2=>by omega,by simpa using hw.symm⟩]
   simp
 · by_cases h2:c<2048
   · have e:U.enc c=[U.u8 (192+c/64),U.u8 (128+c%64)]:=by unfold U.enc;rw[if_neg h1,if_pos h2]
     have hb:U.bv ([U.u8 (192+c/64),U.u8 (128+c%64)]++l) 0=192+c/64:=U.u8_toNat _ (by omega) (by omega)
     have aa:U.bv ([U.u8 (192+c/64),U.u8 (128+c%64)]++l) 1=128+c%64:=U.u8_toNat _ (by omega) (by omega)
     have hs:U.sizeK (192+c/64)=2:=by unfold U.sizeK;rw[if_neg (by omega),if_neg (by omega),if_pos (by omega)]
     rw[e]at hw ⊢
     unfold U.nextK
     rw[hb,hs,Zl (by simp),Zl (by simp)]
     have ha:U.accK ([U.u8 (192+c/64),U.u8 (128+c%64)]++l) 2 (2-1)=c:=by show (U.bv _ 0-192)*64+(U.bv _ 1-128)=c;rw[hb,aa];omega
     rw[ha,Zp ⟨fun j h1 h2=>by
      obtain rfl:j=1:=by omega
      rw[aa];omega,by simpa using hw.symm⟩]
     simp
   · by_cases h3:c<65536
     · have e:U.enc c=[U.u8 (224+c/4096),U.u8 (128+c/64%64),U.u8 (128+c%64)]:=by unfold U.enc;rw[if_neg h1,if_neg h2,if_pos h3]
       generalize hL:[U.u8 (224+c/4096),U.u8 (128+c/64%64),U.u8 (128+c%64)]=L at e
       have hb:U.bv (L++l) 0=224+c/4096:=by rw[←hL];exact U.u8_toNat _ (by omega) (by omega)
       have aa:U.bv (L++l) 1=128+c/64%64:=by rw[←hL];exact U.u8_toNat _ (by omega) (by omega)
       have ae:U.bv (L++l) 2=128+c%64:=by rw[←hL];exact U.u8_toNat _ (by omega) (by omega)
       have hs:U.sizeK (224+c/4096)=3:=by unfold U.sizeK;rw[if_neg (by omega),if_neg (by omega),if_neg (by omega),if_pos (by omega)]
       have hl:L.length=3:=by rw[←hL];rfl
       rw[e]at hw ⊢
       unfold U.nextK
       rw[hb,hs,Zl (fun h=>by have:=Z4 List.length h;simp[hl]at this),Zl (by simp[hl])]
       have ha:U.accK (L++l) 3 (3-1)=c:=by show ((U.bv _ 0-224)*64+(U.bv _ 1-128))*64+(U.bv _ 2-128)=c;rw[hb,aa,ae];omega
       rw[ha,Zp ⟨fun j h1 h2=>by
        have hj:j=1∨j=2:=by omega
        rcases hj with rfl|rfl
        · rw[aa];omega
        · rw[ae];omega,by rw[←hw,hl]⟩,hl]
     · have e:U.enc c=[U.u8 (240+c/262144),U.u8 (128+c/4096%64),U.u8 (128+c/64%64),U.u8 (128+c%64)]:=by unfold U.enc;rw[if_neg h1,if_neg h2,if_neg h3]
       generalize hL:[U.u8 (240+c/262144),U.u8 (128+c/4096%64),U.u8 (128+c/64%64),U.u8 (128+c%64)]=L at e
       have hb:U.bv (L++l) 0=240+c/262144:=by rw[←hL];exact U.u8_toNat _ (by omega) (by omega)
       have aa:U.bv (L++l) 1=128+c/4096%64:=by rw[←hL];exact U.u8_toNat _ (by omega) (by omega)
       have ae:U.bv (L++l) 2=128+c/64%64:=by rw[←hL];exact U.u8_toNat _ (by omega) (by omega)
       have af:U.bv (L++l) 3=128+c%64:=by rw[←hL];exact U.u8_toNat _ (by omega) (by omega)
       have hs:U.sizeK (240+c/262144)=4:=by unfold U.sizeK;rw[if_neg (by omega),if_neg (by omega),if_neg (by omega),if_neg (by omega),if_pos (by omega)]
       have hl:L.length=4:=by rw[←hL];rfl
       rw[e]at hw ⊢
       unfold U.nextK
       rw[hb,hs,Zl (fun h=>by have:=Z4 List.length h;simp[hl]at this),Zl (by simp[hl])]
       have ha:U.accK (L++l) 4 (4-1)=c:=by
        show (((U.bv _ 0-240)*64+(U.bv _ 1-128))*64+(U.bv _ 2-128))*64+(U.bv _ 3-128)=c
        rw[hb,aa,ae,af];omega
       rw[ha,Zp ⟨fun j h1 h2=>by
        have hj:j=1∨j=2∨j=3:=by omega
        rcases hj with rfl|rfl|rfl
        · rw[aa];omega
        · rw[ae];omega
        · rw[af];omega,by rw[←hw,hl]⟩,hl]
theorem U.nextK_some (l:List UInt8) (c:Int) (n:Nat) (h:U.nextK l=some (c,n)):U.isC c=true∧n=U.width c∧∃t,l=U.enc c++t:=by
 unfold U.nextK at h
 split at h
 · cases h
 · split at h
   · cases h
   · split at h
     · rename_i hl hn hh
       obtain⟨ht,hw⟩:=hh
       simp only[Zi,Yy]at h
       obtain⟨h1,h2⟩:=h
       rw[h2]at hw hn ht
       rw[h2,]at h1
       rw[h1]at hw
       have hc:U.isC c=true:=(U.width_pos c).1 (by omega)
       have hb:=U.bv_lt l 0
       refine⟨hc,hw.symm,?_⟩
       have ag:=hw
       unfold U.width at ag
       rw[Zp hc]at ag
       have ak:=(U.isC_iff c).1 hc
       have ah:=h2
       unfold U.sizeK at ah
       rcases l with _|⟨b0,t0⟩
       · exact absurd rfl hl
       rw[U.bv0]at *
       have aj:n=1∨n=2∨n=3∨n=4:=by have:=U.width_le c;omega
       rcases aj with rfl|rfl|rfl|rfl
       · refine⟨t0,?_⟩
         have ae:(b0.toNat:Int)-0=c:=h1
         unfold U.enc
         rw[Zp (by grind)]
         rw[U.u8_of b0 c (by omega)]
         rfl
       · rcases t0 with _|⟨b1,t1⟩
         · simp at hn
         have aa:=ht 1 (by omega) (by omega)
         have ae:((b0.toNat:Int)-192)*64+((b1.toNat:Int)-128)=c:=h1
         change 128≤(b1.toNat:Int)∧(b1.toNat:Int)<192 at aa
         refine⟨t1,?_⟩
         unfold U.enc
         rw[Zl (by grind),Zp (by grind)]
         rw[U.u8_of b0 (192+c/64) (by omega),U.u8_of b1 (128+c%64) (by omega)]
         rfl
       · rcases t0 with _|⟨b1,t1⟩
         · simp at hn
         rcases t1 with _|⟨b2,t2⟩
         · simp at hn
         have aa:=ht 1 (by omega) (by omega)
         have af:=ht 2 (by omega) (by omega)
         have ae:(((b0.toNat:Int)-224)*64+((b1.toNat:Int)-128))*64+((b2.toNat:Int)-128)=c:=h1
         change 128≤(b1.toNat:Int)∧(b1.toNat:Int)<192 at aa
         change 128≤(b2.toNat:Int)∧(b2.toNat:Int)<192 at af
         refine⟨t2,?_⟩
         unfold U.enc
         rw[Zl (by grind),Zl (by grind),Zp (by grind)]
         rw[U.u8_of b0 (224+c/4096) (by omega),U.u8_of b1 (128+c/64%64) (by omega),U.u8_of b2 (128+c%64) (by omega)]
         rfl
       · rcases t0 with _|⟨b1,t1⟩
         · simp at hn
         rcases t1 with _|⟨b2,t2⟩
         · simp at hn
         rcases t2 with _|⟨b3,t3⟩
         · simp at hn
         have aa:=ht 1 (by omega) (by omega)
         have af:=ht 2 (by omega) (by omega)
         have ai:=ht 3 (by omega) (by omega)
         have ae:((((b0.toNat:Int)-240)*64+((b1.toNat:Int)-128))*64+((b2.toNat:Int)-128))*64+((b3.toNat:Int)-128)=c:=h1
         change 128≤(b1.toNat:Int)∧(b1.toNat:Int)<192 at aa
         change 128≤(b2.toNat:Int)∧(b2.toNat:Int)<192 at af
         change 128≤(b3.toNat:Int)∧(b3.toNat:Int)<192 at ai
         refine⟨t3,?_⟩
         unfold U.enc
         rw[Zl (by grind),Zl (by grind),Zl (by grind)]
         rw[U.u8_of b0 (240+c/262144) (by omega),U.u8_of b1 (128+c/4096%64) (by omega),U.u8_of b2 (128+c/64%64) (by omega),U.u8_of b3 (128+c%64) (by omega)]
         rfl
     · cases h
end Go.Proofs.YtikiplbhlohmdaaGreatDoor
namespace Go.Proofs.YtikiplbhlohmdaaGreatDoor
open Go.RowKit
def U.row:Array Value := #[.int .u8 0,.int .u8 127,.int .i32 0,.int .u8 192,.int .u8 31,.int .i32 128,.int .u8 224,.int .u8 15,.int .i32 2048,.int .u8 240,.int .u8 7,.int .i32 65536]
def Heads (w:World):Prop:=∃t fr,w.heap[0]?=some (.cells U.row t fr)
theorem Heads.lt {w:World} (h:Heads w):0<w.heap.size:=by
 obtain⟨t,fr,h⟩:=h
 rcases ZX 0 w.heap.size with aa|hge
 · exact aa
 · rw[YJ hge]at h;cases h
theorem Heads.below {w w':World} {B:Nat} (h:Heads w) (hb:Below B w w') (hB:0<B):Heads w':=by
 obtain⟨t,fr,h⟩:=h
 exact⟨t,fr,(hb.block _ hB).trans h⟩
theorem Heads.next {w w':World} (h:Heads w) (hb:Below w.heap.size w w'):Heads w':=h.below hb h.lt
theorem Heads.cell {w:World} (h:Heads w) (i:Nat):w.cell? ⟨0,i,none⟩=U.row[i]?:=by
 obtain⟨t,fr,h⟩:=h
 simp[World.cell?,h]
set_option maxRecDepth 100000 in
set_option maxHeartbeats 400000 in
theorem U.is_any (c:Int) (w:World) (h1 : -2147483648≤c) (h2:c≤2147483647) :
 Calls Tryz.prog 52 #[.int .i32 c] w fun e w'=>e=.returned (.bool (U.isC c))∧w=w':=by
 have hd:∀x:Bool,(x=true↔(0≤c∧c≤1114111∧(c<55296∨57343<c)))→U.isC c=x:=by
  intro x hx
  rw[Yb,U.isC_iff,hx]
 have HD:=Za hd
 clear hd
 go_enter Tryz.func52,Tryz.ntmps52
 go_wp2
 all_goals
  go_ret
  refine⟨ret_bool (HD.out _ ?_).symm,rfl⟩
  simp
  try omega
theorem U.and0:∀n:Fin 256,bits BinOp.andNot IntKind.u8 ((n.val:Nat):Int) 127=(if ((n.val:Nat):Int)<128 then 0 else 128):=by decide +kernel
theorem U.and1:∀n:Fin 256,(bits BinOp.andNot IntKind.u8 ((n.val:Nat):Int) 31=192)↔(192≤((n.val:Nat):Int)∧((n.val:Nat):Int)<224):=by decide +kernel
theorem U.and2:∀n:Fin 256,(bits BinOp.andNot IntKind.u8 ((n.val:Nat):Int) 15=224)↔(224≤((n.val:Nat):Int)∧((n.val:Nat):Int)<240):=by decide +kernel
theorem U.and3:∀n:Fin 256,(bits BinOp.andNot IntKind.u8 ((n.val:Nat):Int) 7=240)↔(240≤((n.val:Nat):Int)∧((n.val:Nat):Int)<248):=by decide +kernel
theorem U.ands (b:Int) (h1:0≤b) (h2:b<256):(bits BinOp.andNot IntKind.u8 b 127 == 0)=decide (b<128)∧(bits BinOp.andNot IntKind.u8 b 31 == 192)=decide (192≤b∧b<224) ∧
 (bits BinOp.andNot IntKind.u8 b 15 == 224)=decide (224≤b∧b<240)∧(bits BinOp.andNot IntKind.u8 b 7 == 240)=decide (240≤b∧b<248):=by
 obtain⟨n,rfl⟩:=YF h1
 have hn:n<256:=by omega
 refine⟨?_,?_,?_,?_⟩
 · have:=U.and0 ⟨n,hn⟩
   simp only[]at this
   rw[this]
   by_cases h:(n:Int)<128 <;> simp[h]
 · rw[Yb,YP,Zm];exact U.and1 ⟨n,hn⟩
 · rw[Yb,YP,Zm];exact U.and2 ⟨n,hn⟩
 · rw[Yb,YP,Zm];exact U.and3 ⟨n,hn⟩
section
set_option maxRecDepth 100000
set_option maxHeartbeats 400000
theorem U.size_any (b:Int) (w:World) (h1:0≤b) (h2:b<256) (hH:Heads w) :
 Calls Tryz.prog 106 #[.int .u8 b] w fun e w'=>e=.returned (.int .i64 (U.sizeK b))∧Below w.heap.size w w':=by
 obtain⟨e0,e1,e2,e3⟩:=U.ands b h1 h2
 obtain⟨t,fr,hg⟩:=hH
 have i0:∀w,(Instr.index 146 (.agg U.row) (.int .i64 0)).run Tryz.prog w=.ok (.agg #[.int .u8 0,.int .u8 127,.int .i32 0]) w:=fun _=>by kernel_rfl
 have i1:∀w,(Instr.index 146 (.agg U.row) (.int .i64 1)).run Tryz.prog w=.ok (.agg #[.int .u8 192,.int .u8 31,.int .i32 128]) w:=fun _=>by kernel_rfl
 have i2:∀w,(Instr.index 146 (.agg U.row) (.int .i64 2)).run Tryz.prog w=.ok (.agg #[.int .u8 224,.int .u8 15,.int .i32 2048]) w:=fun _=>by kernel_rfl
 have i3:∀w,(Instr.index 146 (.agg U.row) (.int .i64 3)).run Tryz.prog w=.ok (.agg #[.int .u8 240,.int .u8 7,.int .i32 65536]) w:=fun _=>by kernel_rfl
 go_enter Tryz.func106,Tryz.ntmps106
 go_wp2_with (refine wpList_load_row rfl _ _ rfl 0 rfl t _ fr _ hg Tryz.underlying146 rfl (by kernel_rfl) ?_)
 clear hg
 go_loopw [6] (fun i wr=>Below w.heap.size w wr∧(i=.int .i64 0∨(i=.int .i64 1∧128≤b)∨(i=.int .i64 2∧128≤b∧¬(192≤b∧b<224))∨(i=.int .i64 3∧128≤b∧¬(192≤b∧b<240))∨(i=.int .i64 4∧128≤b∧¬(192≤b∧b<248)))) (fun i _=>4-(intOf i).toNat)
 case atStart=>exact⟨Zd _ _,.inl rfl⟩
 case round =>
  obtain⟨hb,hr⟩:=hrel
  have ae:=hb.size
  rcases hr with rfl|⟨rfl,hr⟩|⟨rfl,hr,aa⟩|⟨rfl,hr,aa⟩|⟨rfl,hr,aa⟩
  · by_cases hlt:b<128
    · go_wp2
      go_ret
      exact⟨ret_int (by unfold U.sizeK;rw[if_pos hlt];rfl),hb.alloc ae _⟩
    · go_wp2
      exact⟨⟨hb.alloc ae _,.inr (.inl ⟨rfl,by omega⟩)⟩,by simp[intOf]⟩
  · by_cases hlt:192≤b∧b<224
    · have hd:decide (192≤b∧b<224)=true:=Zn hlt
      obtain⟨_,_⟩:=hlt
      go_wp2
      go_ret
      exact⟨ret_int (by unfold U.sizeK;rw[if_neg (by omega),if_neg (by omega),if_pos (by omega)];rfl),hb.alloc ae _⟩
    · have hd:decide (192≤b∧b<224)=false:=Zo hlt
      rw[hd]at e1
      have HL:=Za hlt
      clear hd hlt
      go_wp2
      exact⟨⟨hb.alloc ae _,.inr (.inr (.inl ⟨rfl,hr,HL.out⟩))⟩,by simp[intOf]⟩
  · by_cases hlt:224≤b∧b<240
    · have hd:decide (224≤b∧b<240)=true:=Zn hlt
      obtain⟨_,_⟩:=hlt
      clear aa
      go_wp2
      go_ret
      exact⟨ret_int (by unfold U.sizeK;rw[if_neg (by omega),if_neg (by omega),if_neg (by omega),if_pos (by omega)];rfl),hb.alloc ae _⟩
    · have hd:decide (224≤b∧b<240)=false:=Zo hlt
      rw[hd]at e2
      have HL:=Za hlt
      have HR:=Za aa
      clear hd hlt aa
      go_wp2
      exact⟨⟨hb.alloc ae _,.inr (.inr (.inr (.inl ⟨rfl,hr,by have h1:=HL.out;have h2:=HR.out;omega⟩)))⟩,by simp[intOf]⟩
  · by_cases hlt:240≤b∧b<248
    · have hd:decide (240≤b∧b<248)=true:=Zn hlt
      obtain⟨_,_⟩:=hlt
      clear aa
      go_wp2
      go_ret
      exact⟨ret_int (by unfold U.sizeK;rw[if_neg (by omega),if_neg (by omega),if_neg (by omega),if_neg (by omega),if_pos (by omega)];rfl),hb.alloc ae _⟩
    · have hd:decide (240≤b∧b<248)=false:=Zo hlt
      rw[hd]at e3
      have HL:=Za hlt
      have HR:=Za aa
      clear hd hlt aa
      go_wp2
      exact⟨⟨hb.alloc ae _,.inr (.inr (.inr (.inr ⟨rfl,hr,by have h1:=HL.out;have h2:=HR.out;omega⟩)))⟩,by simp[intOf]⟩
  · have HR:=Za aa
    clear aa
    go_wp2
    go_ret
    refine⟨ret_int ?_,hb⟩
    have h1:=HR.out
    unfold U.sizeK
    by_cases hb:b<192
    · rw[Zl (by omega),Zp hb];rfl
    · rw[Zl (by omega),Zl (by omega),Zl (by omega),Zl (by omega),Zl (by omega)];rfl
theorem U.width_any (c:Int) (w:World) (h1 : -2147483648≤c) (h2:c≤2147483647) (hH:Heads w) :
 Calls Tryz.prog 81 #[.int .i32 c] w fun e w'=>e=.returned (.int .i64 (U.width c))∧w=w':=by
 have c1:=hH.cell 5
 have c2:=hH.cell 8
 have c3:=hH.cell 11
 change _=some (Value.int .i32 128) at c1
 change _=some (Value.int .i32 2048) at c2
 change _=some (Value.int .i32 65536) at c3
 clear hH
 by_cases hc:U.isC c=true
 · have HC:=Za hc
   have hw:∀n:Nat,n=(if c<128 then 1 else if c<2048 then 2 else if c<65536 then 3 else 4)→U.width c=n:=by
    intro n hn
    unfold U.width
    rw[Zp HC.out,hn]
   have HW:=Za hw
   clear hw
   go_enter Tryz.func81,Tryz.ntmps81
   go_wp2_with (go_at_call 52;refine (U.is_any _ _ h1 h2).mono ?_;rintro e w' ⟨rfl,rfl⟩)
   go_loop [3] (fun n=>n=.int .i64 1∨(n=.int .i64 2∧128≤c)∨(n=.int .i64 3∧2048≤c)∨(n=.int .i64 4∧65536≤c)) (fun n=>5-(intOf n).toNat)
   case atStart=>exact .inl rfl
   case round =>
    rcases hrel with rfl|⟨rfl,hr⟩|⟨rfl,hr⟩|⟨rfl,hr⟩
    · by_cases hlt:128≤c
      · go_wp2
        exact⟨.inr (.inl ⟨rfl,hlt⟩),by simp[intOf]⟩
      · go_wp2
        go_ret
        exact⟨ret_int (by rw[HW.out 1 (by rw[Zp (by omega)])];rfl),rfl⟩
    · by_cases hlt:2048≤c
      · go_wp2
        exact⟨.inr (.inr (.inl ⟨rfl,hlt⟩)),by simp[intOf]⟩
      · go_wp2
        go_ret
        exact⟨ret_int (by rw[HW.out 2 (by rw[Zl (by omega),Zp (by omega)])];rfl),rfl⟩
    · by_cases hlt:65536≤c
      · go_wp2
        exact⟨.inr (.inr (.inr ⟨rfl,hlt⟩)),by simp[intOf]⟩
      · go_wp2
        go_ret
        exact⟨ret_int (by rw[HW.out 3 (by rw[Zl (by omega),Zl (by omega),Zp (by omega)])];rfl),rfl⟩
    · go_wp2
      go_ret
      exact⟨ret_int (by rw[HW.out 4 (by rw[Zl (by omega),Zl (by omega),Zl (by omega)])];rfl),rfl⟩
 · have aa:U.isC c=false:=by simpa using hc
   have HC:=Za hc
   clear hc
   go_enter Tryz.func81,Tryz.ntmps81
   go_wp2_with (go_at_call 52;refine (U.is_any _ _ h1 h2).mono ?_;rintro e w' ⟨rfl,rfl⟩)
   go_ret
   exact⟨ret_int (by unfold U.width;rw[if_neg HC.out];rfl),rfl⟩
end
end Go.Proofs.YtikiplbhlohmdaaGreatDoor
