/- The document's Line of a row, by walking its text. -/
import Derived.Test.YtikiplbhlohmdaaGreatDoorFiNumRef
import Derived.Deep.SlicePairs
import Derived.Deep.Strs
import Derived.ProofKit
import Derived.OpenShut
set_option linter.unusedVariables false
set_option linter.unusedSimpArgs false
namespace Go.Proofs.YtikiplbhlohmdaaGreatDoor
open Go.RowKit
theorem IsRow.wf {k : IntKind} {w : World} {a : Option Addr} {len cap : Nat} {zs : List Int} (h : IsRow k w a len cap zs) : ∀ n ∈ zs, (Lit.int k n).wf = true := by
  rcases h with ⟨rfl, rfl, rfl, rfl⟩ | ⟨x, rfl, h1, h2, h3, h4, h5⟩
  · simp
  · exact h5
theorem IsRow.sl {k : IntKind} {w : World} {a : Option Addr} {len cap : Nat} {zs : List Int} (h : IsRow k w a len cap zs) (m : Nat) (hm : m ≤ len) : Sl w w.heap.size a ((zs.take m).map (Value.int k)) := by
  rcases h with ⟨rfl, rfl, rfl, rfl⟩ | ⟨x, rfl, h1, h2, h3, h4, h5⟩
  · simpa using Sl.nil w w.heap.size none
  · intro hx
    rw [List.length_map, List.length_take] at hx
    obtain ⟨b, off, spot⟩ := x
    have hc0 := h4 0 (by omega)
    have hspot : spot = none := by simpa [Addr.add] using World.cell?_spot hc0
    subst hspot
    have hadd : ∀ i, (⟨b, off, none⟩ : Addr).add i = ⟨b, off + i, none⟩ := by
      intro i; unfold Addr.add; split <;> simp_all
    refine ⟨b, off, rfl, ?_, ?_⟩
    · rw [hadd] at hc0
      exact World.block_lt_of_cell? w _ hc0
    · intro i hi
      rw [List.length_map, List.length_take] at hi
      rw [← hadd, h4 i (by omega), List.getElem?_map, List.getElem?_take, if_pos (by omega), List.getElem?_eq_getElem (by omega)]
      simp [List.getD, show i < zs.length by omega]
theorem IsRow.len_le {k : IntKind} {w : World} {a : Option Addr} {len cap : Nat} {zs : List Int} (h : IsRow k w a len cap zs) : len ≤ cap ∧ cap ≤ maxLen ∧ zs.length = cap := by
  rcases h with ⟨rfl, rfl, rfl, rfl⟩ | ⟨x, rfl, h1, h2, h3, _⟩
  · exact ⟨Nat.le_refl _, by decide, rfl⟩
  · exact ⟨h1, h2, h3⟩
theorem Rw.third {P Q:Prop} {W w':World} {B:Nat} (h:P∧Q∧Below B W w'):Below B W w':=h.2.2
theorem Rw.keep2 {W w':World} {B b1 b2 o1 o2:Nat} {v1 v2:Value} (d1:W.cell? ⟨b1,o1,none⟩=some v1) (d2:W.cell? ⟨b2,o2,none⟩=some v2) (h1:b1<B) (h2:b2<B) (h:Below B W w') :
 w'.cell? ⟨b1,o1,none⟩=some v1∧w'.cell? ⟨b2,o2,none⟩=some v2∧Below B W w':=⟨((bcell h).1 _ _ h1).trans d1,((bcell h).1 _ _ h2).trans d2,h⟩
theorem Rw.rtext_int (v:Int) (h0:0≤v) (h1:v<16777216) (w:World) :
 Calls Tryz.prog 78 #[.int .i64 v] w fun e w'=>e=.returned (.string ⟨(Fi.text v.toNat).toArray⟩)∧Below w.heap.size w w':=by
 obtain⟨n,rfl⟩:∃n:Nat,v=n:=⟨v.toNat,by omega⟩
 rw[YX]
 exact Fi.rtext_any n (by omega) w
theorem Rw.rdig_int (v:Int) (h0:0≤v) (h1:v<9223372036854775808) (w:World) :
 Calls Tryz.prog 135 #[.int .i64 v] w fun e w'=>e=.returned (.string ⟨(Lib.decDigits v.toNat).toArray⟩)∧Below w.heap.size w w':=by
 obtain⟨n,rfl⟩:∃n:Nat,v=n:=⟨v.toNat,by omega⟩
 rw[YX]
 exact Fi.digits_any n w (by omega)
theorem Rw.ba_size (l:List UInt8):(⟨l.toArray⟩:ByteArray).size=l.length:=by show l.toArray.size=_;simp
def Rw.mtext (m:List Int):List UInt8:=Fi.glue 32 (m.map fun c=>Fi.text c.toNat)
theorem Rw.mtext_snoc (m:List Int) (c:Int):Rw.mtext (m++[c])=(if m=[] then Fi.text c.toNat else Rw.mtext m++32::Fi.text c.toNat):=by
 unfold Rw.mtext
 rw[ZM,XB,Fi.glue_snoc]
 rcases m with _|⟨a,t⟩ <;> simp
theorem Rw.mtext_len:∀(k:Nat) (m:List Int),m.length=k→(∀c∈m,0≤c∧c<16777216)→(Rw.mtext m).length≤7*k
 | 0,m,h,_=>by
   obtain rfl:m=[]:=List.length_eq_zero_iff.1 h
   simp[Rw.mtext,Fi.glue]
 | k+1,m,h,hc=>by
   rcases YL m with rfl|⟨t,c,aa⟩
   · simp at h
   rw[YM]at aa
   subst aa
   have ih:=Rw.mtext_len k t (by simpa using h) fun x hx=>hc x (by simp[hx])
   have h1:=hc c (by simp)
   have h2:=Fi.nd_le 5 c.toNat (by rw[show (16:Nat) ^ (5+1)=16777216 from by decide];omega)
   have h3:=Fi.text_len c.toNat
   rw[Rw.mtext_snoc]
   split
   · omega
   · simp;omega
set_option maxRecDepth 100000 in
set_option maxHeartbeats 4000000 in
theorem Rw.rline_any (c k:Int) (A:Option Addr) (m:List Int) (n cp B:Nat) (w:World) (c0:0≤c) (c1:c<16777216) (k0:0≤k) (k1:k<1000000000) (hn:m.length=n) (hm:n≤1000) (hmb:∀x∈m,0≤x∧x<16777216)
 (hB:B≤w.heap.size) (hA:Sl w B A (m.map (Value.int .i64))) :
 Calls Tryz.prog 105 #[.agg #[.int .i64 c,.int .i64 k,.slice A n cp]] w fun e w'=>e=.returned (.string ⟨(Rw.line (c,k,m)).toArray⟩)∧Below w.heap.size w w':=by
 have hT:=Rw.rtext_int c c0 c1
 have hD:=Rw.rdig_int k k0 (by omega)
 have l1:(Fi.text c.toNat).length≤6:=by
  have h2:=Fi.nd_le 5 c.toNat (by rw[show (16:Nat) ^ (5+1)=16777216 from by decide];omega)
  have h3:=Fi.text_len c.toNat
  omega
 have l2:=Fi.dec_len 9 k.toNat (by rw[show (10:Nat) ^ (9+1)=10000000000 from by decide];omega)
 obtain⟨tc,a1⟩:∃x:ByteArray,⟨(Fi.text c.toNat).toArray⟩=x:=⟨_,rfl⟩
 obtain⟨dk,az⟩:∃x:ByteArray,⟨(Lib.decDigits k.toNat).toArray⟩=x:=⟨_,rfl⟩
 have s1:tc.size≤6:=by rw[←a1,Rw.ba_size];exact l1
 have s2:dk.size≤10:=by rw[←az,Rw.ba_size];exact l2
 simp only[a1]at hT
 simp only[az]at hD
 obtain⟨mt,aq⟩:∃x:ByteArray,⟨(Rw.mtext m).toArray⟩=x:=⟨_,rfl⟩
 have s3:mt.size≤7000:=by
  rw[←aq,Rw.ba_size]
  have:=Rw.mtext_len n m hn hmb
  omega
 have ax:(((((tc++⟨#[59,88,59,59]⟩)++dk)++⟨#[59,59]⟩)++mt)++⟨#[59,59,59,59,59,59,59,59,59]⟩:ByteArray)=⟨(Rw.line (c,k,m)).toArray⟩:=by
  rw[←a1,←az,←aq,show (⟨#[59,88,59,59]⟩:ByteArray)=⟨[59,88,59,59].toArray⟩ from rfl,show (⟨#[59,59]⟩:ByteArray)=⟨[59,59].toArray⟩ from rfl,show (⟨#[59,59,59,59,59,59,59,59,59]⟩:ByteArray)=⟨[59,59,59,59,59,59,59,59,59].toArray⟩ from rfl]
  simp only[Fi.ba_app]
  unfold Rw.line Rw.mtext
  simp only[Zz]
 have HR:=Za ax
 have HN:=Za hn
 have bj:=Za hmb
 have bn:=Za aq
 clear ax a1 az hn hmb aq l1 l2
 have ap:=Rw.At.new w 61 [.int .i64 c,.int .i64 k,.slice A n cp]
 obtain⟨d1,d2,d3,d4,d5,d6⟩:=ap.three
 clear d4 d5 d6
 go_enter Tryz.func105,Tryz.ntmps105
 go_wp2_with fail
 obtain⟨wa,au⟩:∃wa,w.alloc (.cells #[.int .i64 c,.int .i64 k,.slice A n cp] 61)=wa:=⟨_,rfl⟩
 have a8:w.heap.size<wa.heap.size:=by rw[←au];simp
 have ag:Below w.heap.size w wa:=by rw[←au];exact (Zd _ _).alloc (Zb _) _
 have ak:Rw.At wa w.heap.size 61 [.int .i64 c,.int .i64 k,.slice A n cp]:=by rw[←au];exact ap
 clear d1 d2 d3
 rw[au]
 have HA:=Za (hA.below (ag.mono hB) (Ya (Nat.lt_of_le_of_lt hB a8)))
 have bm:=Za ag
 clear au ap hA ag
 go_loopw [3,4,5,9] (fun v3 _ _ i wr=>∃j:Nat,j≤n∧i=.int .i64 j∧v3=.string ⟨(Rw.mtext (m.take j)).toArray⟩∧Below wa.heap.size wa wr) (fun _ _ _ i _=>n-(intOf i).toNat)
 case atStart=>exact⟨0,ZE _,rfl,rfl,Zd _ _⟩
 case round =>
  obtain⟨j,hj,rfl,rfl,af⟩:=hrel
  by_cases hlt:j<n
  · obtain⟨x,hx⟩:∃x,m[j]?=some x:=⟨_,Zc (by rw[HN.out];exact hlt)⟩
    have hxb:=bj.out x (Zk hx)
    obtain⟨ab,ao,rfl,bk,bc⟩:=HA.out (by rw[Zg,HN.out];omega)
    have hc:=bc j (by rw[Zg,HN.out];exact hlt)
    rw[Zu,hx,Zt,←(bcell af).1 _ _ bk]at hc
    have hX:=Rw.rtext_int x hxb.1 hxb.2
    have bp:(⟨(Rw.mtext (m.take j)).toArray⟩:ByteArray).size≤7000:=by
     rw[Rw.ba_size]
     have:=Rw.mtext_len (m.take j).length (m.take j) rfl (fun y hy=>bj.out y (Yf hy))
     have:(m.take j).length≤j:=Xs _ _
     omega
    have bl:(⟨(Fi.text x.toNat).toArray⟩:ByteArray).size≤6:=by
     rw[Rw.ba_size]
     have h2:=Fi.nd_le 5 x.toNat (by rw[show (16:Nat) ^ (5+1)=16777216 from by decide];omega)
     have h3:=Fi.text_len x.toNat
     omega
    have aj:m.take (j+1)=m.take j++[x]:=by rw[Zw,hx];rfl
    have aa:m.take j=[]↔j=0:=by
     constructor
     · intro h
       have:=Z4 List.length h
       rw[Zq,HN.out,Z6]at this
       omega
     · rintro rfl;rfl
    obtain⟨ms,a7⟩:∃y:ByteArray,⟨(Rw.mtext (m.take j)).toArray⟩=y:=⟨_,rfl⟩
    obtain⟨tx,ai⟩:∃y:ByteArray,⟨(Fi.text x.toNat).toArray⟩=y:=⟨_,rfl⟩
    have aw:(if j=0 then ms++tx else ms++⟨#[32]⟩++tx)=⟨(Rw.mtext (m.take (j+1))).toArray⟩:=by
     rw[aj,Rw.mtext_snoc,←a7,←ai]
     by_cases h0:j=0
     · rw[Zp h0,Zp (aa.2 h0),aa.2 h0]
       simp[Rw.mtext,Fi.glue,Fi.ba_app]
     · rw[Zl h0,Zl (fun h=>h0 (aa.1 h)),show (⟨#[32]⟩:ByteArray)=⟨[32].toArray⟩ from rfl]
       simp only[Fi.ba_app]
       simp
    rw[a7]at bp ⊢
    rw[ai]at bl
    simp only[ai]at hX
    have ah:=Za aw
    have ae:=Za af
    have bg:¬9223372036854775807<ms.size+tx.size:=by omega
    have bf:¬9223372036854775807<ms.size+(⟨#[32]⟩:ByteArray).size:=by have:(⟨#[32]⟩:ByteArray).size=1:=rfl;omega
    have bi:¬9223372036854775807<(ms++⟨#[32]⟩).size+tx.size:=by
     have:(⟨#[32]⟩:ByteArray).size=1:=rfl
     rw[ZR];omega
    have a6:(j:Int)<n:=by omega
    clear aj aa a7 ai aw af hx bc
    by_cases h0:j=0
    · subst h0
      rw[Zp rfl]at ah
      rw[YW]at hc
      go_wp2_with fail
      refine (hX _).mono ?_
      rintro e w3 ⟨rfl,av⟩
      have ba:=Za av
      clear av
      go_wp2_with fail
      exact⟨⟨1,by omega,rfl,by rw[ah.out],ae.out.trans (ba.out.mono ae.out.size)⟩,by simp[intOf];omega⟩
    · rw[Zl h0]at ah
      have h1:(0:Int)<(j:Int):=by omega
      go_wp2_with fail
      refine (hX _).mono ?_
      rintro e w3 ⟨rfl,av⟩
      have ba:=Za av
      clear av
      go_wp2_with fail
      exact⟨⟨j+1,by omega,by go_num,by rw[ah.out],ae.out.trans (ba.out.mono ae.out.size)⟩,by simp[intOf];omega⟩
  · obtain rfl:j=n:=by omega
    have a6:¬(j:Int)<j:=by omega
    have aq:(⟨(Rw.mtext (m.take j)).toArray⟩:ByteArray)=mt:=by rw[Zj (by rw[HN.out];exact Zb _)];exact bn.out
    rw[aq]
    obtain⟨d1,d2,d3,_,_,_⟩:=(ak.below af).three
    have ar:w.heap.size<wr.heap.size:=Zf a8 af.size
    have ae:=Za af
    clear aq af ak d3
    have bs:¬9223372036854775807<tc.size+(⟨#[59,88,59,59]⟩:ByteArray).size:=by have:(⟨#[59,88,59,59]⟩:ByteArray).size=4:=rfl;omega
    have br:¬9223372036854775807<(tc++(⟨#[59,88,59,59]⟩:ByteArray)).size+dk.size:=by
     have:(⟨#[59,88,59,59]⟩:ByteArray).size=4:=rfl
     rw[ZR];omega
    have bu:¬9223372036854775807<(tc++(⟨#[59,88,59,59]⟩:ByteArray)++dk).size+(⟨#[59,59]⟩:ByteArray).size:=by
     have:(⟨#[59,88,59,59]⟩:ByteArray).size=4:=rfl
     have:(⟨#[59,59]⟩:ByteArray).size=2:=rfl
     simp only[ZR];omega
    have bw:¬9223372036854775807<(tc++(⟨#[59,88,59,59]⟩:ByteArray)++dk++(⟨#[59,59]⟩:ByteArray)).size+mt.size:=by
     have:(⟨#[59,88,59,59]⟩:ByteArray).size=4:=rfl
     have:(⟨#[59,59]⟩:ByteArray).size=2:=rfl
     simp only[ZR];omega
    have bx:¬9223372036854775807<(tc++(⟨#[59,88,59,59]⟩:ByteArray)++dk++(⟨#[59,59]⟩:ByteArray)++mt).size+(⟨#[59,59,59,59,59,59,59,59,59]⟩:ByteArray).size:=by
     have:(⟨#[59,88,59,59]⟩:ByteArray).size=4:=rfl
     have:(⟨#[59,59]⟩:ByteArray).size=2:=rfl
     have:(⟨#[59,59,59,59,59,59,59,59,59]⟩:ByteArray).size=9:=rfl
     simp only[ZR];omega
    have b2:¬9223372036854775807<tc.size+4:=by omega
    have b1:¬9223372036854775807<tc.size+4+dk.size:=by omega
    have bz:¬9223372036854775807<tc.size+4+dk.size+2:=by omega
    have bq:¬9223372036854775807<tc.size+4+dk.size+2+mt.size:=by omega
    have bt:¬9223372036854775807<tc.size+4+dk.size+2+mt.size+9:=by omega
    have bh:Below wr.heap.size wr wr:=Zd _ _
    go_wp2_with fail
    go_region_held3 (fun w'=>w'.cell? ⟨w.heap.size,0,none⟩=some (.int .i64 c)∧w'.cell? ⟨w.heap.size,1,none⟩=some (.int .i64 k)∧Below wr.heap.size wr w')
     (first
       | exact Rw.keep2 d1 d2 ar ar bh
       | exact Rw.keep2 d1 d2 ar ar bh.drew
       | exact Rw.keep2 d1 d2 ar ar ay
       | fail)
     (first
       | (go_at_call 78;refine (hT _).mono ?_;rintro e wq ⟨rfl,bb⟩;have ay:=(Rw.third (W:=wr) (by assumption)).trans (bb.mono (Rw.third (W:=wr) (by assumption)).size))
       | (go_at_call 135;refine (hD _).mono ?_;rintro e wq ⟨rfl,bb⟩;have ay:=(Rw.third (W:=wr) (by assumption)).trans (bb.mono (Rw.third (W:=wr) (by assumption)).size))
       | fail)
    all_goals
     have bo:=Za (Rw.third (W:=wr) (by assumption))
     go_wp2_with fail
     go_ret
     exact⟨by rw[←HR.out];rfl,bm.out.trans ((ae.out.trans (bo.out.mono ae.out.size)).mono (Ya a8))⟩
set_option maxRecDepth 100000 in
set_option maxHeartbeats 2000000 in
theorem Ud.rtext_any (A:Option Addr) (n c:Nat) (T:List Rw.Row) (w:World) (hn:T.length=n) (a7:n≤1000) (hr:∀r∈T,Rw.right r) (hA:Rw.SeesI w A T) :
 Calls Tryz.prog 79 #[.slice A n c] w fun e w'=>e=.returned (.string ⟨(Rw.txt T).toArray⟩)∧Below w.heap.size w w':=by
 have HN:=Za hn
 have HR:=Za hr
 have HA:=Za hA
 clear hn hr hA
 go_enter Tryz.func79,Tryz.ntmps79
 go_wp2_with fail
 go_loopw [3,5,8] (fun v3 _ i wr=>∃j:Nat,j≤n∧i=.int .i64 j∧v3=.string ⟨(Rw.txt (T.take j)).toArray⟩∧Below w.heap.size w wr) (fun _ _ i _=>n-(intOf i).toNat)
 case atStart=>exact⟨0,ZE _,rfl,rfl,Zd _ _⟩
 case round =>
  obtain⟨j,hj,rfl,rfl,aa⟩:=hrel
  by_cases hlt:j<n
  · obtain⟨r,hr⟩:∃r,T[j]?=some r:=⟨_,Zc (by rw[HN.out];exact hlt)⟩
    have af:=HR.out r (Zk hr)
    obtain⟨b,o,a,rfl,hb,ar,aw,av,ax⟩:=HA.out.row hr
    have c0:=((bcell aa).1 b (o+j*3) hb).trans ar
    have c1:=((bcell aa).1 b (o+j*3+1) hb).trans aw
    have c2:=((bcell aa).1 b (o+j*3+2) hb).trans av
    have a8:b<wr.heap.size:=Zf hb aa.size
    obtain⟨ml,ak⟩:∃k,r.2.2.length=k:=⟨_,rfl⟩
    rw[ak]at c2
    have ao:Below wr.heap.size wr (wr.alloc (.cells #[.int .i64 r.1,.int .i64 r.2.1,.slice a.1 ml a.2] 61)):=(Zd _ _).alloc (Zb _) _
    have ah:=Rw.At.new wr 61 [.int .i64 r.1,.int .i64 r.2.1,.slice a.1 ml a.2]
    have aq:ml≤2:=by rw[←ak];exact af.2.2.2.2.1
    have hL:=Rw.rline_any r.1 r.2.1 a.1 r.2.2 ml a.2 w.heap.size (wr.alloc (.cells #[.int .i64 r.1,.int .i64 r.2.1,.slice a.1 ml a.2] 61)) af.1 (by have:=af.2.1;omega) af.2.2.1 (by have:=af.2.2.2.1;omega) ak (by omega) (fun x hx=>by have:=af.2.2.2.2.2 x hx;omega) (Zh aa.size ao.size) ((ax.below aa (Zb _)).below (ao.mono aa.size) (Zb _))
    have ay:=Rw.line_len r af
    have az:=Rw.txt_len (T.take j) (fun q hq=>HR.out q (Yf hq))
    have a6:(T.take j).length≤j:=Xs _ _
    have ae:Rw.txt (T.take (j+1))=Rw.txt (T.take j)++(Rw.line r++[10]):=by
     rw[Zw,hr,Rw.txt_app]
     show _++Rw.txt [r]=_
     rw[Rw.txt_one]
    obtain⟨ln,ai⟩:∃y:ByteArray,⟨(Rw.line (r.1,r.2.1,r.2.2)).toArray⟩=y:=⟨_,rfl⟩
    obtain⟨st,aj⟩:∃y:ByteArray,⟨(Rw.txt (T.take j)).toArray⟩=y:=⟨_,rfl⟩
    have s1:ln.size≤1000:=by rw[←ai,Rw.ba_size];exact ay
    have s2:st.size≤1001000:=by rw[←aj,Rw.ba_size];omega
    have ag:st++(ln++⟨#[10]⟩)=⟨(Rw.txt (T.take (j+1))).toArray⟩:=by
     rw[ae,←aj,←ai,show (⟨#[10]⟩:ByteArray)=⟨[10].toArray⟩ from rfl]
     simp only[Fi.ba_app]
    simp only[ai]at hL
    rw[aj]
    have jI:(j:Int)<n:=by omega
    have j0:(0:Int)≤j:=by omega
    obtain⟨d1,d2,d3,-,-,-⟩:=ah.three
    have ap:=Za ag
    have HB:=Za (aa.trans (ao.mono aa.size))
    clear ar aw av ax hr af ak ai aj ag ae ay az a6 aa ao ah aq
    go_wp2_with fail
    refine hL.mono ?_
    rintro e w2 ⟨rfl,au⟩
    have a1:=Za (HB.out.trans (au.mono HB.out.size))
    clear au hL d1 d2 d3 c0 c1 c2
    go_wp2_with fail
    exact⟨⟨j+1,by omega,by go_num,by rw[←ap.out],a1.out⟩,by simp[intOf];omega⟩
  · obtain rfl:j=n:=by omega
    have jI:¬(j:Int)<j:=by omega
    have he:Rw.txt (T.take j)=Rw.txt T:=by rw[Zj (by rw[HN.out];exact Zb _)]
    rw[he]
    have HB:=Za aa
    clear aa he
    go_wp2_with fail
    go_ret
    exact⟨rfl,HB.out⟩
def Ud.uniq (l:List Int):List Int:=l.foldl (fun acc c=>if c∈acc then acc else acc++[c]) []
theorem Ud.uniq_go:∀(l acc:List Int),acc.Nodup→(l.foldl (fun acc c=>if c∈acc then acc else acc++[c]) acc).Nodup∧∀d,d∈l.foldl (fun acc c=>if c∈acc then acc else acc++[c]) acc↔d∈acc∨d∈l
 | [],acc,h=>⟨h,fun d=>by simp⟩
 | c::l,acc,h=>by
   rw[Y9]
   by_cases hc:c∈acc
   · rw[Zp hc]
     obtain⟨h1,h2⟩:=Ud.uniq_go l acc h
     refine⟨h1,fun d=>?_⟩
     rw[h2 d,Xd]
     constructor
     · rintro (h|h)
       · exact .inl h
       · exact .inr (.inr h)
     · rintro (h|rfl|h)
       · exact .inl h
       · exact .inl hc
       · exact .inr h
   · rw[Zl hc]
     obtain⟨h1,h2⟩:=Ud.uniq_go l (acc++[c]) (by
      rw[List.nodup_append]
      refine⟨h,by simp,fun a ha b hb=>?_⟩
      rw[ZA]at hb
      rw[hb]
      exact fun e=>hc (e▸ha))
     refine⟨h1,fun d=>?_⟩
     rw[h2 d,Xa,ZA,Xd,or_assoc]
theorem Ud.uniq_nodup (l:List Int):(Ud.uniq l).Nodup:=(Ud.uniq_go l [] List.nodup_nil).1
theorem Ud.uniq_mem (l:List Int) (d:Int):d∈Ud.uniq l↔d∈l:=by
 unfold Ud.uniq
 rw[(Ud.uniq_go l [] List.nodup_nil).2 d]
 simp
theorem Ud.uniq_snoc (l:List Int) (c:Int):Ud.uniq (l++[c])=if c∈l then Ud.uniq l else Ud.uniq l++[c]:=by
 have h:=Ud.uniq_mem l c
 unfold Ud.uniq at h ⊢
 rw[Y8,Y9,List.foldl_nil]
 by_cases hc:c∈l
 · rw[Zp hc,Zp (h.2 hc)]
 · rw[Zl hc,Zl (fun x=>hc (h.1 x))]
theorem Ud.uniq_len (l:List Int):(Ud.uniq l).length≤l.length:=by
 unfold Ud.uniq
 have:∀(l acc:List Int),(l.foldl (fun acc c=>if c∈acc then acc else acc++[c]) acc).length≤acc.length+l.length:=by
  intro l
  induction l with
  | nil=>intro acc;simp
  | cons c l ih =>
    intro acc
    rw[Y9]
    refine Zh (ih _) ?_
    split
    · simp
    · simp;omega
 simpa using this l []
set_option maxRecDepth 100000 in
set_option maxHeartbeats 2000000 in
theorem Ud.texts_any (A:Option Addr) (n c:Nat) (XA:Option Addr) (xn xc:Nat) (T:List Rw.Row) (E:List Int) (w:World) (hn:T.length=n) (bj:n≤1000) (hxn:E.length=xn) (bm:xn≤1000) (bk:xn≤xc)
 (hr:∀r∈T,Rw.right r) (hE:∀x∈E,0≤x∧x≤1114111) (hA:Rw.SeesI w A T) (hX:Sl w w.heap.size XA (E.map (Value.int .i64))) :
 Calls Tryz.prog 48 #[.agg #[.slice A n c,.slice XA xn xc]] w fun e w'=>e=.returned (.tuple #[.string ⟨(Rw.txt T).toArray⟩,.string ⟨(Ex.btxt (Ud.uniq E)).toArray⟩])∧Below w.heap.size w w':=by
 have HT:=Za (fun W (hW:Below w.heap.size w W)=>Ud.rtext_any A n c T W hn bj hr (hA.below hW))
 have HE:=Za hE
 have aw:=Za hxn
 obtain⟨t1,ay⟩:∃y:ByteArray,⟨(Rw.txt T).toArray⟩=y:=⟨_,rfl⟩
 obtain⟨t2,az⟩:∃y:ByteArray,⟨(Ex.btxt (Ud.uniq E)).toArray⟩=y:=⟨_,rfl⟩
 simp only[ay]at HT
 rw[ay,az]
 have bn:=Za az
 have bf:=Rw.At.new w 25 [.slice A n c,.slice XA xn xc]
 have ax:Below w.heap.size w (w.alloc (.cells #[.slice A n c,.slice XA xn xc] 25)):=(Zd _ _).alloc (Zb _) _
 obtain⟨w0,au⟩:∃w0,w.alloc (.cells #[.slice A n c,.slice XA xn xc] 25)=w0:=⟨_,rfl⟩
 have ah:Rw.At w0 w.heap.size 25 [.slice A n c,.slice XA xn xc]:=by rw[←au];exact bf
 rw[au]at ax
 have br:=Za au
 have bp:=Za ah
 have HB:=Za ax
 have HX:=Za (hX.below ax (Zb _))
 have y1:=ah.cell 1 rfl
 have yl:=ah.lt
 clear hn hr hE hxn hA hX bf ax au ah ay az
 go_enter Tryz.func48,Tryz.ntmps48
 go_upto_region 1 with (fail)
 rw[br.out]
 go_wp2_with fail
 clear y1 yl
 go_loopw [4,5,6,7,9,13] (fun v4 _ _ _ _ i wr=>∃j:Nat,j≤xn∧i=.int .i64 j∧v4=.string ⟨(Ex.btxt (Ud.uniq (E.take j))).toArray⟩∧Below w0.heap.size w0 wr) (fun _ _ _ _ _ i _=>xn-(intOf i).toNat)
 case atStart=>exact⟨0,ZE _,rfl,rfl,Zd _ _⟩
 case round =>
  obtain⟨j,hj,rfl,rfl,aa⟩:=hrel
  have ae:=bp.out.below aa
  have y0:=ae.cell 0 rfl
  have y1:=ae.cell 1 rfl
  have yl:=ae.lt
  by_cases hlt:j<xn
  · obtain⟨x,hx⟩:∃x,E[j]?=some x:=⟨_,Zc (by rw[aw.out];exact hlt)⟩
    have ar:=HE.out x (Zk hx)
    obtain⟨xb,xo,rfl,hxb,a8⟩:=HX.out (by rw[Zg,aw.out];omega)
    have ap:xb<w0.heap.size:=Zf hxb HB.out.size
    have hcell:∀(i:Nat) (y:Int),E[i]?=some y→wr.cell? ⟨xb,xo+i,none⟩=some (.int .i64 y):=fun i y hy=>by
     have hi:=(List.getElem?_eq_some_iff.1 hy).1
     have:=a8 i (by rw[Zg];exact hi)
     rw[Zu,hy,Zt,←(bcell aa).1 _ _ ap]at this
     exact this
    have q:=hcell j x hx
    have HC:=Za hcell
    have bl:xb<wr.heap.size:=Zf ap aa.size
    have jI:(j:Int)<xn:=by omega
    have j0:(0:Int)≤j:=by omega
    have jc:(j:Int)≤xc:=by omega
    have bs:=Za hx
    have ak:=Za aa
    have bo:(⟨(Ex.btxt (Ud.uniq (E.take j))).toArray⟩:ByteArray).size≤7000:=by
     rw[Rw.ba_size]
     have h1:=Ex.btxt_len (Ud.uniq (E.take j)) (fun d hd=>HE.out d (Yf ((Ud.uniq_mem _ _).1 hd)))
     have h2:=Ud.uniq_len (E.take j)
     have h3:(E.take j).length≤j:=Xs _ _
     omega
    have ai:Ex.btxt (Ud.uniq (E.take (j+1)))=if x∈E.take j then Ex.btxt (Ud.uniq (E.take j)) else Ex.btxt (Ud.uniq (E.take j))++(Fi.text x.toNat++[10]):=by
     rw[Zw,hx]
     show Ex.btxt (Ud.uniq (E.take j++[x]))=_
     rw[Ud.uniq_snoc]
     by_cases hm:x∈E.take j
     · rw[Zp hm,Zp hm]
     · rw[Zl hm,Zl hm,Ex.btxt_snoc]
    obtain⟨st,a6⟩:∃y:ByteArray,⟨(Ex.btxt (Ud.uniq (E.take j))).toArray⟩=y:=⟨_,rfl⟩
    rw[a6]at bo ⊢
    have bb:=Za ai
    have bc:=Za a6
    have bh:=Za ae
    have a7:=Rw.rtext_int x ar.1 (by omega)
    have bg:(⟨(Fi.text x.toNat).toArray⟩:ByteArray).size≤6:=by
     rw[Rw.ba_size]
     have h2:=Fi.nd_le 5 x.toNat (by rw[show (16:Nat) ^ (5+1)=16777216 from by decide];omega)
     have h3:=Fi.text_len x.toNat
     omega
    obtain⟨tx,av⟩:∃y:ByteArray,⟨(Fi.text x.toNat).toArray⟩=y:=⟨_,rfl⟩
    rw[av]at bg
    simp only[av]at a7
    have bq:=Za a7
    have bi:=Za av
    clear hcell hx ai a6 ae a7 av aa a8 ar
    go_wp2_with fail
    go_loop [7,9,23] (fun v7 _ k=>∃m:Nat,m≤j∧k=.int .i64 m∧v7=.bool (decide (x∈(E.take j).take m))) (fun _ _ k=>j-(intOf k).toNat)
    case atStart=>exact⟨0,ZE _,rfl,by simp⟩
    case round =>
     obtain⟨m,hm,rfl,rfl⟩:=hrel
     by_cases hmj:m<j
     · obtain⟨y,hy⟩:∃y,E[m]?=some y:=⟨_,Zc (by rw[aw.out];omega)⟩
       have qm:=HC.out m y hy
       have af:decide (x∈(E.take j).take (m+1))=(decide (x∈(E.take j).take m)||(y == x)):=by
        rw[Zw,show (E.take j)[m]?=some y by rw[YG,Zp hmj];exact hy,Yb]
        simp only[Option.toList_some,Xa,ZA,Zm,XS,YP]
        constructor
        · rintro (h|h)
          · exact .inl h
          · exact .inr h.symm
        · rintro (h|h)
          · exact .inl h
          · exact .inr h.symm
       obtain⟨sn,aj⟩:∃b,decide (x∈(E.take j).take m)=b:=⟨_,rfl⟩
       rw[aj]at af ⊢
       have HS:=Za af
       have mI:(m:Int)<j:=by omega
       have m0:(0:Int)≤m:=by omega
       clear af aj hy
       cases sn
       · rcases hyx:(y == x) with _|_
         · rw[hyx]at HS
           go_wp2_with fail
           exact⟨⟨m+1,by omega,by go_num,by rw[HS.out];rfl⟩,by simp[intOf];omega⟩
         · rw[hyx]at HS
           go_wp2_with fail
           exact⟨⟨m+1,by omega,by go_num,by rw[HS.out];rfl⟩,by simp[intOf];omega⟩
       · go_wp2_with fail
         exact⟨⟨m+1,by omega,by go_num,by rw[HS.out];rfl⟩,by simp[intOf];omega⟩
     · obtain rfl:m=j:=by omega
       have mI:¬(m:Int)<m:=by omega
       obtain⟨sn,aj⟩:∃b,decide (x∈(E.take m).take m)=b:=⟨_,rfl⟩
       rw[aj]
       have aq:decide (x∈E.take m)=sn:=by rw[←aj,XZ,Nat.min_self]
       have ba:=Za aq
       clear aj aq
       cases sn
       · have ag:st++(tx++⟨#[10]⟩)=⟨(Ex.btxt (Ud.uniq (E.take (m+1)))).toArray⟩:=by
          rw[bb.out,if_neg (by simpa using ba.out),←bc.out,←bi.out,show (⟨#[10]⟩:ByteArray)=⟨[10].toArray⟩ from rfl]
          simp only[Fi.ba_app]
         have HF:=Za ag
         clear ag
         go_wp2_with (go_at_call 78;refine (bq.out _).mono ?_;rintro e w2 ⟨rfl,ao⟩;have a1:=Za (ak.out.trans (ao.mono ak.out.size));clear ao)
         exact⟨⟨m+1,by omega,by go_num,by rw[←HF.out],a1.out⟩,by simp[intOf];omega⟩
       · have ag:st=⟨(Ex.btxt (Ud.uniq (E.take (m+1)))).toArray⟩:=by
          rw[bb.out,if_pos (by simpa using ba.out),←bc.out]
         have HF:=Za ag
         clear ag
         go_wp2_with fail
         exact⟨⟨m+1,by omega,by go_num,by rw[←HF.out],ak.out⟩,by simp[intOf];omega⟩
  · obtain rfl:j=xn:=by omega
    have jI:¬(j:Int)<j:=by omega
    have he:(⟨(Ex.btxt (Ud.uniq (E.take j))).toArray⟩:ByteArray)=t2:=by rw[Zj (by rw[aw.out];exact Zb _)];exact bn.out
    rw[he]
    have hT:=HT.out wr (HB.out.trans (aa.mono HB.out.size))
    have ak:=Za (HB.out.trans (aa.mono HB.out.size))
    clear aa he ae
    go_wp2_with fail
    refine hT.mono ?_
    rintro e w2 ⟨rfl,ao⟩
    have a1:=Za (ak.out.trans (ao.mono ak.out.size))
    clear ao hT
    go_wp2_with fail
    go_ret2
    exact⟨rfl,a1.out⟩
end Go.Proofs.YtikiplbhlohmdaaGreatDoor
namespace Go.Proofs.YtikiplbhlohmdaaGreatDoor
open Go.ChangeShapes Go.WideShapes Go.RowKit Go.Deep
def Rw.bounds (r:Rw.Row):Prop:=(-9223372036854775808≤r.1∧r.1≤9223372036854775807)∧(-9223372036854775808≤r.2.1∧r.2.1≤9223372036854775807)∧r.2.2.length≤maxLen∧∀c∈r.2.2,-9223372036854775808≤c∧c≤9223372036854775807
def Rw.IsRows (w:World) (a:Option Addr) (len cap:Nat) (l:List Rw.Row):Prop :=
 ∃ads,ads.length=l.length∧l.length=len∧len≤cap∧cap≤maxLen∧Sl w w.heap.size a (Rw.flI l ads) ∧
  (∀(i:Nat) (r:Rw.Row) (a:Option Addr × Nat),l[i]?=some r→ads[i]?=some a→Sl w w.heap.size a.1 (r.2.2.map (Value.int .i64)))∧∀r∈l,Rw.bounds r
theorem Rw.getD_get {α:Type} {n:Nat} {f:Nat→α} {i:Nat} {x:α} (h:((List.range n).map f)[i]?=some x):i<n∧f i=x:=by
 have aa:=(List.getElem?_eq_some_iff.1 h).1
 simp at aa
 rw[Zu,XN aa]at h
 simp at h
 exact⟨aa,h⟩
theorem Rw.flI_cell {w:World} {b o:Nat}:∀(l:List Rw.Row) (ads:List (Option Addr × Nat)) (k:Nat),ads.length=l.length →
 (∀i r a,l[i]?=some r→ads[i]?=some a→w.cell? ⟨b,o+(k+i)*3,none⟩=some (.int .i64 r.1)∧w.cell? ⟨b,o+(k+i)*3+1,none⟩=some (.int .i64 r.2.1)∧w.cell? ⟨b,o+(k+i)*3+2,none⟩=some (.slice a.1 r.2.2.length a.2)) →
 ∀j,j<(Rw.flI l ads).length→w.cell? ⟨b,o+k*3+j,none⟩=(Rw.flI l ads)[j]?
 | [],_,k,_,_,j,hj=>by simp[Rw.flI]at hj
 | _::_,[],k,h,_,j,hj=>by simp at h
 | r::t,a::as',k,hl,h,j,hj=>by
   obtain⟨h0,h1,h2⟩:=h 0 r a rfl rfl
   rw[YW]at h0 h1 h2
   have ih:=Rw.flI_cell t as' (k+1) (by simpa using hl) (fun i r' a' hi hi'=>by
    have:=h (i+1) r' a' (by simpa using hi) (by simpa using hi')
    rw[show k+(i+1)=k+1+i by omega]at this
    exact this)
   rcases j with _|_|_|j
   · exact h0
   · rw[show o+k*3+(0+1)=o+k*3+1 by omega];exact h1
   · rw[show o+k*3+(0+1+1)=o+k*3+2 by omega];exact h2
   · have:=ih j (by simp only[Rw.flI,ZI]at hj;omega)
     rw[show o+k*3+(j+1+1+1)=o+(k+1)*3+j by omega,this]
     rfl
theorem Rw.isRows_of {H:Type} {enc:TypeId × Value→H} {P:Program} {w:World} {t e q:TypeId} {f0 f1 f2:Field} {fuel:Nat} {a:Option Addr} {len cap:Nat} {x:DataW H × List MemPlace} (ht:P.underlying t=some (.slice e)) (he:P.underlying e=some (.struct #[f0,f1,f2]))
 (ce:P.cellsOf e=3) (o0:f0.offset=0) (o1:f1.offset=1) (o2:f2.offset=2) (c0:P.cellsOf f0.type=1) (c1:P.cellsOf f1.type=1) (c2:P.cellsOf f2.type=1) (k0:P.underlying f0.type=some (.int .i64)) (k1:P.underlying f1.type=some (.int .i64))
 (k2:P.underlying f2.type=some (.slice q)) (k3:P.underlying q=some (.int .i64)) (c3:P.cellsOf q=1)
 (h:DataW.trod enc P w 0 (fun _=>true) true fuel t [.slice a len cap]=some x):∃l,Rw.IsRows w a len cap l:=by
 rcases open_slice ht h with ⟨hcs,_⟩|⟨ad,l,c,m,n,D,Pl,hcs,hb,hl,hm,ap,_,hx⟩
 · simp only[Yd,Z3,YH]at hcs
   obtain⟨rfl,rfl,rfl⟩:=hcs
   exact⟨[],[],rfl,rfl,Zb _,by decide,Sl.nil _ _ _,by simp,by simp⟩
 · simp only[Yd,Z3,YH]at hcs
   obtain⟨rfl,rfl,rfl⟩:=hcs
   have aq:len≤m:=by rw[ap];split <;> omega
   have each:∀i,i<len→∃q:Rw.Row × Option Addr × Nat,w.cell? (ad.add (i*3))=some (.int .i64 q.1.1)∧w.cell? (ad.add (i*3+1))=some (.int .i64 q.1.2.1)∧w.cell? (ad.add (i*3+2))=some (.slice q.2.1 q.1.2.2.length q.2.2) ∧
    Sl w w.heap.size q.2.1 (q.1.2.2.map (Value.int .i64))∧Rw.bounds q.1:=by
    intro i hi
    obtain⟨cs',h1,h2⟩:=hx i (by omega)
    rw[ce]at h1
    obtain⟨_,hlen,hcell⟩:=World.cells?_some h1
    obtain⟨y0,y1,y2,n',_,_,g0,g1,g2⟩:=trod_struct3 he h2
    match cs',hlen with
    | [v0,v1,v2],_ =>
      simp[o0,o1,o2,c0,c1,c2]at g0 g1 g2
      obtain⟨z0,e0,_,w0⟩:=DataW.trod_int k0 g0
      obtain⟨z1,e1,_,w1⟩:=DataW.trod_int k1 g1
      simp only[Yd,YH]at e0 e1
      have d0:=hcell 0 (by omega)
      have d1:=hcell 1 (by omega)
      have d2:=hcell 2 (by omega)
      rw[add_add]at d0 d1 d2
      obtain⟨a2,l2,p2,zs,ev,hR⟩:∃a2 l2 p2 zs,v2=.slice a2 l2 p2∧IsRow .i64 w a2 l2 p2 zs:=by
       rcases open_ints k2 k3 c3 g2 with ⟨hcs,_⟩|⟨x,l,c,zs,hcs,_,hl,hm,hz,_,aa,ao⟩
       · simp only[Yd,YH]at hcs
         subst hcs
         exact⟨none,0,0,[],rfl,.inl ⟨rfl,rfl,rfl,rfl⟩⟩
       · simp only[Yd,YH]at hcs
         subst hcs
         exact⟨some x,l,c,zs,rfl,.inr ⟨_,rfl,hl,hm,by simpa using hz,aa,ao⟩⟩
      subst ev
      obtain⟨q1,q2,q3⟩:=hR.len_le
      have ak:(zs.take l2).length=l2:=by rw[Zq,q3];omega
      refine⟨((z0,z1,zs.take l2),a2,p2),?_,?_,?_,hR.sl l2 (Zb _),bounds_i64 w0,bounds_i64 w1,by show (zs.take l2).length≤maxLen;omega,fun c hc=>bounds_i64 (hR.wf c (Yf hc))⟩
      · rw[←e0];simpa using d0
      · rw[←e1];simpa using d1
      · show w.cell? (ad.add (i*3+2))=some (.slice a2 (zs.take l2).length p2)
        rw[ak];simpa using d2
   obtain⟨q,hq⟩:=choose_lt each
   refine⟨(List.range len).map fun i=>(q i).1,(List.range len).map fun i=>(q i).2,by simp,by simp,hl,hm,?_,?_,?_⟩
   · intro hne
     rw[Rw.flI_len _ _ (by simp),Zg,List.length_range]at hne
     obtain⟨b,off,spot⟩:=ad
     have ag:=(hq 0 (by omega)).1
     have ae:spot=none:=by simpa [Addr.add] using World.cell?_spot ag
     subst ae
     have af:∀i,(⟨b,off,none⟩:Addr).add i=⟨b,off+i,none⟩:=by
      intro i;unfold Addr.add;split <;> simp_all
     refine⟨b,off,rfl,?_,fun j hj=>?_⟩
     · rw[af]at ag
       exact YT w _ ag
     · have:=Rw.flI_cell (w:=w) (b:=b) (o:=off) ((List.range len).map fun i=>(q i).1) ((List.range len).map fun i=>(q i).2) 0 (by simp) (fun i r a hi hi'=>by
        obtain⟨ai,ah⟩:=Rw.getD_get hi
        obtain⟨_,aj⟩:=Rw.getD_get hi'
        obtain⟨a0,a1,a2,_⟩:=hq i ai
        rw[af]at a0 a1 a2
        rw[ah]at a0 a1 a2
        rw[aj]at a2
        rw[Z1]
        exact⟨a0,a1,a2⟩) j hj
       simpa using this
   · intro i r a hi hi'
     obtain⟨ai,ah⟩:=Rw.getD_get hi
     obtain⟨_,aj⟩:=Rw.getD_get hi'
     have:=(hq i ai).2.2.2.1
     rw[ah,aj]at this
     exact this
   · intro r hr
     obtain⟨i,hi,rfl⟩:=List.mem_map.1 hr
     exact (hq i (List.mem_range.1 hi)).2.2.2.2
end Go.Proofs.YtikiplbhlohmdaaGreatDoor
