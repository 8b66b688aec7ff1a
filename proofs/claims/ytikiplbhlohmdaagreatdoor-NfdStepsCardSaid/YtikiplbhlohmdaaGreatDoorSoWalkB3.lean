/- Encode, the reference's Encode, Told; the law UtfDecodes. -/
import Derived.Test.YtikiplbhlohmdaaGreatDoorUtfF
import Derived.Test.YtikiplbhlohmdaaGreatDoorNfRef
import Derived.Lib.AppendZerosOnto
import Derived.Lib.Walk
import Derived.Lib.Strings
import Derived.CellFam
set_option linter.unusedVariables false
set_option linter.unusedSimpArgs false
namespace Go.Proofs.YtikiplbhlohmdaaGreatDoor
open Go.RowKit
theorem strOfBytes (l:List UInt8):strOfNums (l.map fun b=>((b.toNat:Nat):Int))=⟨l.toArray⟩:=by
 unfold strOfNums
 rw[List.map_map]
 congr 1
 have:l.map ((fun n:Int=>UInt8.ofNat n.toNat) ∘ fun b:UInt8=>((b.toNat:Nat):Int))=l:=by
  conv=>rhs;rw[←List.map_id l]
  refine List.map_congr_left fun b _=>?_
  simp
 rw[this]
theorem conv_own {w:World} {base m c:Nat} {A:Option Addr} {l:List UInt8} (h:w.ownsRow base 5 1 (.slice A m c) m (bytesV l)) :
 (convert 77 9 (.slice A m c)).run Tryz.prog w=.ok (.string ⟨l.toArray⟩) w:=by
 obtain⟨hl,hr⟩:=h
 rcases hr with ⟨hv,hm⟩|⟨g,cap,ae,hv,_,hg,hc,_,hcs,aa⟩
 · simp only[Value.slice.injEq]at hv
   obtain⟨rfl,rfl,rfl⟩:=hv
   have:l=[]:=List.eq_nil_of_length_eq_zero (by unfold bytesV at hl;simpa using hl)
   subst this
   exact run_convert_bytes_nil _ _ 5 Tryz.underlying77 Tryz.underlying5 _ _ _ Tryz.underlying9
 · simp only[Value.slice.injEq]at hv
   obtain⟨rfl,_,rfl⟩:=hv
   unfold bytesV at hl aa
   rw[List.length_map]at hl
   rw[←strOfBytes]
   refine run_convert_bytes_arg _ _ 5 Tryz.underlying77 Tryz.underlying5 g 0 m c _ (by rw[List.length_map];omega) (fun i hi=>?_) _ Tryz.underlying9
   have af:i<l.length:=by omega
   have ag:ae.toList[i]?=some (Value.int .u8 ((l[i].toNat:Nat):Int)):=by
    have e:(ae.toList.take (m*1))[i]?=(l.map fun b=>Value.int .u8 ((b.toNat:Nat):Int))[i]?:=by rw[aa]
    rw[List.getElem?_take,if_pos (by omega),List.getElem?_map,List.getElem?_eq_getElem af]at e
    exact e
   simp only[World.cell?,hg,Nat.zero_add]
   have:ae[i]?=some (Value.int .u8 ((l[i].toNat:Nat):Int)):=by rw[←ag];simp
   simp[this,List.getD,af]
def U.encG (l:List Int):Bool:=l.all U.isC
def U.encS (l:List Int):ByteArray:=if U.encG l then ⟨(U.encs l).toArray⟩ else ⟨#[]⟩
def U.encN (l:List Int):Int:=if U.encG l then 0 else 1
theorem bytesV_append (a b:List UInt8):bytesV (a++b)=bytesV a++bytesV b:=by unfold bytesV;rw[List.map_append]
theorem U.encs_le (l:List Int):(U.encs l).length≤4*l.length:=by
 induction l with
 | nil=>simp[U.encs]
 | cons c l ih=>rw[U.encs_cons,List.length_append,List.length_cons];have:=(U.enc_pos c).2;omega
theorem take_succ_get {α:Type} {l:List α} {k:Nat} {x:α} (h:l[k]?=some x):l.take (k+1)=l.take k++[x]:=by
 rw[List.take_add_one,h];rfl
theorem mem_take_get {α:Type} {l:List α} {k:Nat} {x:α} (h:l[k]?=some x):x∈l:=List.mem_of_getElem? h
set_option maxRecDepth 100000 in
set_option maxHeartbeats 1000000 in
theorem U.encode_any (A:Option Addr) (cap B:Nat) (l:List Int) (w:World) (hB:B≤w.heap.size) (hA:Sl w B A (l.map (Value.int .i32))) (hl:l.length≤100000000000) (hb:∀c∈l,-2147483648≤c∧c≤2147483647) (hH:Heads w) :
 Calls Tryz.prog 32 #[.slice A l.length cap] w fun e w'=>e=.returned (.tuple #[.string (U.encS l),.int .i64 (U.encN l)])∧Below w.heap.size w w':=by
 have hg:=hH.lt
 obtain⟨n,hn⟩:∃n,l.length=n:=⟨_,rfl⟩
 have HN:=Lib.hid hn
 rw[hn]at hl ⊢
 clear hn
 have HB:=Lib.hid hb
 clear hb
 go_enter Tryz.func32,Tryz.ntmps32
 go_wp2
 go_loopw [9,4] (fun i v wr=>∃k:Nat,k≤n∧i=.int .i64 k∧(∀x∈l.take k,U.isC x=true)∧wr.ownsRow w.heap.size 5 1 v (U.encs (l.take k)).length (bytesV (U.encs (l.take k)))∧Below w.heap.size w wr) (fun i _ _=>n-(intOf i).toNat)
 case atStart=>exact⟨0,by omega,rfl,by simp,World.ownsRow_nil _ _ _ _,Below.refl _ _⟩
 case round =>
  obtain⟨k,hk,rfl,af,ae,aa⟩:=hrel
  have au:=aa.size
  have ar:=hH.next aa
  have HG:=Lib.hid af
  clear af
  have av:=U.encs_le (l.take k)
  rw[List.length_take,HN.out]at av
  by_cases hkn:(k:Int)<n
  · obtain⟨x,hx⟩:∃x,l[k]?=some x:=⟨_,List.getElem?_eq_getElem (by rw[HN.out];omega)⟩
    obtain⟨x1,x2⟩:=HB.out x (mem_take_get hx)
    obtain⟨b,o,rfl,aw,hc⟩:=hA.belowN aa hB (Nat.le_refl _) (by rw[List.length_map,HN.out];omega)
    have hcell:=hc k (by rw[List.length_map,HN.out];omega)
    rw[List.getElem?_map,hx]at hcell
    simp only[Option.map]at hcell
    have ap:=take_succ_get hx
    have HX:=Lib.hid hx
    have ao:=Lib.hid ap
    clear hx ap hc
    by_cases hch:U.isC x=true
    · have HC:=Lib.hid hch
      go_wp2_with (go_at_call 52;refine (U.is_any _ _ x1 x2).mono ?_;rintro e w' ⟨rfl,rfl⟩)
      refine (U.put_any x _ _ w.heap.size _ _ HC.out ar ae (by omega) au).mono ?_
      rintro e w2 ⟨v',rfl,ai,aq⟩
      go_wp2
      refine⟨⟨k+1,by omega,by go_num,?_,?_,aa.trans aq⟩,by simp[intOf];omega⟩
      · rw[ao.out]
        intro y hy
        rcases List.mem_append.1 hy with hy|hy
        · exact HG.out y hy
        · rw[List.mem_singleton]at hy;subst hy;exact HC.out
      · rw[ao.out,U.encs_append,List.length_append,bytesV_append]
        have e:U.encs [x]=U.enc x:=by simp[U.encs]
        rw[e]
        exact ai
    · have aj:U.isC x=false:=by simpa using hch
      have ag:U.encG l=false:=by
       unfold U.encG
       rw[List.all_eq_false]
       exact⟨x,mem_take_get HX.out,by simp[aj]⟩
      have H1:U.encS l=⟨#[]⟩:=by unfold U.encS;rw[if_neg (by rw[ag];decide)]
      have H2:U.encN l=1:=by unfold U.encN;rw[if_neg (by rw[ag];decide)]
      have H1:=Lib.hid H1
      have H2:=Lib.hid H2
      rename_i h1' h2'
      clear h1' h2' ag hch
      go_wp2_with (go_at_call 52;refine (U.is_any _ _ x1 x2).mono ?_;rintro e w' ⟨rfl,rfl⟩)
      go_ret2
      rw[H1.out,H2.out]
      exact⟨rfl,aa⟩
  · obtain rfl:k=n:=by omega
    have ah:l.take k=l:=List.take_of_length_le (by rw[HN.out];omega)
    rw[ah]at ae
    have hG:=HG.out
    rw[ah]at hG
    have ak:U.encG l=true:=by unfold U.encG;rw[List.all_eq_true];exact hG
    have H1:U.encS l=⟨(U.encs l).toArray⟩:=by unfold U.encS;rw[if_pos ak]
    have H2:U.encN l=0:=by unfold U.encN;rw[if_pos ak]
    have K1:=Lib.hid H1
    have K2:=Lib.hid H2
    clear H1 H2 ak hG ah
    obtain⟨A',c',rfl⟩:=own_form ae
    have hcv:=conv_own ae
    go_wp2
    go_ret2
    rw[K1.out,K2.out]
    exact⟨rfl,aa⟩
theorem ba_append (a b:List UInt8):(⟨a.toArray⟩++⟨b.toArray⟩:ByteArray)=⟨(a++b).toArray⟩:=by
 apply ByteArray.ext
 simp
set_option maxRecDepth 100000 in
set_option maxHeartbeats 1000000 in
theorem U.rencode_any (A:Option Addr) (cap B:Nat) (l:List Int) (w:World) (hB:B≤w.heap.size) (hA:Sl w B A (l.map (Value.int .i64))) (hl:l.length≤100000000000) (hb:∀c∈l,U.isC c=true) :
 Calls Tryz.prog 13 #[.slice A l.length cap] w fun e w'=>e=.returned (.string ⟨(U.encs l).toArray⟩)∧Below w.heap.size w w':=by
 obtain⟨n,hn⟩:∃n,l.length=n:=⟨_,rfl⟩
 have HN:=Lib.hid hn
 rw[hn]at hl ⊢
 clear hn
 have HB:=Lib.hid hb
 clear hb
 go_enter Tryz.func13,Tryz.ntmps13
 go_wp2
 go_loopw [8,3] (fun i v wr=>∃k:Nat,k≤n∧i=.int .i64 k∧v=.string ⟨(U.encs (l.take k)).toArray⟩∧Below w.heap.size w wr) (fun i _ _=>n-(intOf i).toNat)
 case atStart=>exact⟨0,by omega,rfl,rfl,Below.refl _ _⟩
 case round =>
  obtain⟨k,hk,rfl,rfl,aa⟩:=hrel
  have aj:=aa.size
  by_cases hkn:(k:Int)<n
  · obtain⟨x,hx⟩:∃x,l[k]?=some x:=⟨_,List.getElem?_eq_getElem (by rw[HN.out];omega)⟩
    have af:=HB.out x (mem_take_get hx)
    obtain⟨b,o,rfl,ao,hc⟩:=hA.belowN aa hB (Nat.le_refl _) (by rw[List.length_map,HN.out];omega)
    have hcell:=hc k (by rw[List.length_map,HN.out];omega)
    rw[List.getElem?_map,hx]at hcell
    simp only[Option.map]at hcell
    have ag:=take_succ_get hx
    have ah:=Lib.hid ag
    have HC:=Lib.hid af
    clear hx ag hc af
    have ak:=U.encs_le (l.take k)
    rw[List.length_take,HN.out]at ak
    have hex:=(U.enc_pos x).2
    have hlen:((⟨(U.encs (l.take k)).toArray⟩:ByteArray).size:Int)+((⟨(U.enc x).toArray⟩:ByteArray).size:Int)≤900000000000:=by
     simp[ByteArray.size];omega
    go_wp2_with fail
    refine (U.bytes_any _ _ HC.out).mono ?_
    rintro e w2 ⟨rfl,ai⟩
    go_wp2
    refine⟨⟨k+1,by omega,by go_num,?_,aa.trans (ai.mono aj)⟩,by simp[intOf];omega⟩
    rw[ah.out,U.encs_append,ba_append]
    have e:U.encs [x]=U.enc x:=by simp[U.encs]
    rw[e]
  · obtain rfl:k=n:=by omega
    have ae:l.take k=l:=List.take_of_length_le (by rw[HN.out];omega)
    have HA:=Lib.hid ae
    clear ae
    go_wp2
    go_ret
    rw[HA.out]
    exact⟨rfl,aa⟩
theorem U.chars_bd {cs:List Int} (h:∀c∈cs,U.isC c=true):∀c∈cs,-2147483648≤c∧c≤2147483647:=by
 intro c hc
 have:=(U.isC_iff c).1 (h c hc)
 omega
theorem U.encG_of {cs:List Int} (h:∀c∈cs,U.isC c=true):U.encG cs=true:=by unfold U.encG;rw[List.all_eq_true];exact h
theorem U.encS_of {cs:List Int} (h:∀c∈cs,U.isC c=true):U.encS cs=⟨(U.encs cs).toArray⟩:=by unfold U.encS;rw[if_pos (U.encG_of h)]
def Nf.fl (T:List Rw.Row) (l:List Int):List Int:=l.flatMap (Ud.full T)
def Nf.chars (T:List Rw.Row) (l:List Int):List Int:=Or.of (Md.cls T) (Nf.fl T l)
theorem Nf.fl_snoc {T:List Rw.Row} {l:List Int} {k:Nat} {x:Int} (hx:l[k]?=some x):Nf.fl T (l.take (k+1))=Nf.fl T (l.take k)++Ud.full T x:=by
 unfold Nf.fl
 rw[List.take_add_one,hx,List.flatMap_append]
 simp
theorem Nf.fl_le {T:List Rw.Row} (h:∀c,(Ud.full T c).length≤32):∀l:List Int,(Nf.fl T l).length≤32*l.length
 | []=>by simp[Nf.fl]
 | x::l=>by
   have h1:=Nf.fl_le h l
   have h2:=h x
   unfold Nf.fl at h1 ⊢
   rw[List.flatMap_cons,List.length_append,List.length_cons]
   omega
set_option maxRecDepth 100000 in
set_option maxHeartbeats 4000000 in
theorem Nf.rchars_any (v:Value) (T:List Rw.Row) (E:List Int) (A:Option Addr) (n c:Nat) (l:List Int) (w:World) (bj:T.length≤100000) (hbd:Md.bd T) (ak:∀r∈T,r.2.2.length≤1000) (hle:∀c,(Ud.full T c).length≤32) (h:Md.Doc w v T E) (hl:l.length=n) (hn:n≤3000) (bq:∀x∈l,-2147483648≤x∧x≤2147483647) (hA:Sl w w.heap.size A (l.map (Value.int .i64))) :
 Calls Tryz.prog 10 #[v,.slice A n c] w (Nf.RetOwnI (Nf.chars T l) w):=by
 obtain⟨i0,cx,b6,b5,cj⟩:=info_parts infoInt
 have hd:=h
 obtain⟨AT,cT,XA,xc,rfl,_⟩:=hd
 obtain⟨tn,bu⟩:∃k,T.length=k:=⟨_,rfl⟩
 obtain⟨xn,hxn⟩:∃k,E.length=k:=⟨_,rfl⟩
 rw[bu,hxn]at h ⊢
 have b1:∀x W,Below w.heap.size w W → -2147483648≤x→x≤2147483647→Calls Tryz.prog 28 #[Md.tv AT tn cT XA xn xc,.int .i64 x] W (Md.RetFull (Md.full T x) W):=fun x W hW h3 h4=>Md.rfull_any _ T E x W bj (h.below hW) hbd ak h3 h4
 have bn:∀A' m c' z W,Below w.heap.size w W→z.length=m→m≤100000→Sl W W.heap.size A' (z.map (Value.int .i64))→Calls Tryz.prog 29 #[Md.tv AT tn cT XA xn xc,.slice A' m c'] W (Nf.RetOwnI (Or.of (Md.cls T) z) W):=fun A' m c' z W hW h1 h2 h3=>Nf.rof_any _ T E A' m c' z W (Nat.le_trans bj (by decide)) (h.below hW) h1 h2 h3
 unfold Md.tv at *
 obtain⟨wa,aq⟩:∃wa,(w.alloc (.cells #[.slice AT tn cT,.slice XA xn xc] 25)).alloc (.cells #[] 3)=wa:=⟨_,rfl⟩
 have bb:Below w.heap.size w wa:=by rw[←aq];exact ((Below.refl _ _).alloc (Nat.le_refl _) _).alloc (by simp) _
 have b3:Rw.At wa w.heap.size 25 [.slice AT tn cT,.slice XA xn xc]:=by
  rw[←aq];exact (Rw.At.new w 25 [.slice AT tn cT,.slice XA xn xc]).alloc _
 have au:wa.ownsRow (w.heap.size+1) 3 1 (.slice (some ⟨w.heap.size+1,0,none⟩) 0 0) 0 []:=by
  have:=Md.own_empty (w.alloc (.cells #[.slice AT tn cT,.slice XA xn xc] 25)) 3 (by decide)
  rw[World.size_alloc]at this
  rw[←aq];exact this
 have b9:=Lib.hid aq
 have cc:=Lib.hid bb
 have cv:=Lib.hid b3
 have bf:=Lib.hid au
 have HL:=Lib.hid hl
 have ch:=Lib.hid bq
 have HA:=Lib.hid (hA.below bb (Nat.le_refl _))
 have b4:=Lib.hid b1
 have cr:=Lib.hid bn
 have bx:=Lib.hid (Nf.fl_le hle)
 have a8:=Lib.hid hle
 clear aq bb b3 au hl bq hA b1 bn h bu hxn bj hbd ak hle
 go_enter Tryz.func10,Tryz.ntmps10
 go_upto_region 2 with (fail)
 rw[b9.out]
 go_wp2_with fail
 go_loopw [5,7,8,9,13] (fun v5 _ _ _ i wr=>∃(k:Nat) (sl:Value),k≤n∧i=.int .i64 k∧v5=sl∧Rw.At wr w.heap.size 25 [.slice AT tn cT,.slice XA xn xc]∧wr.ownsRow (w.heap.size+1) 3 1 sl (Nf.fl T (l.take k)).length ((Nf.fl T (l.take k)).map (Value.int .i64))∧Below (w.heap.size+1) wa wr) (fun _ _ _ _ i _=>n-(intOf i).toNat)
 case atStart=>exact⟨0,_,Nat.zero_le _,rfl,rfl,cv.out,bf.out,Below.refl _ _⟩
 case round =>
  obtain⟨k,sl,hk,rfl,rfl,ae,aa,ah⟩:=hrel
  have bl:w.heap.size+1≤wr.heap.size:=ae.lt
  have ay:Below w.heap.size w wr:=cc.out.trans (ah.mono (Nat.le_succ _))
  by_cases hlt:k<n
  · obtain⟨x,hx⟩:∃x,l[k]?=some x:=⟨_,List.getElem?_eq_getElem (by rw[HL.out];exact hlt)⟩
    obtain⟨br,b2⟩:=ch.out x (List.mem_of_getElem? hx)
    obtain⟨ab,ao,hA2,cz,bm⟩:=HA.out (by rw[List.length_map,HL.out];omega)
    have hc:=bm k (by rw[List.length_map,HL.out];exact hlt)
    rw[List.getElem?_map,hx,Option.map_some,←(bcell ah).1 _ _ (by omega)]at hc
    have a7:=Nf.fl_snoc (T:=T) hx
    have aj:=bx.out (l.take k)
    rw[List.length_take,HL.out]at aj
    have ba:=a8.out x
    obtain⟨m,hm⟩:∃m,Ud.full T x=m:=⟨_,rfl⟩
    obtain⟨S,hS⟩:∃S,Nf.fl T (l.take k)=S:=⟨_,rfl⟩
    obtain⟨ml,ak⟩:∃q,m.length=q:=⟨_,rfl⟩
    obtain⟨sn,af⟩:∃q,S.length=q:=⟨_,rfl⟩
    have ax:=b4.out x wr ay br b2
    unfold Md.RetFull at ax
    rw[show (Md.full T x).getD []=m from hm,ak]at ax
    rw[hS,af]at aa
    rw[hS,af]at aj
    rw[hm,ak]at ba
    rw[hS,hm]at a7
    have kI:(k:Int)<n:=by omega
    have k0:(0:Int)≤k:=by omega
    have z0:=ae.cell 0 rfl
    have z1:=ae.cell 1 rfl
    have cd:=Lib.hid a7
    have a1:=Lib.hid ae
    have ap:=Lib.hid aa
    have bh:=Lib.hid ah
    have bo:=Lib.hid ak
    have ck:=Lib.hid af
    have cy:=Lib.hid ax
    have c6:sn≤32*k:=by omega
    subst hA2
    clear hx br b2 bm a7 aj hm hS ak af ax aa ae ah ay
    go_wp2_with fail
    refine cy.out.mono ?_
    rintro e w1 ⟨A1,c1,rfl,bs,ar⟩
    have aw:=Lib.hid (own_below ap.out ar (Nat.le_refl _))
    have bi:=Lib.hid (a1.out.below ar)
    have cb:=Lib.hid bs
    have b7:=Lib.hid (bh.out.trans (ar.mono bl))
    have b8:w.heap.size+1≤w1.heap.size:=Nat.le_trans bl ar.size
    have bz:(m.map (Value.int .i64)).length=ml*1:=by rw[List.length_map,bo.out];omega
    have bp:∀u∈m.map (Value.int .i64),u.oneCell'=true:=oneCells .i64 _
    have cn:=Lib.hid bz
    have cg:=Lib.hid bp
    clear bs ar z0 z1 hc bz bp
    go_wp2_with (first|(at_builtin;refine wpList_appendSl _ rfl _ _ _ rfl (w.heap.size+1) 3 i0 _ 1 8 Tryz.underlying23 cx b6 b5 cj rfl (by omega) _ sn _ rfl aw.out _ A1 ml c1 (m.map (Value.int .i64)) rfl cn.out cb.out cg.out (by simp only[maxLen];omega) (by omega) b8 ?_;intro v1 w4 ai bg cm;have av:=Lib.hid ai;have bk:=Lib.hid (bi.out.below' bg (Nat.lt_succ_self _));have cp:=Lib.hid (b7.out.trans bg);clear ai bg cm)|fail)
    refine⟨⟨k+1,v1,by omega,by first|rfl|go_num,rfl,bk.out,?_,cp.out⟩,by simp[intOf];omega⟩
    rw[cd.out,List.length_append,ck.out,bo.out,List.map_append]
    exact av.out
  · obtain rfl:k=n:=by omega
    rw[List.take_of_length_le (by rw[HL.out];exact Nat.le_refl _)]at aa
    have aj:=bx.out l
    rw[HL.out]at aj
    obtain⟨S,hS⟩:∃S,Nf.fl T l=S:=⟨_,rfl⟩
    obtain⟨sn,af⟩:∃q,S.length=q:=⟨_,rfl⟩
    rw[hS,af]at aa aj
    obtain⟨A4,c4,rfl⟩:=own_form aa
    have a6:=cr.out A4 sn c4 S wr ay af (by omega) (Sl.of_own aa)
    obtain⟨Z,hZ⟩:∃Z,Or.of (Md.cls T) S=Z:=⟨_,rfl⟩
    have bw:Nf.chars T l=Z:=by unfold Nf.chars;rw[hS,hZ]
    rw[hZ]at a6
    have cw:=Lib.hid bw
    have kI:¬(k:Int)<k:=by omega
    have z0:=ae.cell 0 rfl
    have z1:=ae.cell 1 rfl
    have az:=ae.lt
    have ct:=Lib.hid a6
    have bc:=Lib.hid ay
    clear aa a6 bw hZ hS af aj ae ah
    go_wp2_with fail
    refine ct.out.mono ?_
    rintro e w5 ⟨A5,c5,rfl,ag,bt⟩
    obtain⟨zl,az⟩:∃q,Z.length=q:=⟨_,rfl⟩
    rw[az]at ag ⊢
    have cq:=Lib.hid ag
    have cu:=Lib.hid bt
    have cf:=Lib.hid az
    clear ag bt az
    go_wp2_with fail
    go_ret
    rw[cw.out]
    unfold Nf.RetOwnI
    rw[cf.out]
    exact⟨_,_,rfl,own_mono cq.out bc.out.size,bc.out.trans (cu.out.mono bc.out.size)⟩
end Go.Proofs.YtikiplbhlohmdaaGreatDoor
namespace Go.Proofs.YtikiplbhlohmdaaGreatDoor
section
set_option maxHeartbeats 1000000
theorem So.cmp_isNaN_int (x:Int) (w:World):Calls Tryz.prog 206 #[.int .i32 x] w fun e w'=>e=.returned (.bool false)∧w'=w:=by
 go_enter Tryz.func206,Tryz.ntmps206
 go_wp2
 go_ret
 exact⟨by simp,rfl⟩
theorem So.cmp_Less_int (x y:Int) (w:World):Calls Tryz.prog 171 #[.int .i32 x,.int .i32 y] w fun e w'=>e=.returned (.bool (Sort.ltInt x y))∧w'=w:=by
 go_enter Tryz.func171,Tryz.ntmps171
 go_wp2_with (go_at_call 206;refine (So.cmp_isNaN_int _ _).mono ?_;rintro e w' ⟨rfl,rfl⟩)
 go_ret
 exact⟨rfl,rfl⟩
end
end Go.Proofs.YtikiplbhlohmdaaGreatDoor
namespace Go.Proofs.YtikiplbhlohmdaaGreatDoor
open Go.Sort Go.RowKit
abbrev encI:Int→Value:=fun x=>Value.int .i32 x
theorem swap_world {α:Type} [Inhabited α] (enc:α→Value) {w wr:World} {n blk off:Nat} {dk:Array α} {i j:Nat} (hi:i<dk.size) (hj:j<dk.size) (aa:wr=putRow enc (Sort.ahead w n) blk off dk)
 {x y:Value} (hx:x=enc dk[j]!) (hy:y=enc dk[i]!):((wr.setCell ⟨blk,off+i,none⟩ x).setCell ⟨blk,off+j,none⟩ y).drew=putRow enc (Sort.ahead w (n+1)) blk off (swp dk i j):=by
 subst aa;subst hx;subst hy
 rw[putRow_swp enc _ blk off dk i j hi hj,←ahead_drew]
 rfl
set_option maxHeartbeats 1600000 in
set_option maxRecDepth 1000000 in
theorem So.reverseRange_int (blk off cap:Nat) (d:Array Int) (a b:Nat) (w:World) (hH:Holds encI w blk off d) (aj:a≤b) (hb:b≤d.size) (ak:d.size<4611686018427387904) :
 Calls Tryz.prog 169 #[.slice (some ⟨blk,off,none⟩) d.size cap,.int .i64 a,.int .i64 b] w fun e w'=>e=.returned (.tuple #[])∧∃n,w'=putRow encI (Sort.ahead w n) blk off (reverseRange d a b):=by
 go_enter Tryz.func169,Tryz.ntmps169
 go_wp2
 go_loopg [6,7] (b-a) (fun k s6 s7 wr=>∃(i jn:Nat) (jz:Int) (dk:Array Int) (n:Nat),s6=.int .i64 i∧s7=.int .i64 jz∧((i:Int)<jz→jz=jn∧jn<d.size)∧(¬(i:Int)<jz→¬i<jn)∧jn-i≤k ∧
  dk.size=d.size∧wr=putRow encI (Sort.ahead w n) blk off dk∧reverseLoop i jn dk=reverseLoop a (b-1) d)
 case atStart=>exact⟨a,b-1,(b:Int)-1,d,0,rfl,rfl,fun h=>⟨by omega,by omega⟩,fun h=>by omega,by omega,rfl,(putRow_self encI w blk off d hH).symm,rfl⟩
 case round =>
  obtain⟨i,jn,jz,dk,n,rfl,rfl,h1,h2,hk,ah,af,aa⟩:=hrel
  by_cases hlt:(i:Int)<jz
  · obtain⟨rfl,ai⟩:=h1 hlt
    have hij:i<jn:=by omega
    have ae:Holds encI wr blk off dk:=by rw[af];exact holds_putRow encI _ blk off d dk (holds_ahead encI w n blk off d hH) ah
    obtain⟨ci,fi⟩:=ae i (by omega)
    obtain⟨cj,fj⟩:=ae jn (by omega)
    have A:Aside (wr=putRow encI (Sort.ahead w n) blk off dk):=af
    clear af ae hH h1 h2
    go_wp2_with fail
    go_region
    go_wp2
    go_roundg (jn-1-(i+1))
    case measure=>omega
    case rel =>
     rw[reverseLoop,if_pos hij]at aa
     exact⟨i+1,jn-1,(jn:Int)-1,swp dk i jn,n+1,by simp,rfl,fun h=>⟨by omega,by omega⟩,fun h=>by omega,Nat.le_refl _,by rw[size_swp];exact ah,
      swap_world encI (by omega) (by omega) A.out (by simp[encI,getElem!_pos,show jn<dk.size by omega]) rfl,aa⟩
  · have ag:=h2 hlt
    go_wp2
    go_end0
    refine⟨rfl,n,?_⟩
    rw[reverseLoop,if_neg ag]at aa
    rw[reverseRange,←aa]
end Go.Proofs.YtikiplbhlohmdaaGreatDoor
namespace Go.Sort
variable {α:Type} [Inhabited α] (lt:α→α→Bool)
theorem sd_end {hi F root:Nat} (d:Array α) (h:hi≤2*root+1):siftDown lt hi F root d=d:=by rw[siftDown,dif_pos h]
theorem sd_right_stop {hi F root:Nat} (d:Array α) (h1:2*root+2<hi) (h2:lt d[F+(2*root+1)]! d[F+(2*root+2)]! = true) (h3:lt d[F+root]! d[F+(2*root+2)]! = false):siftDown lt hi F root d=d:=by
 rw[siftDown,dif_neg (by omega),show F+(2*root+1)+1=F+(2*root+2) by omega,h2,h3]
 simp[show 2*root+1+1<hi by omega]
theorem sd_right_go {hi F root:Nat} (d:Array α) (h1:2*root+2<hi) (h2:lt d[F+(2*root+1)]! d[F+(2*root+2)]! = true) (h3:lt d[F+root]! d[F+(2*root+2)]! = true) :
 siftDown lt hi F root d=siftDown lt hi F (2*root+2) (swp d (F+root) (F+(2*root+2))):=by
 rw[siftDown,dif_neg (by omega),show F+(2*root+1)+1=F+(2*root+2) by omega,h2,h3]
 simp[show 2*root+1+1<hi by omega]
theorem sd_left_stop {hi F root:Nat} (d:Array α) (h0:2*root+1<hi) (h1:2*root+2<hi→lt d[F+(2*root+1)]! d[F+(2*root+2)]! = false) (h3:lt d[F+root]! d[F+(2*root+1)]! = false):siftDown lt hi F root d=d:=by
 rw[siftDown,dif_neg (by omega),show F+(2*root+1)+1=F+(2*root+2) by omega,h3]
 by_cases h:2*root+2<hi
 · simp[h1 h]
 · simp[show ¬2*root+1+1<hi by omega]
theorem sd_left_go {hi F root:Nat} (d:Array α) (h0:2*root+1<hi) (h1:2*root+2<hi→lt d[F+(2*root+1)]! d[F+(2*root+2)]! = false) (h3:lt d[F+root]! d[F+(2*root+1)]! = true) :
 siftDown lt hi F root d=siftDown lt hi F (2*root+1) (swp d (F+root) (F+(2*root+1))):=by
 rw[siftDown,dif_neg (by omega),show F+(2*root+1)+1=F+(2*root+2) by omega,h3]
 by_cases h:2*root+2<hi
 · simp[h1 h]
 · simp[show ¬2*root+1+1<hi by omega]
end Go.Sort
namespace Go.Proofs.YtikiplbhlohmdaaGreatDoor
open Go.Sort Go.RowKit
theorem drewN_world {α:Type} [Inhabited α] (enc:α→Value) {w wr:World} {n blk off:Nat} {dk:Array α} (aa:wr=putRow enc (Sort.ahead w n) blk off dk) (m:Nat):wr.drewN m=putRow enc (Sort.ahead w (n+m)) blk off dk:=by
 subst aa
 rw[←ahead_ahead]
 rfl
set_option maxHeartbeats 3200000 in
set_option maxRecDepth 1000000 in
theorem So.siftDown_int (blk off len cap:Nat) (d:Array Int) (hlen:d.size=len) (lo hi first:Nat) (w:World) (hH:Holds encI w blk off d) (ar:lo≤hi) (hb:first+hi≤d.size) (aw:d.size<4611686018427387904) :
 Calls Tryz.prog 201 #[.slice (some ⟨blk,off,none⟩) len cap,.int .i64 lo,.int .i64 hi,.int .i64 first] w fun e w'=>e=.returned (.tuple #[])∧∃n,w'=putRow encI (Sort.ahead w n) blk off (siftDown ltInt hi first lo d):=by
 subst hlen
 go_enter Tryz.func201,Tryz.ntmps201
 go_wp2
 go_loopg [8] (hi-lo) (fun k s8 wr=>∃(root:Nat) (dk:Array Int) (n:Nat),s8=.int .i64 root∧root≤hi∧hi-root≤k∧dk.size=d.size∧wr=putRow encI (Sort.ahead w n) blk off dk∧siftDown ltInt hi first root dk=siftDown ltInt hi first lo d)
 case atStart=>exact⟨lo,d,0,rfl,ar,Nat.le_refl _,rfl,(putRow_self encI w blk off d hH).symm,rfl⟩
 case round =>
  obtain⟨root,dk,n,rfl,hr,hk,ao,aq,ai⟩:=hrel
  have ap:Holds encI wr blk off dk:=by rw[aq];exact holds_putRow encI _ blk off d dk (holds_ahead encI w n blk off d hH) ao
  have aj:∀t,t<d.size→wr.cell? ⟨blk,off+t,none⟩=some (.int .i32 dk[t]!):=fun t ht=>(ap t (by omega)).1
  have ak:∀t,t<d.size→wr.frozen? ⟨blk,off+t,none⟩=false:=fun t ht=>(ap t (by omega)).2
  have A:Aside (wr=putRow encI (Sort.ahead w n) blk off dk):=aq
  clear aq hH ap
  by_cases h0:hi≤2*root+1
  ·
   have au:(hi:Int)≤2*(root:Int)+1:=by omega
   go_wp2
   go_end0
   refine⟨rfl,n,?_⟩
   rw[A.out,←ai,sd_end ltInt dk h0]
  ·
   have au:¬((hi:Int)≤2*(root:Int)+1):=by omega
   by_cases h1:2*root+2<hi
   · have av:2*(root:Int)+1+1<(hi:Int):=by omega
     go_wp2_with fail
     go_big_quiet (first|(go_at_call 171;refine Calls.quiet_of_same (So.cmp_Less_int _ _ _)))
     go_wp2_with fail
     ·
      have hL:ltInt dk[first+2*root+1]! dk[first+2*root+2]! = true:=by assumption
      revert nq;intro aa
      have ae:∀t,t<d.size→(wr.drewN aa).cell? ⟨blk,off+t,none⟩=some (.int .i32 dk[t]!):=aj
      have af:∀t,t<d.size→(wr.drewN aa).frozen? ⟨blk,off+t,none⟩=false:=ak
      have A2:Aside (wr.drewN aa=putRow encI (Sort.ahead w (n+aa)) blk off dk):=drewN_world encI A.out aa
      clear aj ak A
      generalize wr.drewN aa=wr2 at ae af A2 ⊢
      go_big_quiet (first|(go_at_call 171;refine Calls.quiet_of_same (So.cmp_Less_int _ _ _)))
      go_wp2_with fail
      ·
       have hS:ltInt dk[first+root]! dk[first+2*root+2]! = false:=by
        have:(!ltInt dk[first+root]! dk[first+2*root+2]!)=true:=by assumption
        simpa using this
       (try simp only[Exit.inBlock,Exit.then]);refine bodyPost_ret (results_none rfl _ _ _) rfl ?_
       refine⟨rfl,n+aa+nq,?_⟩
       rw[drewN_world encI A2.out nq,←ai,sd_right_stop ltInt dk h1 hL hS]
      ·
       have hG:ltInt dk[first+root]! dk[first+2*root+2]! = true:=by
        have:(!ltInt dk[first+root]! dk[first+2*root+2]!)=false:=by assumption
        simpa using this
       have ah:∀t,t<d.size→(wr2.drewN nq).cell? ⟨blk,off+t,none⟩=some (.int .i32 dk[t]!):=ae
       have ag:∀t,t<d.size→(wr2.drewN nq).frozen? ⟨blk,off+t,none⟩=false:=af
       have A3:Aside (wr2.drewN nq=putRow encI (Sort.ahead w (n+aa+nq)) blk off dk):=drewN_world encI A2.out nq
       clear ae af A2
       generalize wr2.drewN nq=wr3 at ah ag A3 ⊢
       go_region
       go_wp2
       go_roundg (hi-(2*root+2))
       case measure=>omega
       case rel =>
        refine⟨2*root+2,swp dk (first+root) (first+(2*root+1+1)),n+aa+nq+1,by simp <;> omega,by omega,Nat.le_refl _,by rw[size_swp];exact ao,swap_world encI (by omega) (by omega) A3.out rfl rfl,?_⟩
        rw[←ai,sd_right_go ltInt dk h1 hL hG]
     ·
      have hL:ltInt dk[first+2*root+1]! dk[first+2*root+2]! = false:=by assumption
      revert nq;intro aa
      have ae:∀t,t<d.size→(wr.drewN aa).cell? ⟨blk,off+t,none⟩=some (.int .i32 dk[t]!):=aj
      have af:∀t,t<d.size→(wr.drewN aa).frozen? ⟨blk,off+t,none⟩=false:=ak
      have A2:Aside (wr.drewN aa=putRow encI (Sort.ahead w (n+aa)) blk off dk):=drewN_world encI A.out aa
      clear aj ak A
      generalize wr.drewN aa=wr2 at ae af A2 ⊢
      go_big_quiet (first|(go_at_call 171;refine Calls.quiet_of_same (So.cmp_Less_int _ _ _)))
      go_wp2_with fail
      ·
       have hS:ltInt dk[first+root]! dk[first+2*root+1]! = false:=by
        have:(!ltInt dk[first+root]! dk[first+2*root+1]!)=true:=by assumption
        simpa using this
       (try simp only[Exit.inBlock,Exit.then]);refine bodyPost_ret (results_none rfl _ _ _) rfl ?_
       refine⟨rfl,n+aa+nq,?_⟩
       rw[drewN_world encI A2.out nq,←ai,sd_left_stop ltInt dk (by omega) (fun _=>hL) hS]
      ·
       have hG:ltInt dk[first+root]! dk[first+2*root+1]! = true:=by
        have:(!ltInt dk[first+root]! dk[first+2*root+1]!)=false:=by assumption
        simpa using this
       have ah:∀t,t<d.size→(wr2.drewN nq).cell? ⟨blk,off+t,none⟩=some (.int .i32 dk[t]!):=ae
       have ag:∀t,t<d.size→(wr2.drewN nq).frozen? ⟨blk,off+t,none⟩=false:=af
       have A3:Aside (wr2.drewN nq=putRow encI (Sort.ahead w (n+aa+nq)) blk off dk):=drewN_world encI A2.out nq
       clear ae af A2
       generalize wr2.drewN nq=wr3 at ah ag A3 ⊢
       go_region
       go_wp2
       go_roundg (hi-(2*root+1))
       case measure=>omega
       case rel =>
        refine⟨2*root+1,swp dk (first+root) (first+(2*root+1)),n+aa+nq+1,by simp <;> omega,by omega,Nat.le_refl _,by rw[size_swp];exact ao,swap_world encI (by omega) (by omega) A3.out rfl rfl,?_⟩
        rw[←ai,sd_left_go ltInt dk (by omega) (fun _=>hL) hG]
   ·
    have av:decide (2*(root:Int)+1+1<(hi:Int))=false:=decide_eq_false (by omega)
    go_wp2_with fail
    go_big_quiet (first|(go_at_call 171;refine Calls.quiet_of_same (So.cmp_Less_int _ _ _)))
    go_wp2_with fail
    revert nq;intro aa
    have ae:∀t,t<d.size→(wr.drewN aa).cell? ⟨blk,off+t,none⟩=some (.int .i32 dk[t]!):=aj
    have af:∀t,t<d.size→(wr.drewN aa).frozen? ⟨blk,off+t,none⟩=false:=ak
    have A2:Aside (wr.drewN aa=putRow encI (Sort.ahead w (n+aa)) blk off dk):=drewN_world encI A.out aa
    clear aj ak A
    generalize wr.drewN aa=wr2 at ae af A2 ⊢
    go_big_quiet (first|(go_at_call 171;refine Calls.quiet_of_same (So.cmp_Less_int _ _ _)))
    go_wp2_with fail
    ·
     have hS:ltInt dk[first+root]! dk[first+2*root+1]! = false:=by
      have:(!ltInt dk[first+root]! dk[first+2*root+1]!)=true:=by assumption
      simpa using this
     (try simp only[Exit.inBlock,Exit.then]);refine bodyPost_ret (results_none rfl _ _ _) rfl ?_
     refine⟨rfl,n+aa+nq,?_⟩
     rw[drewN_world encI A2.out nq,←ai,sd_left_stop ltInt dk (by omega) (fun h=>absurd h h1) hS]
    ·
     have hG:ltInt dk[first+root]! dk[first+2*root+1]! = true:=by
      have:(!ltInt dk[first+root]! dk[first+2*root+1]!)=false:=by assumption
      simpa using this
     have ah:∀t,t<d.size→(wr2.drewN nq).cell? ⟨blk,off+t,none⟩=some (.int .i32 dk[t]!):=ae
     have ag:∀t,t<d.size→(wr2.drewN nq).frozen? ⟨blk,off+t,none⟩=false:=af
     have A3:Aside (wr2.drewN nq=putRow encI (Sort.ahead w (n+aa+nq)) blk off dk):=drewN_world encI A2.out nq
     clear ae af A2
     generalize wr2.drewN nq=wr3 at ah ag A3 ⊢
     go_region
     go_wp2
     go_roundg (hi-(2*root+1))
     case measure=>omega
     case rel =>
      refine⟨2*root+1,swp dk (first+root) (first+(2*root+1)),n+aa+nq+1,by simp <;> omega,by omega,Nat.le_refl _,by rw[size_swp];exact ao,swap_world encI (by omega) (by omega) A3.out rfl rfl,?_⟩
      rw[←ai,sd_left_go ltInt dk (by omega) (fun h=>absurd h h1) hG]
end Go.Proofs.YtikiplbhlohmdaaGreatDoor
namespace Go.Sort
variable {α:Type} [Inhabited α] (lt:α→α→Bool)
theorem size_siftDown (hi F:Nat):∀(n root:Nat) (d:Array α),hi-root≤n→(siftDown lt hi F root d).size=d.size:=by
 intro n
 induction n with
 | zero=>intro root d h;rw[siftDown,dif_pos (by omega)]
 | succ n ih =>
   intro root d h
   rw[siftDown]
   split
   · rfl
   · split
     · split
       · rfl
       · split
         · rw[ih _ _ (by omega),size_swp]
         · rfl
     · split
       · rfl
       · rw[ih _ _ (by omega),size_swp]
end Go.Sort
namespace Go.Proofs.YtikiplbhlohmdaaGreatDoor
open Go.Sort Go.RowKit
theorem half_start {a b:Nat} (aa:a≤b):((b:Int)-(a:Int)-1).tdiv 2=(((b-a-1)/2+1:Nat):Int)-1:=by
 by_cases h:a=b
 · subst h
   have:((a:Int)-(a:Int)-1) = -1:=by omega
   rw[this]
   simp
 · rw[Int.tdiv_eq_ediv_of_nonneg (by omega)]
   omega
set_option maxHeartbeats 3200000 in
set_option maxRecDepth 1000000 in
theorem So.heapSort_int (blk off len cap:Nat) (d:Array Int) (hlen:d.size=len) (a b:Nat) (w:World) (hH:Holds encI w blk off d) (av:a≤b) (hb:b≤d.size) (a1:d.size<4611686018427387904) :
 Calls Tryz.prog 166 #[.slice (some ⟨blk,off,none⟩) len cap,.int .i64 a,.int .i64 b] w fun e w'=>e=.returned (.tuple #[])∧∃n,w'=putRow encI (Sort.ahead w n) blk off (heapSort ltInt d a b):=by
 subst hlen
 have ae:((b-a:Nat):Int)=(b:Int)-(a:Int):=by omega
 go_enter Tryz.func166,Tryz.ntmps166
 go_wp2
 go_loopg [9] ((b-a-1)/2+1) (fun k s9 wr=>s9=.int .i64 ((k:Int)-1)∧k≤(b-a-1)/2+1∧∃(dk:Array Int) (n:Nat),dk.size=d.size∧wr=putRow encI (Sort.ahead w n) blk off dk ∧
  heapBuild ltInt (b-a) a k dk=heapBuild ltInt (b-a) a ((b-a-1)/2+1) d)
 case atStart=>exact⟨by rw[half_start av],Nat.le_refl _,d,0,rfl,(putRow_self encI w blk off d hH).symm,rfl⟩
 case round =>
  obtain⟨rfl,ar,dk,n,aj,ap,ak⟩:=hrel
  have aq:Holds encI wr blk off dk:=by rw[ap];exact holds_putRow encI _ blk off d dk (holds_ahead encI w n blk off d hH) aj
  have A:Aside (wr=putRow encI (Sort.ahead w n) blk off dk):=ap
  clear ap
  cases gk with
  | zero =>
    have hB:dk=heapBuild ltInt (b-a) a ((b-a-1)/2+1) d:=ak
    clear ak aq ar
    go_wp2
    go_loopg [10] (b-a) (fun k au ax=>au=.int .i64 ((k:Int)-1)∧k≤b-a∧∃(dj:Array Int) (n2:Nat),dj.size=d.size∧ax=putRow encI (Sort.ahead w n2) blk off dj∧heapPop ltInt a k dj=heapPop ltInt a (b-a) dk)
    case atStart=>exact⟨by rw[ae],Nat.le_refl _,dk,n,aj,A.out,rfl⟩
    case round =>
     obtain⟨rfl,ar,dj,n2,af,ag,ah⟩:=hrel
     cases gk with
     | zero =>
       go_wp2
       go_end0
       refine⟨rfl,n2,?_⟩
       have e:dj=heapSort ltInt d a b:=by rw[heapSort,←hB,←ah];rfl
       rw[←e]
     | succ k =>
       have ao:Holds encI wr blk off dj:=by rw[ag];exact holds_putRow encI _ blk off d dj (holds_ahead encI w n2 blk off d hH) af
       have ay:∀t,t<d.size→wr.cell? ⟨blk,off+t,none⟩=some (.int .i32 dj[t]!):=fun t ht=>(ao t (by omega)).1
       have az:∀t,t<d.size→wr.frozen? ⟨blk,off+t,none⟩=false:=fun t ht=>(ao t (by omega)).2
       have A2:Aside (wr=putRow encI (Sort.ahead w n2) blk off dj):=ag
       clear ag ao
       rcases Nat.eq_zero_or_pos k with aw|hkp
       · subst aw
         go_wp2_with fail
         go_region
         go_wp2_with fail
         rw[swap_world encI (i:=a) (j:=a) (by omega) (by omega) A2.out rfl rfl]
         refine (So.siftDown_int blk off d.size cap (swp dj a (a)) (by rw[size_swp];exact af) 0 0 a _ (holds_putRow encI _ blk off d _ (holds_ahead encI w (n2+1) blk off d hH) (by rw[size_swp];exact af)) (Nat.zero_le _) (by rw[size_swp];omega) (by rw[size_swp];omega)).mono ?_
         rintro e w1 ⟨rfl,m,ai⟩
         go_wp2
         go_roundg 0
         case measure=>omega
         case rel =>
          refine⟨by simp,by omega,siftDown ltInt 0 a 0 (swp dj a (a)),n2+1+m,by rw[size_siftDown ltInt _ _ _ _ _ (Nat.le_refl _),size_swp];exact af,?_,ah⟩
          first
           | rw[ai,putRow_ahead_putRow encI w (n2+1) m blk off _ _ (size_siftDown ltInt _ _ _ _ _ (Nat.le_refl _))]
           | rw[putRow_ahead_putRow encI w (n2+1) m blk off _ _ (size_siftDown ltInt _ _ _ _ _ (Nat.le_refl _))]
       · skip
         go_wp2_with fail
         go_region
         go_wp2_with fail
         rw[swap_world encI (i:=a) (j:=a+k) (by omega) (by omega) A2.out rfl rfl]
         refine (So.siftDown_int blk off d.size cap (swp dj a (a+k)) (by rw[size_swp];exact af) 0 k a _ (holds_putRow encI _ blk off d _ (holds_ahead encI w (n2+1) blk off d hH) (by rw[size_swp];exact af)) (Nat.zero_le _) (by rw[size_swp];omega) (by rw[size_swp];omega)).mono ?_
         rintro e w1 ⟨rfl,m,ai⟩
         go_wp2
         go_roundg k
         case measure=>omega
         case rel =>
          refine⟨by simp,by omega,siftDown ltInt k a 0 (swp dj a (a+k)),n2+1+m,by rw[size_siftDown ltInt _ _ _ _ _ (Nat.le_refl _),size_swp];exact af,?_,ah⟩
          first
           | rw[ai,putRow_ahead_putRow encI w (n2+1) m blk off _ _ (size_siftDown ltInt _ _ _ _ _ (Nat.le_refl _))]
           | rw[putRow_ahead_putRow encI w (n2+1) m blk off _ _ (size_siftDown ltInt _ _ _ _ _ (Nat.le_refl _))]
  | succ k =>
    have aa:=So.siftDown_int blk off d.size cap dk aj k (b-a) a wr aq (by omega) (by omega) (by omega)
    rw[ae]at aa
    go_wp2_with (go_at_call 201;refine aa.mono ?_;rintro e w1 ⟨rfl,m,ai⟩)
    go_roundg k
    case measure=>omega
    case rel =>
     refine⟨by simp,by omega,siftDown ltInt (b-a) a k dk,n+m,by rw[size_siftDown ltInt _ _ _ _ _ (Nat.le_refl _)];exact aj,?_,ak⟩
     rw[A.out,putRow_ahead_putRow encI w n m blk off dk _ (size_siftDown ltInt _ _ _ _ _ (Nat.le_refl _))]
end Go.Proofs.YtikiplbhlohmdaaGreatDoor
