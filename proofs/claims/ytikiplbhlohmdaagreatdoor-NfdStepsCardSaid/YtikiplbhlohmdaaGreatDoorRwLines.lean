/- strings.SplitSeq at a blank: its contract, by walking its texts. -/
import Derived.Test.YtikiplbhlohmdaaGreatDoorRange
set_option linter.unusedVariables false
set_option linter.unusedSimpArgs false
namespace Go.Proofs.YtikiplbhlohmdaaGreatDoor
open Go.RowKit
attribute [local go_sem] Oper.semAt_some
def Q.bas (l:List (List UInt8)):List ByteArray:=l.map fun x=>⟨x.toArray⟩
def Q.left (b:Nat) (W:World):Nat:=match W.cell? ⟨b,0,none⟩ with|some (.string r)=>r.size|_=>0
theorem Q.left_eq {W:World} {b:Nat} {t:TypeId} {r:ByteArray} (h:Boxed W b t (.string r)):Q.left b W=r.size:=by unfold Q.left;rw[h.cell]
theorem Q.kept {b:Nat} {ks:List Nat} {W W':World} (h:R.Kept ks W W') {t:TypeId} {v:Value} (hb:Boxed W b t v) (hm:b∈ks):Boxed W' b t v:=h b hm _ hb
theorem Q.split_hit {r:ByteArray} {i:Nat} (h:Lib.indexByte r.data.toList 32=i):Q.bas (Fi.spl 32 [] r.data.toList)=r.extract 0 i::Q.bas (Fi.spl 32 [] (r.extract (i+1) r.size).data.toList):=by
 obtain⟨h1,h2⟩:=Fi.idx_hit 32 _ i h
 have hd:(r.extract (i+1) r.size).data.toList=r.data.toList.drop (i+1):=by rw[Lib.extract_data,Zj (by simp)]
 have ht:(r.extract 0 i).data.toList=r.data.toList.take i:=by rw[Lib.extract_data];simp
 rw[hd]
 conv=>lhs;rw[h1]
 rw[Fi.spl_hit 32 _ _ h2]
 unfold Q.bas
 rw[ZT,←ht,Lib.mk_data]
theorem Q.split_miss {r:ByteArray} (h:Lib.indexByte r.data.toList 32 = -1):Q.bas (Fi.spl 32 [] r.data.toList)=[r]:=by
 rw[Fi.spl_miss 32 _ (Fi.idx_miss 32 _ h)]
 unfold Q.bas
 rw[XB,Lib.mk_data]
theorem Q.idx_lt {r:ByteArray} {i:Nat} (h:Lib.indexByte r.data.toList 32=i):i<r.size:=by
 obtain⟨h1,_⟩:=Fi.idx_hit 32 _ i h
 have:=Z4 List.length h1
 have hl:r.data.toList.length=r.size:=by simp
 rw[Ze,ZI,Zq,ZK,hl]at this
 omega
set_option maxRecDepth 100000 in
set_option maxHeartbeats 4000000 in
theorem Q.splitSeq1 (s:ByteArray) (hs:s.size≤1000000) (n b:Nat) (hn:1≤n) (W:World) (h0:Boxed W b 9 (.string s)) (h1:Boxed W (b+1) 9 (.string ⟨#[32]⟩)) (h2:Boxed W (b+2) 3 (.int .i64 0)) :
 R.Seq n Tryz.prog 248 #[.pointer (some ⟨b+1,0,none⟩),.pointer (some ⟨b,0,none⟩),.pointer (some ⟨b+2,0,none⟩)] (fun x:ByteArray => #[Value.string x]) b [b,b+1,b+2]
  (fun xs=>xs=Q.bas (Fi.spl 32 [] s.data.toList)) (fun pre=>pre <+: Q.bas (Fi.spl 32 [] s.data.toList)) (Q.bas (Fi.spl 32 [] s.data.toList)).length W:=fun l J Jx hJ aj hY hj0=>by
 obtain⟨L,hL⟩:∃L,Q.bas (Fi.spl 32 [] s.data.toList)=L:=⟨_,rfl⟩
 rw[hL]at hY ⊢
 have c1:=h1.cell
 refine callsIn_of_wp Tryz.func248 rfl trivial ?_ rfl
 simp only[Tryz.ntmps248,List.size_toArray,ZI,Z6,Nat.reduceAdd,Nat.reduceSub,XK,XL,List.push_toArray,XQ,Z2,ZQ]
 gi_wp2
 gi_loopw [7] (fun _ wr=>∃(pre:List ByteArray) (r:ByteArray),L=pre++Q.bas (Fi.spl 32 [] r.data.toList)∧Boxed wr b 9 (.string r)∧Boxed wr (b+1) 9 (.string ⟨#[32]⟩)∧Boxed wr (b+2) 3 (.int .i64 0)∧J pre wr∧r.size≤s.size)
  (fun _ wr=>Q.left b wr)
 case atStart=>exact⟨[],s,hL.symm,h0,h1,h2,hj0,Zb _⟩
 case round =>
  obtain⟨pre,r,aa,b0,b1,b2,ah,ap⟩:=hrel
  have d0:=b0.cell
  have d1:=b1.cell
  have d2:=b2.cell
  by_cases hidx:Lib.indexByte r.data.toList 32 = -1
  · rw[Q.split_miss hidx]at aa
    obtain⟨fn,tmps,assign,body,hy,hR⟩:=hY pre r wr ah (by rw[aa];simp) (by rw[aa];exact List.prefix_refl _)
    gi_wp2_with (refine⟨trivial,?_⟩;gi_at_call 211;refine (callsIn_wide.2 (Tryz.strings_Index_one r 32 _)).mono ?_;rintro e w1 ⟨rfl,rfl⟩;rw[hidx])
    refine hR.mono ?_
    rintro e W3 (⟨rfl,ag,af⟩|⟨rfl,ae⟩)
    · gi_wp2
      go_end0
      exact⟨⟨_,rfl⟩,.inl ⟨pre++[r],aa.symm,ag⟩⟩
    · gi_wp2
      go_end0
      exact⟨⟨_,rfl⟩,.inr ⟨pre++[r],by rw[aa];exact List.prefix_refl _,ae⟩⟩
  · have hge:=Lib.indexByte_ge r.data.toList 32
    obtain⟨i,hi⟩:∃i:Nat,Lib.indexByte r.data.toList 32=i:=⟨(Lib.indexByte r.data.toList 32).toNat,by omega⟩
    have ao:=Q.idx_lt hi
    rw[Q.split_hit hi]at aa
    obtain⟨x,hx⟩:∃x,r.extract 0 i=x:=⟨_,rfl⟩
    obtain⟨z,hz⟩:∃z,r.extract (i+1) r.size=z:=⟨_,rfl⟩
    rw[hx,hz]at aa
    have ak:z.size=r.size-(i+1):=by rw[←hz,ByteArray.size_extract];omega
    have i0:¬(i:Int)<0:=by omega
    have i1:(0:Int)≤(i:Int):=by omega
    have i2:(i:Int)≤r.size:=by omega
    have i3:(0:Int)≤(i:Int)+1:=by omega
    have i4:(i:Int)+1≤r.size:=by omega
    obtain⟨fn,tmps,assign,body,hy,hR⟩:=hY pre x wr ah (by rw[aa];simp) ⟨_,by rw[aa,Zz];rfl⟩
    have HI:=Za hi
    have HP:=Za aa
    clear hi hidx aa hge
    gi_wp2_with (refine⟨trivial,?_⟩;gi_at_call 211;refine (callsIn_wide.2 (Tryz.strings_Index_one r 32 _)).mono ?_;rintro e w1 ⟨rfl,rfl⟩;rw[HI.out])
    refine hR.mono ?_
    rintro e W3 (⟨rfl,ag,af⟩|⟨rfl,ae⟩)
    · have k0:=Q.kept af b0 (by simp)
      have k1:=Q.kept af b1 (by simp)
      have k2:=Q.kept af b2 (by simp)
      have e0:=k0.cell
      have e1:=k1.cell
      have e2:=k2.cell
      have f0:=k0.frozen
      have ai:=Za ag
      clear af ag
      gi_wp2
      go_roundw
      case rel=>exact⟨pre++[x],z,by rw[HP.out];simp,k0.set _,k1.other (by omega) _,k2.other (by omega) _,hJ _ _ _ _ ai.out (grownBy_setCell' W3 b (.string z)) (fun q e=>by cases e;rfl),by omega⟩
      case measure=>rw[Q.left_eq (k0.set _),Q.left_eq b0];omega
    · gi_wp2
      refine Yl (XM rfl _ _ _) rfl ?_
      exact⟨⟨_,rfl⟩,.inr ⟨pre++[x],⟨_,by rw[HP.out,Zz];rfl⟩,ae⟩⟩
attribute [local go_sem] Oper.semAt_some
def Rw.raw:List UInt8→List UInt8→List (List UInt8)
 | w,[]=>if w=[] then [] else [w]
 | w,b::r=>if b=10 then (w++[10])::Rw.raw [] r else Rw.raw (w++[b]) r
def Rw.trimN (x:List UInt8):List UInt8:=if x.getLast?=some 10 then x.dropLast else x
theorem Rw.raw_app:∀(a w r:List UInt8),(10:UInt8)∉a→Rw.raw w (a++r)=Rw.raw (w++a) r
 | [],w,r,_=>by simp
 | b::a,w,r,h=>by
   have hb:b≠10:=fun e=>h (by rw[e];exact Zv)
   rw[ZQ,Rw.raw,Zl hb,Rw.raw_app a _ r (fun h'=>h (Zx _ h')),Zz]
   rfl
theorem Rw.raw_trim:∀(l w:List UInt8),(10:UInt8)∉w→(Rw.raw w l).map Rw.trimN=Rw.lns w l
 | [],w,h=>by
   unfold Rw.raw Rw.lns
   split
   · rfl
   · rw[XB]
     unfold Rw.trimN
     rw[Zl]
     intro hl
     exact h (List.mem_of_getLast? hl)
 | b::r,w,h=>by
   unfold Rw.raw Rw.lns
   split
   · rw[ZT,Rw.raw_trim r [] (by simp)]
     congr 1
     unfold Rw.trimN
     simp
   · rename_i hb
     exact Rw.raw_trim r _ fun hm=>by
      rcases List.mem_append.1 hm with h1|h1
      · exact h h1
      · rw[ZA]at h1;exact hb h1.symm
def Rw.raws (s:ByteArray):List ByteArray:=(Rw.raw [] s.data.toList).map fun x=>⟨x.toArray⟩
theorem Rw.raws_hit {r:ByteArray} {i:Nat} (h:Lib.indexByte r.data.toList 10=i):Rw.raws r=r.extract 0 (i+1)::Rw.raws (r.extract (i+1) r.size):=by
 obtain⟨h1,h2⟩:=Fi.idx_hit 10 _ i h
 have hd:(r.extract (i+1) r.size).data.toList=r.data.toList.drop (i+1):=by rw[Lib.extract_data,Zj (by simp)]
 have hl:i<r.data.toList.length:=by
  have:=Z4 List.length h1
  rw[Ze,ZI,Zq,ZK]at this
  omega
 have hg:r.data.toList[i]=10:=by
  have e:=Z4 (·[i]?) h1
  simp only[Zc hl]at e
  rw[ZL (by rw[Zq];omega),Zq,XT (by omega),Yv]at e
  simpa using e
 have ht:(r.extract 0 (i+1)).data.toList=r.data.toList.take i++[10]:=by
  rw[Lib.extract_data,XW,Nat.sub_zero,YE hl,hg]
 unfold Rw.raws
 rw[hd]
 conv=>lhs;rw[h1]
 rw[Rw.raw_app _ _ _ h2,Z2,Rw.raw,Zp rfl,ZT,←ht,Lib.mk_data]
theorem Rw.raws_miss {r:ByteArray} (h:Lib.indexByte r.data.toList 10 = -1) (h0:0<r.size):Rw.raws r=[r]:=by
 have hne:r.data.toList≠[]:=fun e=>by
  have:r.data.toList.length=r.size:=by simp
  rw[e,Z6]at this;omega
 have:=Rw.raw_app r.data.toList [] [] (Fi.idx_miss 10 _ h)
 rw[Yc,Z2,Rw.raw,Zl hne]at this
 unfold Rw.raws
 rw[this,XB,Lib.mk_data]
theorem Rw.raws_none {r:ByteArray} (h0:r.size=0):Rw.raws r=[]:=by
 have:r.data.toList=[]:=List.eq_nil_of_length_eq_zero (by simpa using h0)
 unfold Rw.raws
 rw[this]
 rfl
theorem Rw.idx_lt {r:ByteArray} {c:UInt8} {i:Nat} (h:Lib.indexByte r.data.toList c=i):i<r.size:=by
 obtain⟨h1,_⟩:=Fi.idx_hit c _ i h
 have:=Z4 List.length h1
 have hl:r.data.toList.length=r.size:=by simp
 rw[Ze,ZI,Zq,ZK,hl]at this
 omega
theorem Rw.grown_drew {W W':World} {row:Option Nat} (h:W.grownBy W' row):W.grownBy W'.drew row:=⟨h.os,h.tape,h.output,h.size,h.block⟩
theorem Rw.idx10 (r:ByteArray) (w:World):Calls Tryz.prog 137 #[.string r,.int .u8 10] w fun e w'=>e=.returned (.int .i64 (Lib.indexByte r.data.toList 10))∧w'=w :=
 Tryz.strings_IndexByte r 10 w
set_option maxRecDepth 100000 in
set_option maxHeartbeats 4000000 in
theorem Rw.linesSeq1 (s:ByteArray) (hs:s.size≤1000000000) (n b:Nat) (hn:1≤n) (W:World) (h0:Boxed W b 9 (.string s)) :
 R.Seq n Tryz.prog 136 #[.pointer (some ⟨b,0,none⟩)] (fun x:ByteArray => #[Value.string x]) b [b]
  (fun xs=>xs=Rw.raws s) (fun pre=>pre <+: Rw.raws s) (Rw.raws s).length W:=fun l J Jx hJ ap hY hj0=>by
 obtain⟨L,hL⟩:∃L,Rw.raws s=L:=⟨_,rfl⟩
 rw[hL]at hY ⊢
 have c1:=h0.cell
 refine callsIn_of_wp Tryz.func136 rfl trivial ?_ rfl
 simp only[Tryz.ntmps136,List.size_toArray,ZI,Z6,Nat.reduceAdd,Nat.reduceSub,XK,XL,List.push_toArray,XQ,Z2,ZQ]
 gi_wp2
 gi_loopw [3] (fun _ wr=>∃(pre:List ByteArray) (r:ByteArray),L=pre++Rw.raws r∧Boxed wr b 9 (.string r)∧J pre wr∧r.size≤s.size)
  (fun _ wr=>Q.left b wr)
 case atStart=>exact⟨[],s,hL.symm,h0,hj0,Zb _⟩
 case round =>
  obtain⟨pre,r,aa,b0,af,au⟩:=hrel
  have d0:=b0.cell
  have ao:=b0.frozen
  by_cases hr0:r.size=0
  · rw[Rw.raws_none hr0,Yc]at aa
    have hz:¬(0:Int)<(r.size:Int):=by omega
    have HP:=Za aa
    clear aa hr0
    gi_wp2
    go_end0
    refine⟨⟨_,rfl⟩,.inl ?_⟩
    rw[HP.out]
    first|exact af|exact⟨pre,rfl,af⟩
  have hz:(0:Int)<(r.size:Int):=by omega
  by_cases hidx:Lib.indexByte r.data.toList 10 = -1
  · rw[Rw.raws_miss hidx (by omega)]at aa
    have hm:¬(0:Int) ≤ -1:=by decide
    obtain⟨U,hU⟩:∃U,wr.setCell ⟨b,0,none⟩ (.string ⟨#[]⟩)=U:=⟨_,rfl⟩
    have ag:J pre U:=by rw[←hU];exact hJ _ _ _ _ af (grownBy_setCell' wr b (.string ⟨#[]⟩)) (fun q e=>by cases e;rfl)
    have bU:Boxed U b 9 (.string ⟨#[]⟩):=by rw[←hU];exact b0.set _
    obtain⟨fn,tmps,assign,body,hy,hR⟩:=hY pre r U ag (by rw[aa];simp) (by rw[aa];exact List.prefix_refl _)
    have HU:=Za hU
    have HP:=Za aa
    have HI:=Za hidx
    clear aa hU hidx
    gi_wp2_with (first|(refine⟨trivial,?_⟩;gi_at_call 137;refine (callsIn_wide.2 (Rw.idx10 _ _)).mono ?_;rintro e w1 ⟨rfl,rfl⟩;rw[HI.out])|fail)
    rw[HU.out]
    rw[hy]
    gi_wp2
    refine hR.mono ?_
    rintro e W3 (⟨rfl,ai,ah⟩|⟨rfl,ae⟩)
    · have k0:=Q.kept ah bU (by simp)
      gi_wp2
      go_roundw
      case rel=>exact⟨pre++[r],⟨#[]⟩,by rw[HP.out,Rw.raws_none rfl,Yc],k0,ai,ZE _⟩
      case measure=>rw[Q.left_eq k0,Q.left_eq b0];show (0:Nat)<r.size;omega
    · gi_wp2
      refine Yl (XM rfl _ _ _) rfl ?_
      exact⟨⟨_,rfl⟩,.inr ⟨pre++[r],by rw[HP.out];exact List.prefix_refl _,ae⟩⟩
  · have hge:=Lib.indexByte_ge r.data.toList 10
    obtain⟨i,hi⟩:∃i:Nat,Lib.indexByte r.data.toList 10=i:=⟨(Lib.indexByte r.data.toList 10).toNat,by omega⟩
    have ar:=Rw.idx_lt hi
    rw[Rw.raws_hit hi]at aa
    obtain⟨x,hx⟩:∃x,r.extract 0 (i+1)=x:=⟨_,rfl⟩
    obtain⟨z,aj⟩:∃z,r.extract (i+1) r.size=z:=⟨_,rfl⟩
    rw[hx,aj]at aa
    have aq:z.size=r.size-(i+1):=by rw[←aj,ByteArray.size_extract];omega
    have i0:¬(i:Int)<0:=by omega
    have i1:(0:Int)≤(i:Int):=by omega
    have i2:(i:Int)≤r.size:=by omega
    have i3:(0:Int)≤(i:Int)+1:=by omega
    have i4:(i:Int)+1≤r.size:=by omega
    obtain⟨U,hU⟩:∃U,(wr.setCell ⟨b,0,none⟩ (.string z)).drew=U:=⟨_,rfl⟩
    have ak:wr.grownBy U (some b):=by rw[←hU];exact Rw.grown_drew (grownBy_setCell' wr b (.string z))
    have ag:J pre U:=hJ _ _ _ _ af ak (fun q e=>by cases e;rfl)
    have bU:Boxed U b 9 (.string z):=by rw[←hU];exact b0.set _
    obtain⟨fn,tmps,assign,body,hy,hR⟩:=hY pre x U ag (by rw[aa];simp) ⟨_,by rw[aa,Zz];rfl⟩
    have HU:=Za hU
    have HY:=Za hy
    clear hU ak hy
    have HI:=Za hi
    have HP:=Za aa
    clear hi hidx aa hge
    gi_wp2_with (first|(refine⟨trivial,?_⟩;gi_at_call 137;refine (callsIn_wide.2 (Rw.idx10 _ _)).mono ?_;rintro e w1 ⟨rfl,rfl⟩;rw[HI.out])|fail)
    gi_region
    gi_wp2
    rw[HU.out,HY.out]
    gi_wp2
    refine hR.mono ?_
    rintro e W3 (⟨rfl,ai,ah⟩|⟨rfl,ae⟩)
    · have k0:=Q.kept ah bU (by simp)
      gi_wp2
      go_roundw
      case rel=>exact⟨pre++[x],z,by rw[HP.out];simp,k0,ai,by omega⟩
      case measure=>rw[Q.left_eq k0,Q.left_eq b0];omega
    · gi_wp2
      refine Yl (XM rfl _ _ _) rfl ?_
      exact⟨⟨_,rfl⟩,.inr ⟨pre++[x],⟨_,by rw[HP.out,Zz];rfl⟩,ae⟩⟩
theorem Rw.lines0_any (s:ByteArray) (w:World) :
 Calls Tryz.prog 107 #[.string s] w fun e w'=>e=.returned (.func (.func 136) #[] #[.pointer (some ⟨w.heap.size,0,none⟩)])∧w'=w.alloc (.cells #[.string s] 9):=by
 go_enter Tryz.func107,Tryz.ntmps107
 go_wp2
 go_ret
 exact⟨rfl,rfl⟩
attribute [local go_sem] Oper.semAt_some
theorem Rw.infoStr:(Tryz.prog.info? 9).map (fun i=>(i.zero,i.size,i.bytes))=some (some (.string ByteArray.empty),1,16):=by kernel_rfl
set_option maxHeartbeats 4000000 in
theorem Rw.plain_any (s:ByteArray) (hs:s.size≤1000000000) (hp:Rw.plainL s.data.toList=true) (w:World) :
 Calls Tryz.prog 109 #[.string s] w fun e w'=>e=.returned (.bool true)∧w'=w:=by
 have hb:∀k (h:k<s.size),32≤s[k].toNat∧s[k].toNat≤126:=by
  intro k h
  unfold Rw.plainL at hp
  rw[Yh]at hp
  have:=hp s[k] (by
   rw[show s[k]=s.data.toList[k]'(by simpa using h) from rfl]
   exact List.getElem_mem _)
  rw[ZB,Zm,Zm]at this
  exact this
 go_enter Tryz.func109,Tryz.ntmps109
 go_wp2
 go_loop [6] (fun i=>∃k:Nat,k≤s.size∧i=.int .i64 k) (fun i=>s.size-(intOf i).toNat)
 case atStart=>exact⟨0,ZE _,rfl⟩
 case round =>
  obtain⟨k,hk,rfl⟩:=hrel
  by_cases hlt:k<s.size
  · obtain⟨h1,h2⟩:=hb k hlt
    have ae:¬((s[k].toNat:Int)<32):=by omega
    have aa:¬((126:Int)<(s[k].toNat:Int)):=by omega
    go_wp2
    exact⟨⟨k+1,by omega,by go_num⟩,by simp[intOf];omega⟩
  · go_wp2
    go_ret
    exact⟨rfl,rfl⟩
def Rw.cutN (x:ByteArray):ByteArray:=⟨(Rw.trimN x.data.toList).toArray⟩
def Rw.strs (l:List ByteArray):List Value:=l.map fun x=>Value.string (Rw.cutN x)
def Rw.RetLines (L:List (List UInt8)) (w:World) (e:Ending) (w':World):Prop :=
 ∃A c,e=.returned (.tuple #[.slice A L.length c,.nilIface])∧Sl w' w'.heap.size A (L.map fun x=>Value.string ⟨x.toArray⟩)∧Below w.heap.size w w'
def Rw.RetL (L:List ByteArray) (w:World) (e:Ending) (w':World):Prop :=
 ∃A c,e=.returned (.tuple #[.slice A L.length c,.nilIface])∧Sl w' w'.heap.size A (Rw.strs L)∧Below w.heap.size w w'
theorem Rw.trim_eq (x:List UInt8):Lib.trimSuffix x [10]=Rw.trimN x:=by
 unfold Lib.trimSuffix Lib.hasSuffix Rw.trimN
 rcases YL x with rfl|⟨m,b,rfl⟩
 · simp
 · rw[YM]
   simp only[List.getLast?_append,List.getLast?_singleton,List.dropLast_concat,Option.or_some,Zi,List.isSuffixOf_iff_suffix,Ze,Yu,Xj,List.take_left]
   by_cases hb:b=10
   · subst hb
     simp
   · have h:¬([10] <:+ m++[b]):=by
      rintro⟨t,ht⟩
      have:=Z4 List.getLast? ht
      simp at this
      exact hb this.symm
     simp[hb,h]
theorem Rw.trim_any (x:ByteArray) (hx:x.size≤1000000000) (w:World):Calls Tryz.prog 108 #[.string x,.string ⟨#[10]⟩] w fun e w'=>e=.returned (.string (Rw.cutN x))∧w'=w:=by
 have h:=Tryz.strings_TrimSuffix x ⟨#[10]⟩ w (by omega)
 rw[show (⟨#[10]⟩:ByteArray).data.toList=[10] from rfl,Rw.trim_eq]at h
 exact h
theorem Rw.raw_sum:∀(l w:List UInt8),∀x∈Rw.raw w l,x.length≤w.length+l.length
 | [],w,x,h=>by
   unfold Rw.raw at h
   split at h
   · cases h
   · rw[ZA]at h;subst h;simp
 | b::r,w,x,h=>by
   unfold Rw.raw at h
   split at h
   · rcases List.mem_cons.1 h with rfl|h
     · simp
     · have:=Rw.raw_sum r [] x h;simp at this ⊢;omega
   · have:=Rw.raw_sum r _ x h;simp at this ⊢;omega
theorem Rw.raws_size (s:ByteArray) (x:ByteArray) (h:x∈Rw.raws s):x.size≤s.size:=by
 unfold Rw.raws at h
 obtain⟨y,hy,rfl⟩:=List.mem_map.1 h
 have:=Rw.raw_sum s.data.toList [] y hy
 have e:s.data.toList.length=s.size:=by simp
 show y.toArray.size≤s.size
 simp at this ⊢
 exact this
theorem Rw.raws_len (s:ByteArray):(Rw.raws s).length≤s.size+1:=by
 have h1:=Z4 List.length (Rw.raw_trim s.data.toList [] (by simp))
 have h2:=Rw.lns_len s.data.toList []
 have e:s.data.toList.length=s.size:=by simp
 unfold Rw.raws
 rw[Zg]at h1 ⊢
 omega
set_option maxRecDepth 100000 in
set_option maxHeartbeats 4000000 in
theorem Rw.linesL_any (s:ByteArray) (hs:s.size≤1000000) (ak:∀x∈Rw.raws s,(Rw.cutN x).size≤1000∧Rw.plainL (Rw.cutN x).data.toList=true) (w:World) :
 Calls Tryz.prog 83 #[.string s] w (Rw.RetL (Rw.raws s) w):=by
 obtain⟨i0,hi,au,av,ax⟩:=Z7 Rw.infoStr
 have ah:=Rw.raws_size s
 have ai:=Rw.raws_len s
 refine (callsIn_wide (n:=5)).1 ?_
 refine callsIn_of_wp_marks Tryz.func83 rfl trivial ?_ rfl
 simp only[Tryz.ntmps83,List.size_toArray,ZI,Z6,Nat.reduceAdd,Nat.reduceSub,XK,XL,List.push_toArray,XQ,Z2,ZQ]
 gi_wp2_with (refine⟨trivial,?_⟩;gi_at_call 107;refine (callsIn_wide.2 (Rw.lines0_any s _)).mono ?_;rintro e w1 ⟨rfl,ae⟩;have HW:=Za ae;clear ae)
 have ae:=HW.out
 have bg:w1.heap.size=w.heap.size+4:=by rw[ae];simp
 have q2:Boxed w1 w.heap.size 148 (.slice none 0 0):=by
  rw[ae]
  exact (((Boxed.new w 148 (.slice none 0 0)).alloc _).alloc _).alloc _
 have q3:Boxed w1 (w.heap.size+1) 70 (.nilIface):=by
  have h:=Boxed.new (w.alloc (.cells #[.slice none 0 0] 148)) 70 (.nilIface)
  rw[ZH]at h
  rw[ae]
  exact (h.alloc _).alloc _
 have q4:Boxed w1 (w.heap.size+1+1) 148 (.slice none 0 0):=by
  have h:=Boxed.new ((w.alloc (.cells #[.slice none 0 0] 148)).alloc (.cells #[.nilIface] 70)) 148 (.slice none 0 0)
  rw[ZH,ZH]at h
  rw[ae]
  exact h.alloc _
 have q5:Boxed w1 (w.heap.size+1+1+1) 9 (.string s):=by
  have h:=Boxed.new (((w.alloc (.cells #[.slice none 0 0] 148)).alloc (.cells #[.nilIface] 70)).alloc (.cells #[.slice none 0 0] 148)) 9 (.string s)
  rw[ZH,ZH,ZH]at h
  rw[ae]
  exact h
 have ba:Below w.heap.size w w1:=by
  rw[ae]
  exact ((((Zd _ w).alloc (by simp) _).alloc (by simp) _).alloc (by simp;omega) _).alloc (by simp;omega) _
 clear ae HW
 obtain⟨L,hL⟩:∃L,Rw.raws s=L:=⟨_,rfl⟩
 obtain⟨D,hD⟩:∃D,w1.heap.size=D:=⟨_,rfl⟩
 have ag:=fun (W:World) (hW:Below w1.heap.size w1 W)=>Rw.linesSeq1 s (by omega) (5-1) (w.heap.size+1+1+1) (by omega) W ((hW.block _ (by omega)).trans q5)
 rw[hL]at ag ah ai ak ⊢
 refine R.range (n:=5) (by omega) (gf:=136) (lb := #[.pointer (some ⟨w.heap.size+1+1+1,0,none⟩)]) rfl (enters_of Tryz.func136 (by kernel_rfl) rfl)
  (b:=w.heap.size+1+1+1) (by omega) (ks:=[w.heap.size+1+1+1]) (by simp;omega) ag (fun _=>rfl)
  (fun pre W=>(∃v,Boxed W (w.heap.size+1+1) 148 v∧W.ownsRow D 9 1 v pre.length (Rw.strs pre))∧Boxed W w.heap.size 148 (.slice none 0 0)∧Boxed W (w.heap.size+1) 70 (.nilIface)∧Below w.heap.size w W∧D≤W.heap.size)
  (fun c pre W=>False)
  (by
    rintro pre X Y row ⟨⟨v,a2,a3⟩,a4,a5,a6,a7⟩ hg hr
    exact⟨⟨v,R.box_kept a2 hg hr (by omega),R.own_kept a3 hg hr (by omega)⟩,R.box_kept a4 hg hr (by omega),R.box_kept a5 hg hr (by omega),R.below_kept a6 a6.size hg hr (by omega) (by omega),Zh a7 hg.size⟩)
  (fun c pre X Y row h _ _=>h)
  ⟨⟨_,q4,ZC _ _ _ _⟩,q2,q3,ba,by omega⟩
  (fun x=>{ tmps := #[.string s,undef,.pointer (some ⟨w.heap.size,0,none⟩),.pointer (some ⟨w.heap.size+1,0,none⟩),.pointer (some ⟨w.heap.size+1+1,0,none⟩),.string x,undef,.string s,
    .func (.func 136) #[] #[.pointer (some ⟨w.heap.size+1+1+1,0,none⟩)],.string x,undef,undef,undef,undef,undef,undef,undef,undef,undef,undef,undef,undef,undef,undef,undef,undef,undef,undef,undef,undef,undef,undef],defers:=[] }) ?assign ?body ?done ?stop
 case assign =>
  intro l x W K hK
  gi_wp2
  exact hK
 case body =>
  rintro l pre x W ⟨⟨v,hv,aa⟩,h2,h3,hB,ao⟩ hlen aw
  rw[hD]
  have ar:x∈L:=by
   obtain⟨t,rfl⟩:=aw
   simp
  obtain⟨ay,ap⟩:=ak x ar
  have bf:=ah x ar
  have hT:=Rw.trim_any x (by omega)
  obtain⟨y,hy⟩:∃y,Rw.cutN x=y:=⟨_,rfl⟩
  rw[hy]at ay ap
  simp only[hy]at hT
  have hP:=Rw.plain_any y (by omega) ap
  have hc:=hv.cell
  have bh:¬(1000:Int)<(y.size:Int):=by omega
  have HY:=Za hy
  clear hy ap
  gi_wp2_with first
   | (refine⟨trivial,?_⟩;gi_at_call 108;refine (CallsIn.inRound l (callsIn_wide.2 (hT _))).mono ?_;rintro e w2 ⟨rfl,az⟩;subst w2)
   | (refine⟨trivial,?_⟩;gi_at_call 109;refine (CallsIn.inRound l (callsIn_wide.2 (hP _))).mono ?_;rintro e w2 ⟨rfl,az⟩;subst w2)
   | (gi_at_builtin;refine wpListIn_append_own _ rfl _ _ 148 rfl D 9 i0 (.string ByteArray.empty) 1 16 Tryz.underlying148 hi au av ax rfl (by decide) _ _ _ rfl (aa.alloc _) ⟨W.heap.size,0,none⟩ 1 1 [.string y] rfl rfl (cell_one_new _ _ _) (by simp[Value.oneCell']) (by simp only[maxLen];omega) (by omega) (by simp;omega) ?_;intro v' w3 af aj _;obtain⟨g',a1,rfl⟩:=ownsRow_succ af;obtain⟨g1,g2,g3,g4,g5,g6,g7⟩:=R.appended (n₀:=w.heap.size) (ks:=[w.heap.size+1+1+1]) hv (by decide) aa ao (by omega) (by omega) (by simp;omega) af aj;have bb:=g1.cell;have bc:=g1.frozen)
   | fail
  exact⟨g4,g5,⟨_,g2,by rw[Ze,show Rw.strs (pre++[x])=Rw.strs pre++[Value.string y] by simp[Rw.strs,HY.out]];exact g3⟩,g7 _ _ _ (by omega) (by omega) h2,g7 _ _ _ (by omega) (by omega) h3,hB.trans g6,Zh ao g4.size⟩
 case done =>
  rintro E ys W hE rfl ⟨⟨v,hv,aa⟩,h2,h3,hB,ao⟩ hK
  have hc:=hv.cell
  have c2:=h2.cell
  have f2:=h2.frozen
  have c3:=h3.cell
  have f3:=h3.frozen
  obtain⟨A,cp,rfl⟩:=own_form aa
  gi_wp2
  have r1:=aa.kept (grownBy_setCell' W w.heap.size (.slice A ys.length cp)) (.inr (h2.not_row (by decide) aa).symm)
  have aq:=h3.other (show w.heap.size+1≠w.heap.size by omega) (.slice A ys.length cp)
  have r2:=r1.kept (grownBy_setCell' _ (w.heap.size+1) (.nilIface)) (.inr (aq.not_row (by decide) r1).symm)
  have b2:=(h2.set (.slice A ys.length cp)).other (show w.heap.size≠w.heap.size+1 by omega) (.nilIface)
  have b3:=aq.set (.nilIface)
  have hK':((W.setCell ⟨w.heap.size,0,none⟩ (.slice A ys.length cp)).setCell ⟨w.heap.size+1,0,none⟩ (.nilIface)).heap[E]?=some (.deferred (some [])) :=
   (Ym _ _ _ E (by show E≠w.heap.size+1;omega)).trans ((Ym _ _ _ E (by show E≠w.heap.size;omega)).trans hK)
  have k1:=(hB.setCell (p:=⟨w.heap.size,0,none⟩) (Zb _) (.slice A ys.length cp)).setCell (p:=⟨w.heap.size+1,0,none⟩) (by show w.heap.size≤w.heap.size+1;omega) (.nilIface)
  obtain⟨X,hX⟩:∃X,(W.setCell ⟨w.heap.size,0,none⟩ (.slice A ys.length cp)).setCell ⟨w.heap.size+1,0,none⟩ (.nilIface)=X:=⟨_,rfl⟩
  rw[hX]at r2 b2 b3 hK' k1 ⊢
  have e2:=cell_kept b2.cell (grownBy_putObj' X E (.deferred none)) (fun r e=>by cases e;exact⟨_,hK',rfl⟩)
  have e3:=cell_kept b3.cell (grownBy_putObj' X E (.deferred none)) (fun r e=>by cases e;exact⟨_,hK',rfl⟩)
  refine⟨by simp,.inl ⟨_,_,rfl,run_takeDeferred hK',?_⟩⟩
  refine⟨.tuple #[.slice A ys.length cp,.nilIface],?_,?_⟩
  · simp[results,Tryz.f83,go_sem,e2,e3]
  · rw[hL]
    exact⟨A,cp,rfl,Sl.of_own (ownsRow_putObj r2 _ hK' rfl),k1.trans (belowK_b (w:=w) (Zb _) X E _ _ (by omega) hK' rfl rfl)⟩
 case stop =>
  rintro E c pre W hE a8 h hK
  exact h.elim
theorem Rw.lines_any (s:ByteArray) (hs:s.size≤1000000) (ag:(Rw.lns [] s.data.toList).all Rw.okl=true) (w:World) :
 Calls Tryz.prog 83 #[.string s] w (Rw.RetLines (Rw.lns [] s.data.toList) w):=by
 have af:=Rw.raw_trim s.data.toList [] (by simp)
 have ae:∀x∈Rw.raws s,(Rw.cutN x).size≤1000∧Rw.plainL (Rw.cutN x).data.toList=true:=by
  intro x hx
  unfold Rw.raws at hx
  obtain⟨y,hy,rfl⟩:=List.mem_map.1 hx
  have hm:Rw.trimN y∈Rw.lns [] s.data.toList:=by rw[←af];exact List.mem_map_of_mem hy
  rw[Yh]at ag
  have:=ag _ hm
  unfold Rw.okl at this
  rw[ZB,Zm]at this
  exact⟨by show (Rw.trimN y).toArray.size≤1000;simpa using this.1,this.2⟩
 have aa:(Rw.lns [] s.data.toList).map (fun x=>Value.string ⟨x.toArray⟩)=Rw.strs (Rw.raws s)∧(Rw.lns [] s.data.toList).length=(Rw.raws s).length:=by
  rw[←af]
  unfold Rw.strs Rw.raws
  rw[Xc,Xc]
  exact⟨rfl,by simp⟩
 refine (Rw.linesL_any s hs ae w).mono ?_
 rintro e w' ⟨A,c,rfl,h1,h2⟩
 exact⟨A,c,by rw[aa.2],by rw[aa.1];exact h1,h2⟩
end Go.Proofs.YtikiplbhlohmdaaGreatDoor
