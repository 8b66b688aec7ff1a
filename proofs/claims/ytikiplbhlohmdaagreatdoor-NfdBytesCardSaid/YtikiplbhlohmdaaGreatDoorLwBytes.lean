/- The law NfdBytes, by walking its text. -/
import Derived.Test.YtikiplbhlohmdaaGreatDoorNfLaw
import Derived.Test.YtikiplbhlohmdaaGreatDoorSlCut
set_option linter.unusedVariables false
set_option linter.unusedSimpArgs false
namespace Go.Proofs.YtikiplbhlohmdaaGreatDoor
open Go.RowKit
set_option maxRecDepth 100000 in
set_option maxHeartbeats 4000000 in
theorem Nf.nfdBytes_any (w:World) (A XA PA MA:Option Addr) (n c xn xc pn pc mn mc:Nat) (T0:List Rw.Row) (E0 P M:List Int) (hT:Tx.In A XA PA MA n c xn xc pn pc mn mc T0 E0 P M w) (s0:ByteArray) (bs:s0.size≤maxLen) (hL:Nf.Laid w) :
 Calls Tryz.prog 4 #[.agg #[.slice A n c,.slice XA xn xc,.slice PA pn pc,.slice MA mn mc],.string s0] w fun e w'=>e=.returned (.bool true)∧Below w.heap.size w w':=by
 have ag:=Za (fun W (hW:Below w.heap.size w W)=>Tx.made_in A XA PA MA n c xn xc pn pc mn mc T0 E0 P M 1 W (by decide) (hT.below hW) (Rw.Laid.next hL.1 hW))
 have bq:=Za (fun W (hW:Below w.heap.size w W)=>Nf.awake17 W (hL.next hW))
 obtain⟨wa,ay⟩:∃wa,w.alloc (.cells #[.slice A n c,.slice XA xn xc,.slice PA pn pc,.slice MA mn mc] 27)=wa:=⟨_,rfl⟩
 have bl:Below w.heap.size w wa:=by rw[←ay];exact (Zd _ _).alloc (Zb _) _
 have bx:Rw.At wa w.heap.size 27 [.slice A n c,.slice XA xn xc,.slice PA pn pc,.slice MA mn mc]:=by rw[←ay];exact Rw.At.new w 27 [.slice A n c,.slice XA xn xc,.slice PA pn pc,.slice MA mn mc]
 have bo:=Za ay
 have av:=Za bl
 have bm:=Za bx
 have HH:=Za hL.2
 have b9:=Za (fun W=>U.cut_any s0 200 W bs)
 have b1:=Za (cutS_size s0 200)
 clear ay bl bx hT hL bs
 go_enter Tryz.func4,Tryz.ntmps4
 go_upto_region 1 with (fail)
 rw[bo.out]
 go_wp2_with fail
 refine (bq.out wa av.out).mono ?_
 rintro e w1 ⟨rfl,bh⟩
 have aa:=bm.out.below bh
 have bj:=Za (av.out.trans (bh.mono av.out.size))
 have x0:=aa.cell 0 rfl
 have x1:=aa.cell 1 rfl
 have x2:=aa.cell 2 rfl
 have x3:=aa.cell 3 rfl
 have xl:=aa.lt
 clear bh aa
 go_wp2_with fail
 refine (ag.out w1 bj.out).mono ?_
 rintro e w2 ⟨p,v2,T,E,S,l,Al,cl,rfl,a7,aq,hR,ai,bb,b5,ap,bg⟩
 obtain⟨pb,rfl,cc⟩:=a7.form
 obtain⟨A2,c2,XA2,xc2,rfl,ba⟩:=id aq
 obtain⟨n2,aw⟩:∃k,T.length=k:=⟨_,rfl⟩
 obtain⟨xn2,ah⟩:∃k,E.length=k:=⟨_,rfl⟩
 obtain⟨ln,bk⟩:∃k,l.length=k:=⟨_,rfl⟩
 unfold Md.tv at aq ap ⊢
 rw[aw,ah]at aq ⊢
 simp only[aw,ah]at ap
 rw[bk]at ai b5 ap ⊢
 obtain⟨w3,aj⟩:∃w3,w2.alloc (.cells #[.slice A2 n2 c2,.slice XA2 xn2 xc2] 25)=w3:=⟨_,rfl⟩
 have ak:Below w2.heap.size w2 w3:=by rw[←aj];exact (Zd _ _).alloc (Zb _) _
 have ae:Rw.At w3 w2.heap.size 25 [.slice A2 n2 c2,.slice XA2 xn2 xc2]:=by rw[←aj];exact Rw.At.new w2 25 [.slice A2 n2 c2,.slice XA2 xn2 xc2]
 have bz:=Za aj
 have au:=Za (bj.out.trans ((bg.trans (ak.mono bg.size)).mono bj.out.size))
 have b3:=Za ae
 have bc:=Za (a7.below ak)
 have b2:=Za (aq.below ak)
 have b6:=Za (own_below ai ak (Zb _))
 have HR:=Za hR
 have ck:=Za bb
 have cp:=Za bk
 have cn:=Za aw
 have cm:Hid (∀w'',w3.grownBy w'' (Value.slice Al ln cl).ownBlock→Ud.Is w'' (.pointer (some ⟨pb,0,none⟩)) T S∧Md.Doc w'' (.agg #[.slice A2 n2 c2,.slice XA2 xn2 xc2]) T E):=Za fun w'' hg=>ap w'' (Rw.grown_trans (by rw[←aj];exact Yk _ _ _) hg)
 have cq:=Za (fun x (hx:x∈l)=>Tx.isC_i32 (bb x hx))
 have z0:=ae.cell 0 rfl
 have z1:=ae.cell 1 rfl
 have zl:=ae.lt
 clear x0 x1 x2 x3 xl ap aq ba a7 hR ai bb bk aw ah aj ak ae bg ag bq bo av bm
 go_upto_region 4 with (fail)
 rw[bz.out]
 have af:=HR.out.ok
 have a6:=Za (HH.out.next au.out)
 obtain⟨y,hy⟩:∃y,cutS s0 200=y:=⟨_,rfl⟩
 have b8:y.size≤200:=by rw[←hy];exact b1.out
 have a8:Hid (Calls Tryz.prog 14 #[.string s0,.int .i64 200] w3 fun e w'=>e=.returned (.string y)∧w3=w'):=Za (by have:=b9.out w3;rw[hy]at this;exact this)
 obtain⟨cs,r,hd⟩:=U.dec_exists y.data.toList
 have hcs:cs.length≤200:=by
  have h1:=U.encs_len cs
  have h2:y.size=(U.encs cs).length+r.length:=by rw[←ba_len,hd.1,Ze]
  omega
 obtain⟨z,hz⟩:∃z,Nf.tl T cs r=z:=⟨_,rfl⟩
 obtain⟨tn,ao⟩:∃e,Nf.tn T cs r=e:=⟨_,rfl⟩
 have bw:∀c∈z,C.isC c=true:=by
  rw[←hz];unfold Nf.tl
  split
  · exact Nf.chars_isC af hd.2.1
  · simp
 have cb:z.length≤6400:=by
  rw[←hz];unfold Nf.tl
  split
  · have:=Nf.chars_le af cs;omega
  · simp
 obtain⟨m,hm⟩:∃m,z.length=m:=⟨_,rfl⟩
 have bt:Hid (∀W,Below w3.heap.size w3 W→Calls Tryz.prog 12 #[.pointer (some ⟨pb,0,none⟩),.string y] W fun e w'=>e=.returned (.tuple #[.string (U.encS z),.int .i64 tn])∧Below W.heap.size W w'):=Za fun W hW=>by
  have:=Nf.of_any _ T S y W af (bc.out.below hW) (by omega) (a6.out.next hW) cs r hd (by omega)
  rw[hz,ao]at this
  exact this
 have cf:Hid (∀W,Below w3.heap.size w3 W→tn≠0→Calls Tryz.prog 17 #[.pointer (some ⟨pb,0,none⟩),.string y] W fun e w'=>e=.returned (.bool false)∧Below W.heap.size W w'):=Za fun W hW hne=>by
  have:=Nf.is_any _ T S y W af (bc.out.below hW) (by omega) (a6.out.next hW) cs r hd (by omega)
  rw[hz,ao,Zo hne,Xh]at this
  exact this
 have ch:Hid (∀W,Below w3.heap.size w3 W→Calls Tryz.prog 16 #[.pointer (some ⟨pb,0,none⟩),.string y] W fun e w'=>e=.returned (.tuple #[.int .i64 m,.int .i64 tn])∧Below W.heap.size W w'):=Za fun W hW=>by
  have:=Nf.count_any _ T S y W af (bc.out.below hW) (by omega) (a6.out.next hW) cs r hd (by omega)
  rw[hz,ao,hm]at this
  exact this
 have cj:Hid (∀W,Below w3.heap.size w3 W→Calls Tryz.prog 15 #[.agg #[.slice A2 n2 c2,.slice XA2 xn2 xc2],.string y] W fun e w'=>∃A' c',e=.returned (.tuple #[.slice A' m c',.int .i64 tn])∧Sl w' w'.heap.size A' (z.map (Value.int .i64))∧Below W.heap.size W w'):=Za fun W hW=>by
  refine (Nf.rtext_any _ T E y W (by have:=HR.out.tl;omega) af.bd (fun r hr=>by have:=(HR.out.rok r hr).2.2.1;omega) (fun c=>Ud.fullT_le af c) (b2.out.below hW) (by omega) cs r hd (by omega)).mono ?_
  rintro e w' ⟨A',c',rfl,ho,hb⟩
  rw[hz,hm]at ho ⊢
  rw[ao]
  exact⟨A',c',rfl,Sl.of_own ho,hb⟩
 have a1:Hid (∀A' c' W,Sl W W.heap.size A' (z.map (Value.int .i64))→Calls Tryz.prog 13 #[.slice A' m c'] W fun e w'=>e=.returned (.string (U.encS z))∧Below W.heap.size W w'):=Za fun A' c' W hA=>U.rencS_any A' m c' z W hm (by omega) hA bw
 have bi:=Za (Zd w3.heap.size w3)
 obtain⟨sz,bu⟩:∃q,U.encS z=q:=⟨_,rfl⟩
 rw[bu]at bt a1
 have br:tn=0∨tn≠0:=by omega
 have b4:=Za br
 clear af hd hz ao bw cb hm hcs b8 hy z0 z1 zl b6 bu br
 go_wp2_with fail
 refine a8.out.mono ?_
 rintro e w' ⟨rfl,rfl⟩
 go_wp2_with fail
 refine (bt.out w3 bi.out).mono ?_
 rintro e q1 ⟨rfl,hb⟩
 have ax:=Za (bi.out.trans (hb.mono bi.out.size))
 have ht:=b3.out.below ax.out
 have z0:=ht.cell 0 rfl
 have z1:=ht.cell 1 rfl
 have zl:=ht.lt
 clear hb ht
 go_wp2_with fail
 refine (cj.out q1 ax.out).mono ?_
 rintro e q2 ⟨A7,c7,rfl,bp,hb⟩
 have bf:=Za (ax.out.trans (hb.mono ax.out.size))
 have cg:=Za bp
 clear hb bp z0 z1 zl
 go_wp2_with fail
 refine (ch.out q2 bf.out).mono ?_
 rintro e q3 ⟨rfl,hb⟩
 have az:=Za (bf.out.trans (hb.mono bf.out.size))
 have bn:=Za (cg.out.below hb hb.size)
 clear hb
 have e1:(sz.toList == sz.toList)=true:=by rw[U.ba_eq,Zn rfl]
 have e2:(tn == tn)=true:=by simp
 have e3:((m:Int) == m)=true:=by simp
 rcases b4.out with rfl|hne
 · go_wp2_with fail
   refine (a1.out A7 c7 q3 bn.out).mono ?_
   rintro e q4 ⟨rfl,hb⟩
   have ar:=Za (au.out.trans ((az.out.trans (hb.mono az.out.size)).mono au.out.size))
   clear hb
   go_wp2_with fail
   go_ret
   exact⟨by first|rfl|simp,ar.out⟩
 · have e4:(tn == 0)=false:=by simpa using hne
   have cd:=Za hne
   clear hne
   go_wp2_with fail
   refine (a1.out A7 c7 q3 bn.out).mono ?_
   rintro e q4 ⟨rfl,hb⟩
   have ar:=Za (az.out.trans (hb.mono az.out.size))
   clear hb
   go_wp2_with fail
   refine (cf.out q4 ar.out cd.out).mono ?_
   rintro e q5 ⟨rfl,hb⟩
   have b7:=Za (au.out.trans ((ar.out.trans (hb.mono ar.out.size)).mono au.out.size))
   clear hb
   go_wp2_with fail
   go_ret
   exact⟨by first|rfl|simp,b7.out⟩
end Go.Proofs.YtikiplbhlohmdaaGreatDoor
