/- The law NfdCounts, by walking its text. -/
import Derived.Test.YtikiplbhlohmdaaGreatDoorNfLaw
import Derived.Test.YtikiplbhlohmdaaGreatDoorSlCut
set_option linter.unusedVariables false
set_option linter.unusedSimpArgs false
namespace Go.Proofs.YtikiplbhlohmdaaGreatDoor
open Go.RowKit
set_option maxRecDepth 100000 in
set_option maxHeartbeats 4000000 in
theorem Nf.nfdCounts_any (w:World) (A XA PA MA:Option Addr) (n c xn xc pn pc mn mc:Nat) (T0:List Rw.Row) (E0 P M:List Int) (hT:Tx.In A XA PA MA n c xn xc pn pc mn mc T0 E0 P M w) (at':Int) (dk : -9223372036854775808≤at') (c8:at'≤9223372036854775807) (hL:Nf.Laid w) :
 Calls Tryz.prog 6 #[.agg #[.slice A n c,.slice XA xn xc,.slice PA pn pc,.slice MA mn mc],.int .i64 at'] w fun e w'=>e=.returned (.bool true)∧Below w.heap.size w w':=by
 have a1:=Za (fun W (hW:Below w.heap.size w W)=>Tx.made_in A XA PA MA n c xn xc pn pc mn mc T0 E0 P M 30 W (by decide) (hT.below hW) (Rw.Laid.next hL.1 hW))
 have cn:=Za (fun W (hW:Below w.heap.size w W)=>Nf.awake17 W (hL.next hW))
 obtain⟨wa,bs⟩:∃wa,w.alloc (.cells #[.slice A n c,.slice XA xn xc,.slice PA pn pc,.slice MA mn mc] 27)=wa:=⟨_,rfl⟩
 have cg:Below w.heap.size w wa:=by rw[←bs];exact (Zd _ _).alloc (Zb _) _
 have cp:Rw.At wa w.heap.size 27 [.slice A n c,.slice XA xn xc,.slice PA pn pc,.slice MA mn mc]:=by rw[←bs];exact Rw.At.new w 27 [.slice A n c,.slice XA xn xc,.slice PA pn pc,.slice MA mn mc]
 have ck:=Za bs
 have bq:=Za cg
 have cj:=Za cp
 have HH:=Za hL.2
 clear bs cg cp hT hL
 go_enter Tryz.func6,Tryz.ntmps6
 go_upto_region 1 with (fail)
 rw[ck.out]
 go_wp2_with fail
 refine (cn.out wa bq.out).mono ?_
 rintro e w1 ⟨rfl,b5⟩
 have af:=cj.out.below b5
 have b7:=Za (bq.out.trans (b5.mono bq.out.size))
 have x0:=af.cell 0 rfl
 have x1:=af.cell 1 rfl
 have x2:=af.cell 2 rfl
 have x3:=af.cell 3 rfl
 have xl:=af.lt
 clear b5 af
 go_wp2_with fail
 refine (a1.out w1 b7.out).mono ?_
 rintro e w2 ⟨p,v2,T,E,S,l,Al,cl,rfl,bt,bk,hR,a8,b2,cv,bh,b4⟩
 obtain⟨pb,rfl,cw⟩:=bt.form
 obtain⟨A2,c2,XA2,xc2,rfl,bx⟩:=id bk
 obtain⟨n2,br⟩:∃k,T.length=k:=⟨_,rfl⟩
 obtain⟨xn2,a7⟩:∃k,E.length=k:=⟨_,rfl⟩
 obtain⟨ln,cc⟩:∃k,l.length=k:=⟨_,rfl⟩
 unfold Md.tv at bk bh ⊢
 rw[br,a7]at bk ⊢
 simp only[br,a7]at bh
 rw[cc]at a8 cv bh ⊢
 obtain⟨w3,bc⟩:∃w3,w2.alloc (.cells #[.slice A2 n2 c2,.slice XA2 xn2 xc2] 25)=w3:=⟨_,rfl⟩
 have bf:Below w2.heap.size w2 w3:=by rw[←bc];exact (Zd _ _).alloc (Zb _) _
 have ao:Rw.At w3 w2.heap.size 25 [.slice A2 n2 c2,.slice XA2 xn2 xc2]:=by rw[←bc];exact Rw.At.new w2 25 [.slice A2 n2 c2,.slice XA2 xn2 xc2]
 have cq:=Za bc
 have ba:=Za (b7.out.trans ((b4.trans (bf.mono b4.size)).mono b7.out.size))
 have bp:=Za ao
 have cx:=Za (bt.below bf)
 have cr:=Za (bk.below bf)
 have bw:=Za (own_below a8 bf (Zb _))
 have HR:=Za hR
 have ch:=Za b2
 have au:=Za cc
 have di:=Za br
 have dh:Hid (∀w'',w3.grownBy w'' (Value.slice Al ln cl).ownBlock→Ud.Is w'' (.pointer (some ⟨pb,0,none⟩)) T S∧Md.Doc w'' (.agg #[.slice A2 n2 c2,.slice XA2 xn2 xc2]) T E):=Za fun w'' hg=>bh w'' (Rw.grown_trans (by rw[←bc];exact Yk _ _ _) hg)
 have c1:=Za (fun x (hx:x∈l)=>Tx.isC_i32 (b2 x hx))
 have z0:=ao.cell 0 rfl
 have z1:=ao.cell 1 rfl
 have zl:=ao.lt
 clear x0 x1 x2 x3 xl bh bk bx bt hR a8 b2 cc br a7 bc bf ao b4 a1 cn ck bq cj
 go_upto_region 4 with (fail)
 rw[cq.out]
 have a6:=HR.out.ok
 have ay:=Za (Sl.of_own bw.out)
 have ct:=Za (HH.out.next ba.out)
 have ak:=Za (Zd w3.heap.size w3)
 have av:Hid (∀(A':Option Addr) (m c':Nat) (z:List Int) (W:World),Below w3.heap.size w3 W→z.length=m→m≤30→(∀x∈z,x∈l)→Sl W W.heap.size A' (z.map (Value.int .i64))→Calls Tryz.prog 13 #[.slice A' m c'] W fun e w'=>e=.returned (.string (U.encS z))∧Below W.heap.size W w'):=Za fun A' m c' z W hW hz hm b1 hA=>U.rencS_any A' m c' z W hz (by omega) hA (fun x hx=>ch.out x (b1 x hx))
 have ax:Hid (∀(z:List Int) (m:Nat) (W:World),Below w3.heap.size w3 W→z.length≤30→(∀x∈z,x∈l)→(Nf.chars T z).length=m→Calls Tryz.prog 16 #[.pointer (some ⟨pb,0,none⟩),.string (U.encS z)] W fun e w'=>e=.returned (.tuple #[.int .i64 m,.int .i64 0])∧Below W.heap.size W w'):=Za fun z m W hW hz b1 hm=>by
  have:=Nf.count_chars _ T S z W a6 (cx.out.below hW) (ct.out.next hW) (fun x hx=>ch.out x (b1 x hx)) (by omega) (Nf.fl_30 a6 (by omega))
  rw[hm]at this
  exact this
 have b9:Hid (∀(m:Nat) (W:World),Below w3.heap.size w3 W→(Nf.chars T l).length=m→Calls Tryz.prog 10 #[.agg #[.slice A2 n2 c2,.slice XA2 xn2 xc2],.slice Al ln cl] W fun e w'=>∃A' c',e=.returned (.slice A' m c')∧Below W.heap.size W w'):=Za fun m W hW hm=>by
  refine (Nf.rchars_any _ T E Al ln cl l W (by have:=HR.out.tl;omega) a6.bd (fun r hr=>by have:=(HR.out.rok r hr).2.2.1;omega) (fun c=>Ud.fullT_le a6 c) (cr.out.below hW) au.out (by omega) c1.out (ay.out.below hW hW.size)).mono ?_
  rintro e w' ⟨A',c',rfl,ho,hb⟩
  rw[hm]
  exact⟨A',c',rfl,hb⟩
 have hA:(Al=none∧ln=0∧cl=0)∨∃gb,Al=some ⟨gb,0,none⟩∧ln≤cl:=by
  rcases bw.out.2 with ⟨hv,h0⟩|⟨g',cz,dc,hv,hg,hb,h1,h2,h3,h4⟩
  · cases hv;exact .inl ⟨rfl,rfl,rfl⟩
  · cases hv;exact .inr ⟨g',rfl,by omega⟩
 obtain⟨k,hk,c6⟩:∃k:Nat,k≤ln∧max 0 (min at' (ln:Int))=k:=⟨(max 0 (min at' (ln:Int))).toNat,by omega,by omega⟩
 obtain⟨ka,bi⟩:∃z,l.take k=z:=⟨_,rfl⟩
 obtain⟨kb,bn⟩:∃z,l.drop k=z:=⟨_,rfl⟩
 have bj:ka.length=k:=by rw[←bi,Zq,au.out];omega
 have bl:kb.length=ln-k:=by rw[←bn,ZK,au.out]
 have bo:∀x∈ka,x∈l:=fun x hx=>Yf (bi▸hx)
 have bm:∀x∈kb,x∈l:=fun x hx=>List.mem_of_mem_drop (bn▸hx)
 have aw:(Nf.chars T l).length=(Nf.chars T ka).length+(Nf.chars T kb).length:=by rw[←Nf.chars_len2,←bi,←bn,ZG]
 have hge:=Nf.chars_ge a6 l
 rw[au.out]at hge
 have hle:=Nf.chars_le a6 l
 rw[au.out]at hle
 obtain⟨ca,b8⟩:∃q,(Nf.chars T ka).length=q:=⟨_,rfl⟩
 obtain⟨cb,cf⟩:∃q,(Nf.chars T kb).length=q:=⟨_,rfl⟩
 rw[b8,cf]at aw
 have bb:=Za bj
 have az:=Za bl
 have ai:=Za bo
 have ah:=Za bm
 have ag:=Za aw
 have b6:=Za b8
 have bz:=Za cf
 rw[aw]at hge hle
 have b3:Hid (∀W,Below w3.heap.size w3 W→Sl W W.heap.size Al (ka.map (Value.int .i64))):=Za fun W hW=>by
  rw[←bi,List.map_take];exact (ay.out.below hW hW.size).takeN k
 have cd:Hid (∀W,Below w3.heap.size w3 W→Sl W W.heap.size Al (l.map (Value.int .i64))):=Za fun W hW=>ay.out.below hW hW.size
 have cu:Hid (∀gb,Al=some ⟨gb,0,none⟩→∀W,Below w3.heap.size w3 W→Sl W W.heap.size (some ⟨gb,k,none⟩) (kb.map (Value.int .i64))):=Za fun gb cy W hW=>by
  have:=ay.out.below hW hW.size
  rw[cy]at this
  rw[←bn,List.map_drop];have:=this.dropN k;rwa [Z1]at this
 have HK:=Za c6
 have z9:=bp.out
 clear a6 bj bl bo bm aw b8 cf bi bn z0 z1 zl z9 bw
 have hA2:(Al=none∧ln=0∧cl=0)∨(∃gb,Al=some ⟨gb,0,none⟩∧ln≤cl∧cl≤k)∨∃gb,Al=some ⟨gb,0,none⟩∧ln≤cl∧k<cl:=by
  rcases hA with h|⟨gb,h1,h2⟩
  · exact .inl h
  · rcases ZX k cl with h3|h3
    · exact .inr (.inr ⟨gb,h1,h2,h3⟩)
    · exact .inr (.inl ⟨gb,h1,h2,h3⟩)
 clear hA
 rcases hA2 with ⟨rfl,rfl,rfl⟩|⟨gb,rfl,bu,hkc⟩|⟨gb,rfl,bu,hkc⟩
 · obtain rfl:k=0:=by omega
   have cm:max 0 (min at' 0)=0:=by have:=HK.out;simpa using this
   go_wp2_with fail
   refine (av.out none 0 0 ka w3 ak.out bb.out (by omega) ai.out (b3.out _ ak.out)).mono ?_
   rintro e q1 ⟨rfl,hb⟩
   have aq:=Za (ak.out.trans (hb.mono ak.out.size))
   clear hb
   go_wp2_with fail
   refine (ax.out ka ca q1 aq.out (by rw[bb.out] <;> omega) ai.out b6.out).mono ?_
   rintro e q2 ⟨rfl,hb⟩
   have aj:=Za (aq.out.trans (hb.mono aq.out.size))
   clear hb
   go_wp2_with fail
   refine (av.out none 0 0 kb q2 aj.out (by rw[az.out] <;> omega) (by omega) ah.out (by rw[Zy (show kb.length=0 by rw[az.out] <;> omega)];exact Sl.nil _ _ _)).mono ?_
   rintro e q3 ⟨rfl,hb⟩
   have ar:=Za (aj.out.trans (hb.mono aj.out.size))
   clear hb
   go_wp2_with fail
   refine (ax.out kb cb q3 ar.out (by rw[az.out];omega) ah.out bz.out).mono ?_
   rintro e q4 ⟨rfl,hb⟩
   have ae:=Za (ar.out.trans (hb.mono ar.out.size))
   clear hb
   go_wp2_with fail
   refine (av.out none 0 0 l q4 ae.out au.out (by omega) (fun _ h=>h) (cd.out _ ae.out)).mono ?_
   rintro e q5 ⟨rfl,hb⟩
   have ap:=Za (ae.out.trans (hb.mono ae.out.size))
   clear hb
   go_wp2_with fail
   refine (ax.out l (ca+cb) q5 ap.out (by rw[au.out] <;> omega) (fun _ h=>h) ag.out).mono ?_
   rintro e q6 ⟨rfl,hb⟩
   have aa:=Za (ap.out.trans (hb.mono ap.out.size))
   clear hb
   have ht:=bp.out.below aa.out
   have z0:=ht.cell 0 rfl
   have z1:=ht.cell 1 rfl
   have zl:=ht.lt
   have e1:((ca:Int)+cb == ((ca+cb:Nat):Int))=true:=by simp
   have e2:(((ca+cb:Nat):Int) == ((ca+cb:Nat):Int))=true:=by simp
   clear ht
   go_wp2_with fail
   refine (b9.out (ca+cb) q6 aa.out ag.out).mono ?_
   rintro e q7 ⟨A7,c7,rfl,hb⟩
   have bg:=Za (ba.out.trans ((aa.out.trans (hb.mono aa.out.size)).mono ba.out.size))
   clear hb z0 z1 zl
   go_wp2_with fail
   go_ret
   exact⟨by first|rfl|(simp;done)|(simp;omega),bg.out⟩
 · obtain rfl:cl=k:=by omega
   obtain rfl:ln=cl:=by omega
   have k0:(0:Int)≤ln:=by omega
   have cm:=HK.out
   go_wp2_with fail
   refine (av.out (some ⟨gb,0,none⟩) ln ln ka w3 ak.out bb.out (by omega) ai.out (b3.out _ ak.out)).mono ?_
   rintro e q1 ⟨rfl,hb⟩
   have aq:=Za (ak.out.trans (hb.mono ak.out.size))
   clear hb
   go_wp2_with fail
   refine (ax.out ka ca q1 aq.out (by rw[bb.out] <;> omega) ai.out b6.out).mono ?_
   rintro e q2 ⟨rfl,hb⟩
   have aj:=Za (aq.out.trans (hb.mono aq.out.size))
   clear hb
   go_wp2_with fail
   refine (av.out (some ⟨gb,0,none⟩) 0 0 kb q2 aj.out (by rw[az.out] <;> omega) (by omega) ah.out (by rw[Zy (show kb.length=0 by rw[az.out] <;> omega)];exact Sl.nil _ _ _)).mono ?_
   rintro e q3 ⟨rfl,hb⟩
   have ar:=Za (aj.out.trans (hb.mono aj.out.size))
   clear hb
   go_wp2_with fail
   refine (ax.out kb cb q3 ar.out (by rw[az.out];omega) ah.out bz.out).mono ?_
   rintro e q4 ⟨rfl,hb⟩
   have ae:=Za (ar.out.trans (hb.mono ar.out.size))
   clear hb
   go_wp2_with fail
   refine (av.out (some ⟨gb,0,none⟩) ln ln l q4 ae.out au.out (by omega) (fun _ h=>h) (cd.out _ ae.out)).mono ?_
   rintro e q5 ⟨rfl,hb⟩
   have ap:=Za (ae.out.trans (hb.mono ae.out.size))
   clear hb
   go_wp2_with fail
   refine (ax.out l (ca+cb) q5 ap.out (by rw[au.out] <;> omega) (fun _ h=>h) ag.out).mono ?_
   rintro e q6 ⟨rfl,hb⟩
   have aa:=Za (ap.out.trans (hb.mono ap.out.size))
   clear hb
   have ht:=bp.out.below aa.out
   have z0:=ht.cell 0 rfl
   have z1:=ht.cell 1 rfl
   have zl:=ht.lt
   have e1:((ca:Int)+cb == ((ca+cb:Nat):Int))=true:=by simp
   have e2:(((ca+cb:Nat):Int) == ((ca+cb:Nat):Int))=true:=by simp
   clear ht
   go_wp2_with fail
   refine (b9.out (ca+cb) q6 aa.out ag.out).mono ?_
   rintro e q7 ⟨A7,c7,rfl,hb⟩
   have bg:=Za (ba.out.trans ((aa.out.trans (hb.mono aa.out.size)).mono ba.out.size))
   clear hb z0 z1 zl
   go_wp2_with fail
   go_ret
   exact⟨by first|rfl|(simp;done)|(simp;omega),bg.out⟩
 · have kc:(k:Int)≤cl:=by omega
   have k0:(0:Int)≤k:=by omega
   have kl:(k:Int)≤ln:=by omega
   have df:¬cl=k:=by omega
   have cm:=HK.out
   go_wp2_with fail
   refine (av.out (some ⟨gb,0,none⟩) k cl ka w3 ak.out bb.out (by omega) ai.out (b3.out _ ak.out)).mono ?_
   rintro e q1 ⟨rfl,hb⟩
   have aq:=Za (ak.out.trans (hb.mono ak.out.size))
   clear hb
   go_wp2_with fail
   refine (ax.out ka ca q1 aq.out (by rw[bb.out] <;> omega) ai.out b6.out).mono ?_
   rintro e q2 ⟨rfl,hb⟩
   have aj:=Za (aq.out.trans (hb.mono aq.out.size))
   clear hb
   go_wp2_with fail
   refine (av.out (some ⟨gb,k,none⟩) (ln-k) (cl-k) kb q2 aj.out (by rw[az.out] <;> omega) (by omega) ah.out (cu.out gb rfl _ aj.out)).mono ?_
   rintro e q3 ⟨rfl,hb⟩
   have ar:=Za (aj.out.trans (hb.mono aj.out.size))
   clear hb
   go_wp2_with fail
   refine (ax.out kb cb q3 ar.out (by rw[az.out];omega) ah.out bz.out).mono ?_
   rintro e q4 ⟨rfl,hb⟩
   have ae:=Za (ar.out.trans (hb.mono ar.out.size))
   clear hb
   go_wp2_with fail
   refine (av.out (some ⟨gb,0,none⟩) ln cl l q4 ae.out au.out (by omega) (fun _ h=>h) (cd.out _ ae.out)).mono ?_
   rintro e q5 ⟨rfl,hb⟩
   have ap:=Za (ae.out.trans (hb.mono ae.out.size))
   clear hb
   go_wp2_with fail
   refine (ax.out l (ca+cb) q5 ap.out (by rw[au.out] <;> omega) (fun _ h=>h) ag.out).mono ?_
   rintro e q6 ⟨rfl,hb⟩
   have aa:=Za (ap.out.trans (hb.mono ap.out.size))
   clear hb
   have ht:=bp.out.below aa.out
   have z0:=ht.cell 0 rfl
   have z1:=ht.cell 1 rfl
   have zl:=ht.lt
   have e1:((ca:Int)+cb == ((ca+cb:Nat):Int))=true:=by simp
   have e2:(((ca+cb:Nat):Int) == ((ca+cb:Nat):Int))=true:=by simp
   clear ht
   go_wp2_with fail
   refine (b9.out (ca+cb) q6 aa.out ag.out).mono ?_
   rintro e q7 ⟨A7,c7,rfl,hb⟩
   have bg:=Za (ba.out.trans ((aa.out.trans (hb.mono aa.out.size)).mono ba.out.size))
   clear hb z0 z1 zl
   go_wp2_with fail
   go_ret
   exact⟨by first|rfl|(simp;done)|(simp;omega),bg.out⟩
end Go.Proofs.YtikiplbhlohmdaaGreatDoor
