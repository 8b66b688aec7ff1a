/- The law NfcShorter, by walking its text. -/
import Derived.Test.YtjakbblocbicjaaGreatDoorNcLaw
import Derived.Test.YtjakbblocbicjaaGreatDoorTxSame
set_option maxRecDepth 100000
set_option maxHeartbeats 4000000
set_option linter.unusedVariables false
set_option linter.unusedSimpArgs false
namespace Go.Proofs.YtjakbblocbicjaaGreatDoor
open Go.Proofs.Tryz
open Go.RowKit
theorem Nc.nfcShorter_any (w:World) (A XA PA MA:Option Addr) (n c xn xc pn pc mn mc:Nat) (T0:List Rw.Row) (E0 P M:List Int) (hT:Tx.In A XA PA MA n c xn xc pn pc mn mc T0 E0 P M w) (hL:Nf.Laid w) :
 Calls prog 12 #[.agg #[.slice A n c,.slice XA xn xc,.slice PA pn pc,.slice MA mn mc]] w fun e w'=>e=.returned (.bool true)∧Below w.heap.size w w':=by
 have af:=hy' (fun W (hW:Below w.heap.size w W)=>zFx A XA PA MA n c xn xc pn pc mn mc T0 E0 P M 30 W (by decide) (hT.below hW) (Rw.Laid.next hL.1 hW));have bn:=hy' (fun W (hW:Below w.heap.size w W)=>zFv W (hL.next hW));obtain⟨wa,aw⟩:∃wa,w.alloc (.cells #[.slice A n c,.slice XA xn xc,.slice PA pn pc,.slice MA mn mc] 27)=wa:=⟨_,rfl⟩;have bp:Below w.heap.size w wa:=by rw[←aw];exact (Zc _ _).alloc (Za _) _
 have bo:Rw.At wa w.heap.size 27 [.slice A n c,.slice XA xn xc,.slice PA pn pc,.slice MA mn mc]:=by rw[←aw];exact Rw.At.new w 27 [.slice A n c,.slice XA xn xc,.slice PA pn pc,.slice MA mn mc]
 have bi:=hy' aw;have av:=hy' bp;have br:=hy' bo;clear aw bp bo hT hL;go_enter func12,ntmps12;go_upto_region 1 with (fail)
 rw[bi.o];go_wp2_with fail;refine (bn.o wa av.o).mono ?_;rintro e w1 ⟨rfl,bf⟩;have aa:=br.o.below bf;have az:=hy' (av.o.trans (bf.mono av.o.size));have x0:=aa.cell 0 rfl;have x1:=aa.cell 1 rfl;have x2:=aa.cell 2 rfl;have x3:=aa.cell 3 rfl;have xl:=aa.lt;clear bf aa;go_wp2_with fail;refine (af.o w1 az.o).mono ?_;rintro e w2 ⟨p,v2,T,E,S,l,Al,cl,rfl,bc,ak,hR,ag,a1,b3,aq,a8⟩;obtain⟨pb,rfl,bu⟩:=bc.form;obtain⟨A2,c2,XA2,xc2,rfl,bg⟩:=id ak;obtain⟨n2,ax⟩:∃k,T.length=k:=⟨_,rfl⟩;obtain⟨xn2,ah⟩:∃k,E.length=k:=⟨_,rfl⟩;obtain⟨ln,bh⟩:∃k,l.length=k:=⟨_,rfl⟩;unfold zAX at ak aq ⊢;rw[ax,ah]at ak ⊢;simp only[ax,ah]at aq;rw[bh]at ag b3 aq ⊢;obtain⟨w3,ao⟩:∃w3,w2.alloc (.cells #[.slice A2 n2 c2,.slice XA2 xn2 xc2] 25)=w3:=⟨_,rfl⟩;have aj:Below w2.heap.size w2 w3:=by rw[←ao];exact (Zc _ _).alloc (Za _) _
 have ae:Rw.At w3 w2.heap.size 25 [.slice A2 n2 c2,.slice XA2 xn2 xc2]:=by rw[←ao];exact Rw.At.new w2 25 [.slice A2 n2 c2,.slice XA2 xn2 xc2]
 have b2:=hy' ao;have bq:=hy' (az.o.trans ((a8.trans (aj.mono a8.size)).mono az.o.size));have b7:=hy' ae;have bt:=hy' (bc.below aj);have bw:=hy' (ak.below aj);have bl:=hy' (zA4 ag aj (Za _));have HR:=hy' hR;have bs:=hy' a1;have ar:=hy' bh;have b5:=hy' ax;have b6:Hy (∀w'',w3.grownBy w'' (Value.slice Al ln cl).ownBlock→Ud.Is w'' (.pointer (some ⟨pb,0,none⟩)) T S∧Md.Doc w'' (.agg #[.slice A2 n2 c2,.slice XA2 xn2 xc2]) T E):=hy' fun w'' hg=>aq w'' (zA0 (by rw[←ao];exact Yl _ _ _) hg)
 have bm:=hy' (fun x (hx:x∈l)=>Tx.isC_i32 (a1 x hx));have z0:=ae.cell 0 rfl;have z1:=ae.cell 1 rfl;have zl:=ae.lt;clear x0 x1 x2 x3 xl aq ak bg bc hR ag a1 bh ax ah ao aj ae a8 af bn bi av br;go_upto_region 4 with (fail)
 rw[b2.o];have ai:=HR.o.ok;have ap:=hy' (Sl.of_own bl.o);obtain⟨R,hR⟩:∃R,Nc.chars T S l=R:=⟨_,rfl⟩;obtain⟨rn,ay⟩:∃q,R.length=q:=⟨_,rfl⟩;obtain⟨Z,hZ⟩:∃Z,Nf.chars T l=Z:=⟨_,rfl⟩;obtain⟨zn,au⟩:∃q,Z.length=q:=⟨_,rfl⟩;have hle:rn≤zn:=by rw[←ay,←au,←hR,←hZ];exact (Nc.chars_len ai l).1
 have hpos:zn=0∨0<rn:=by
  rcases YF zn with h|h
  · exact .inl h
  right
  rw[←ay,←hR];exact (Nc.chars_len ai l).2 (fun e=>by rw[hZ]at e;rw[←au,e]at h;cases h)
 have b1:Hy (∀W,Below w3.heap.size w3 W→Calls prog 16 #[.agg #[.slice A2 n2 c2,.slice XA2 xn2 xc2],.slice Al ln cl] W fun e w'=>∃A' c',e=.returned (.slice A' zn c')∧Below W.heap.size W w'):=hy' fun W hW=>by
  refine (Nf.rchars_any _ T E Al ln cl l W (by have:=HR.o.tl;omega) ai.bd (fun r hr=>by have:=(HR.o.rok r hr).2.2.1;omega) (fun c=>zAS ai c) (bw.o.below hW) ar.o (by omega) bm.o (ap.o.below hW hW.size)).mono ?_;rintro e w' ⟨A',c',rfl,ho,hb⟩;rw[hZ,au];exact⟨A',c',rfl,hb⟩
 have bz:Hy (∀W,Below w3.heap.size w3 W→Calls prog 18 #[.slice Al ln cl] W fun e w'=>∃A' c',e=.returned (.slice A' ln c')∧Sl w' w'.heap.size A' (l.map (Value.int .i32))∧Below W.heap.size W w'):=hy' fun W hW=>by
  refine (zHT Al ln cl l W ar.o (by omega) bm.o (ap.o.below hW hW.size)).mono ?_;rintro e w' ⟨A',c',rfl,ho,hb⟩;rw[ar.o]at ho ⊢;exact⟨A',c',rfl,Sl.of_own ho,hb⟩
 have bx:Hy (∀A' c' W,Below w3.heap.size w3 W→Sl W W.heap.size A' (l.map (Value.int .i32))→Calls prog 43 #[.pointer (some ⟨pb,0,none⟩),.slice A' ln c'] W fun e w'=>∃A' c',e=.returned (.slice A' rn c')∧Below W.heap.size W w'):=hy' fun A' c' W hW hA=>by
  refine (Nc.Chars_any _ T S A' ln c' l W ai (bt.o.below hW) ar.o (by omega) bs.o hA).mono ?_;rintro e w' ⟨A',c',rfl,ho,hb⟩;rw[hR,ay];exact⟨A',c',rfl,hb⟩
 have a6:=hy' (Zc w3.heap.size w3);have ba:=hy' hpos;clear ai hR ay hZ au bl hpos;go_wp2_with fail;refine (b1.o w3 a6.o).mono ?_;rintro e q1 ⟨A7,c7,rfl,hb⟩;have bb:=hy' (a6.o.trans (hb.mono a6.o.size));clear hb z0 z1 zl;go_wp2_with fail;refine (bz.o q1 bb.o).mono ?_;rintro e q2 ⟨A8,c8,rfl,bk,hb⟩;have a7:=hy' (bb.o.trans (hb.mono bb.o.size));have b4:=hy' bk;clear hb bk;go_wp2_with fail;refine (bx.o A8 c8 q2 a7.o b4.o).mono ?_;rintro e q3 ⟨A9,c9,rfl,hb⟩;have bj:=hy' (bq.o.trans ((a7.o.trans (hb.mono a7.o.size)).mono bq.o.size));clear hb;have g1:¬(rn:Int) > zn:=by omega
 rcases ba.o with rfl|h0
 · go_wp2_with fail;go_ret;exact⟨by first|rfl|(simp;done)|(simp;omega),bj.o⟩
 have g2:(rn:Int) > 0:=by omega
 go_wp2_with fail
 all_goals
  go_ret;exact⟨by first|rfl|(simp;done)|(simp;omega),bj.o⟩
end Go.Proofs.YtjakbblocbicjaaGreatDoor
