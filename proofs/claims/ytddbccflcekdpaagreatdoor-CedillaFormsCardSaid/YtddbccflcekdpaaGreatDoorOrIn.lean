/- order.In and order.Runs, by walking their texts. -/
import Derived.Test.YtddbccflcekdpaaGreatDoorSoWalkA
set_option maxRecDepth 100000
set_option maxHeartbeats 4000000
set_option linter.unusedVariables false
set_option linter.unusedSimpArgs false
namespace Go.Proofs.YtddbccflcekdpaaGreatDoor
open Go.Proofs.Tryz
open Go.RowKit
theorem zFU {f:Int→Int}:∀(l:List Int) (t:Int) (k:Nat) {x:Int},l[k]?=some x→Or.inB f t (l.take k)=true→Or.inB f t l=Or.inB f ((l.take k).foldl (fun _ y=>f y) t) (l.drop k)
 | [],t,k,x,h,_=>by simp at h
 | y::l,t,0,x,h,_=>rfl
 | y::l,t,k+1,x,h,hi=>by
   rw[QL]at hi ⊢;unfold Or.inB at hi;split at hi
   · cases hi
   rename_i hh;rw[List.foldl_cons,List.drop_succ_cons,←zFU l (f y) k (by simpa using h) hi]
   conv=>lhs;unfold Or.inB
   rw[Zl hh]
theorem Or.in_any (v:Value) (T:List Rw.Row) (S:List Int) (A:Option Addr) (n c:Nat) (l:List Int) (w:World) (ok:Ud.Ok T S) (h:Ud.Is w v T S) (hn:l.length=n) (bc:n≤1000000) (hA:Sl w w.heap.size A (l.map (Value.int .i32))) :
 Calls prog 78 #[v,.slice A n c] w fun e w'=>e=.returned (.bool (Or.inB (Md.cls T) 0 l))∧Below w.heap.size w w':=by
 have a1:Hy (∀x W,Below w.heap.size w W→Calls prog 37 #[v,.int .i32 x] W fun e w'=>e=.returned (.int .i64 (Md.cls T x))∧Below W.heap.size W w'):=hy' fun x W hW=>Ud.class_any v T S x W ok (h.below hW)
 obtain⟨pv,rfl,_⟩:=h.form;have HN:=hy' hn;have HA:=hy' hA;obtain⟨r,hr⟩:∃r,Or.inB (Md.cls T) 0 l=r:=⟨_,rfl⟩;rw[hr];have HR:=hy' hr;obtain⟨f,hf⟩:∃f,Md.cls T=f:=⟨_,rfl⟩;rw[hf]at HR;simp only[hf]at a1;clear hn hA h ok hr hf;go_enter func78,ntmps78;go_wp2_with fail;go_loopw [5,7,8,11] (fun t _ _ i wr=>∃(k:Nat),k≤n∧i=.int .i64 k∧t=.int .i64 ((l.take k).foldl (fun _ y=>f y) 0)∧Or.inB f 0 (l.take k)=true∧Below w.heap.size w wr) (fun _ _ _ i _=>n-(intOf i).toNat)
 case atStart=>exact⟨0,ZG _,rfl,rfl,rfl,Zc _ _⟩
 obtain⟨k,hk,rfl,rfl,ah,aa⟩:=hrel;have aw:=aa.size
 by_cases hlt:k<n
 rotate_left
 · obtain rfl:k=n:=by omega
   rw[Zm (by rw[HN.o];exact Za _),HR.o]at ah;have kI:¬(k:Int)<k:=by omega
   have HI:=hy' ah;have HB:=hy' aa;clear ah aa;go_wp2_with fail;go_ret;rw[HI.o];exact⟨rfl,HB.o⟩
 obtain⟨x,hx⟩:∃x,l[k]?=some x:=⟨_,Zb (by rw[HN.o];exact hlt)⟩;obtain⟨ab,ao,hA2,bf,az⟩:=HA.o (by rw[Ze,HN.o];omega);have hc:=az k (by rw[Ze,HN.o];exact hlt);rw[Zs,hx,ZA,←(zAI aa).1 _ _ (by omega)]at hc;have hit:=zFU l 0 k hx ah;obtain⟨au,a6⟩:=List.getElem?_eq_some_iff.1 hx;have hdr:l.drop k=x::l.drop (k+1):=by rw[←a6];exact ZM au
 have ak:l.take (k+1)=l.take k++[x]:=by rw[ZB,hx];rfl
 have ar:(l.take (k+1)).foldl (fun _ y=>f y) 0=f x:=by rw[ak,YL];rfl
 obtain⟨t,ht⟩:∃t,(l.take k).foldl (fun _ y=>f y) 0=t:=⟨_,rfl⟩;obtain⟨q,hq⟩:∃q,f x=q:=⟨_,rfl⟩;have ap:=a1.o x wr aa;rw[hq]at ap;rw[ht,hdr]at hit;rw[show Or.inB f t (x::l.drop (k+1))=if 0<f x∧f x<t then false else Or.inB f (f x) (l.drop (k+1)) from rfl,hq]at hit
 have ai:¬(0<q∧q<t)→Or.inB f 0 (l.take (k+1))=true:=fun hh=>by
  have h2:=zFU (f:=f) (l.take (k+1)) 0 k (x:=x) (by rw[ak];rw[ZJ (by simp;omega)];simp[X7 (Z8 au)]) (by rw[Qi,X7 (ZX k)];exact ah);rw[h2,Qi,X7 (ZX k),ht,ak,Xz (by simp;omega),Ye (by rw[Zq];omega),ZH];unfold Or.inB;rw[hq,Zl hh];rfl
 rw[ht];rw[hq]at ar;have ag:=hy' ai;have av:=hy' ar;have ay:=hy' hit;have af:=hy' aa;have aq:=hy' ap;have kI:(k:Int)<n:=by omega
 have k0:(0:Int)≤k:=by omega
 subst hA2;clear hx az ah hit au a6 hdr ak ar ht hq ap ai aa;rcases hb:decide (0<q∧q<t) with _|_
 · have a8:=ag.o (XG hb);have a7:=hy' a8;have ba:¬0<q∨(0<q∧¬q<t):=by have:=XG hb;omega
   clear a8 ag ay hb;rcases ba with h1|⟨h1,h2⟩
   · go_wp2_with (go_at_call 37;refine aq.o.mono ?_;rintro e w1 ⟨rfl,ae⟩;have aj:=hy' (af.o.trans (ae.mono aw));clear ae);exact⟨⟨k+1,by omega,by first|rfl|go_num,by rw[av.o],a7.o,aj.o⟩,by simp[intOf];omega⟩
   go_wp2_with (go_at_call 37;refine aq.o.mono ?_;rintro e w1 ⟨rfl,ae⟩;have aj:=hy' (af.o.trans (ae.mono aw));clear ae);exact⟨⟨k+1,by omega,by first|rfl|go_num,by rw[av.o],a7.o,aj.o⟩,by simp[intOf];omega⟩
 have hh:=YF hb;have ax:=ay.o;rw[Zo hh,HR.o]at ax;have bb:=hy' ax;obtain⟨h1,h2⟩:=hh;clear ax ag ay hb av;go_wp2_with (go_at_call 37;refine aq.o.mono ?_;rintro e w1 ⟨rfl,ae⟩;have aj:=hy' (af.o.trans (ae.mono aw));clear ae);go_ret;rw[bb.o];exact⟨rfl,aj.o⟩
end Go.Proofs.YtddbccflcekdpaaGreatDoor
