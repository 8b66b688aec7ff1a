/- The layer stream: take, Write, End, Waits, New, by walking their texts. -/
import Derived.Test.YtdbpjmfflofadaaGreatDoorSmByte
set_option maxRecDepth 100000
set_option maxHeartbeats 4000000
set_option linter.unusedVariables false
set_option linter.unusedSimpArgs false
set_option linter.unusedSectionVars false
namespace Go.Proofs.YtdbpjmfflofadaaGreatDoor
open Go.Proofs.Tryz
open Go.RowKit
theorem zOv {z:List Int} (hz:∀c∈z,U.isC c=true) (k:Nat):(zA5 z).extract 0 (zA5 (z.take k)).size=zA5 (z.take k)∧(zA5 z).extract (zA5 (z.take k)).size (zA5 z).size=zA5 (z.drop k)∧(zA5 (z.take k)).size≤(zA5 z).size:=by
 have h1:∀c∈z.take k,U.isC c=true:=fun c hc=>hz c (Z0 hc)
 have h2:∀c∈z.drop k,U.isC c=true:=fun c hc=>hz c (Xh hc)
 have e:zA4 z=zA4 (z.take k)++zA4 (z.drop k):=by rw[←zAq,Zu]
 rw[zAG hz,zAG h1,zAG h2]
 have hs:(⟨(zA4 z).toArray⟩:ByteArray).size=(zA4 (z.take k)).length+(zA4 (z.drop k)).length:=by
  show (zA4 z).length=_;rw[e,Zc]
 have ht:(⟨(zA4 (z.take k)).toArray⟩:ByteArray).size=(zA4 (z.take k)).length:=rfl;refine⟨?_,?_,by omega⟩
 · apply Xw
   apply Array.toList_inj.1
   rw[Lib.extract_data,ht,Ji,Xg];show (zA4 z).take _=zA4 (z.take k);rw[e,QN]
 apply Xw
 apply Array.toList_inj.1
 rw[Lib.extract_data,ht,hs];show ((zA4 z).drop _).take _=zA4 (z.drop k);rw[e,QM,Qh,Zi (Za _)]
theorem zKO (l:List UInt8) {k:Nat} {β:UInt8} (h:l[k]?=some β):(⟨l.toArray⟩:ByteArray).extract k (k+1)=⟨#[β]⟩:=by
 apply Xw
 apply Array.toList_inj.1
 rw[Lib.extract_data];obtain⟨h1,h2⟩:=List.getElem?_eq_some_iff.1 h;show (l.drop k).take (k+1-k)=[β];rw[Qh,ZJ h1,h2];rfl
section
variable (pb:Nat) (T:List Rw.Row) (S:List Int) (fid:FuncId) (F:List Int→List Int) (w0:World) (g:Nat) (ok:Ud.Ok T S) (his:Ud.Is w0 (.pointer (some ⟨pb,0,none⟩)) T S) (hH:Heads w0) (hg:w0.heap.size≤g)
 (hen:∀(args:Array Value) (w:World),(callFunc fid args).run prog w=.ok (.enter fid args) w)
 (hF:∀(z:List Int) (W:World),Below w0.heap.size w0 W→(∀c∈z,C.isC c=true)→(Nf.fl T z).length≤1024→Calls prog fid #[.pointer (some ⟨pb,0,none⟩),.string (zA5 z)] W fun e w'=>e=.returned (.tuple #[.string (zA5 (F z)),.int .i64 0])∧Below W.heap.size W w')
include ok hen hF
theorem zJw (s:Sm.St) (k:Nat) (w:World) (hw:Below w0.heap.size w0 w) (hs:Sm.Ok (Sm.fl T) s) (hk:k≤s.z.length) (ah:Sm.At w g (.pointer (some ⟨pb,0,none⟩)) (.func (.func fid) #[] #[]) s) :
 Calls prog 32 #[.pointer (some ⟨g,0,none⟩),.int .i64 ((zA5 (s.z.take k)).size:Nat)] w fun e w'=>e=.returned (.string (zA5 (F (s.z.take k))))∧w.grownBy w' (some g)∧Sm.At w' g (.pointer (some ⟨pb,0,none⟩)) (.func (.func fid) #[] #[]) ⟨s.z.drop k,0,s.g,s.n,0⟩:=by
 obtain⟨x1,x2,x3⟩:=zOv hs.z k
 have aq:(Nf.fl T (s.z.take k)).length≤1024:=by
  have h1:=hs.zn;have h2:=hs.n;rw[zBN]at h1;have h3:(Nf.fl T s.z).length=(Nf.fl T (s.z.take k)).length+(Nf.fl T (s.z.drop k)).length:=by rw[←Zc,←Nf.fl_app,Zu]
  omega
 have a7:(zA5 s.z).size≤100000:=by
  have h1:=zBj (z:=s.z) (fun x hx=>hs.z x hx);have h2:=hs.zn;have h3:=hs.n;rw[zBN]at h2;have h4:s.z.length≤(Nf.fl T s.z).length:=zEs ok s.z;omega
 have aj:=hF (s.z.take k);have au:∀c∈s.z.take k,C.isC c=true:=fun c hc=>hs.z c (Z0 hc)
 have ar:Sm.cells (.pointer (some ⟨pb,0,none⟩)) (.func (.func fid) #[] #[]) s=[.pointer (some ⟨pb,0,none⟩),.func (.func fid) #[] #[],.string (zA5 s.z),.int .i64 ((zA5 (s.z.take s.k)).size:Nat),.string ⟨s.g.toArray⟩,.int .i64 (s.n:Nat),.int .i64 0]:=by unfold Sm.cells;rw[hs.e]
 have ax:Sm.cells (.pointer (some ⟨pb,0,none⟩)) (.func (.func fid) #[] #[]) ⟨s.z.drop k,0,s.g,s.n,0⟩=[.pointer (some ⟨pb,0,none⟩),.func (.func fid) #[] #[],.string (zA5 (s.z.drop k)),.int .i64 0,.string ⟨s.g.toArray⟩,.int .i64 (s.n:Nat),.int .i64 0]:=rfl;unfold Sm.At at *;rw[ar]at ah;rw[ax];obtain⟨sz,ag⟩:∃q,zA5 s.z=q:=⟨_,rfl⟩;obtain⟨sa,ae⟩:∃q,zA5 (s.z.take k)=q:=⟨_,rfl⟩;obtain⟨sd,ak⟩:∃q,zA5 (s.z.drop k)=q:=⟨_,rfl⟩;obtain⟨sf,ao⟩:∃q,zA5 (F (s.z.take k))=q:=⟨_,rfl⟩;obtain⟨kz,af⟩:∃q,sa.size=q:=⟨_,rfl⟩;rw[ag]at ah a7;rw[ag,ae,af]at x1;rw[ag,ae,ak,af]at x2;rw[ag,ae,af]at x3;rw[ae,ao]at aj;rw[ae,af,ao,ak];rw[←x1]at aj
 have a1:Hy (∀W,Below w.heap.size w W→(∀x:Stg.Later Stg.Ex W,x.val.cell? ⟨g,0,none⟩=some (.pointer (some ⟨pb,0,none⟩)))∧(∀x:Stg.Later Stg.Ex W,x.val.cell? ⟨g,1,none⟩=some (.func (.func fid) #[] #[]))∧(∀x:Stg.Later Stg.Ex W,x.val.cell? ⟨g,2,none⟩=some (.string sz))):=hy' fun W hW =>
  have hT:=ah.below hW
  ⟨Stg.cells (hT.cell 0 rfl) hT.lt,Stg.cells (hT.cell 1 rfl) hT.lt,Stg.cells (hT.cell 2 rfl) hT.lt⟩
 have a6:=hy' (fun W (hW:Below w.heap.size w W)=>hw.trans (hW.mono hw.size));have a8:=hy' (fun W (hW:Below w.heap.size w W)=>aj W (a6.o W hW) au aq);have ai:=hy' (Zd w.heap.size w).drew;have ba:=hy' ah;have av:=hy' x2;have az:=hy' hen;have n1:(kz:Int)≤(sz.size:Int):=by omega
 have n0:(0:Int)≤kz:=by omega
 clear hF hen ok hw hs hk ah x1 x2 aq ar ax ag ae ak ao af aj au;go_enter func32,ntmps32;go_upto_region 1 with (fail)
 refine Stg.wp_region (by kernel_rfl) Stg.Ex Stg.Ex.rel ?_
 (iterate 3 (refine Stg.readW (by kernel_rfl) ?_;intro K hK;go_big_quiet_op;go_big_quiet_on))
 obtain⟨f0,f1,f4⟩:=a1.o w.drew ai.o;refine Stg.read 0 (by kernel_rfl) w.drew rfl ?_;intro K hK;go_big_quiet_op;go_big_quiet_on
 (iterate 3 (refine Stg.readW (by kernel_rfl) ?_;intro K hK;go_big_quiet_op;go_big_quiet_on))
 refine Stg.read 0 (by kernel_rfl) w.drew rfl ?_;intro K hK;go_big_quiet_op;go_big_quiet_on
 (iterate 3 (refine Stg.readW (by kernel_rfl) ?_;intro K hK;go_big_quiet_op;go_big_quiet_on))
 refine Stg.read 0 (by kernel_rfl) w.drew rfl ?_;intro K hK;go_big_quiet_op;go_big_quiet_on
 (iterate 2 (refine Stg.readW (by kernel_rfl) ?_;intro K hK;go_big_quiet_op;go_big_quiet_on))
 refine Stg.callV fid _ _ _ rfl rfl (az.o) [.pointer (some ⟨pb,0,none⟩),.string (sz.extract 0 kz)] rfl w.drew _ (a8.o w.drew ai.o) (by kernel_rfl) rfl ?_;rintro e q1 ⟨rfl,hb⟩;refine⟨_,rfl,hb,?_⟩;have aw:=hy' (ai.o.trans (hb.mono ai.o.size));clear hb;intro A' ap;simp only[Act.put,Zm,ZA,Zx]at ap;subst ap
 (iterate 5 (refine Stg.readW (by kernel_rfl) ?_;intro K hK;go_big_quiet_op;go_big_quiet_on))
 clear f0 f1 f4;refine Stg.nil q1 rfl ?_;have aa:=ba.o.below aw.o;have ay:=hy' aa;have c2:=aa.cell 2 rfl;have c3:=aa.cell 3 rfl;have f2:=aa.frozen 2;have f3:=aa.frozen 3;have cl:=aa.lt;clear aa;go_wp2_with fail;go_ret;have h1:=(ay.o.set 2 (.string sd)).set 3 (.int .i64 0);rw[←av.o]at h1;refine⟨rfl,zA0 (zAo aw.o) (zA0 (Rw.grown_set _ _ _) (Rw.grown_set _ _ _)),?_⟩;rw[←av.o];exact h1
include his hH hg
theorem zI4 (s:Sm.St) (l:List UInt8) (w:World) (hw:Below w0.heap.size w0 w) (hs:Sm.Ok (Sm.fl T) s) (hl:l.length≤1000000) (aq:Sm.At w g (.pointer (some ⟨pb,0,none⟩)) (.func (.func fid) #[] #[]) s) :
 Calls prog 11 #[.pointer (some ⟨g,0,none⟩),.string ⟨l.toArray⟩] w fun e w'=>w.grownBy w' (some g) ∧
  (((Sm.feed (zA7 T S) (Sm.fl T) s l).e≠0∧e=.returned (.tuple #[.string ⟨#[]⟩,.int .i64 (Sm.feed (zA7 T S) (Sm.fl T) s l).e])∧Sm.At w' g (.pointer (some ⟨pb,0,none⟩)) (.func (.func fid) #[] #[]) (Sm.bad (Sm.feed (zA7 T S) (Sm.fl T) s l).e)) ∨
   ((Sm.feed (zA7 T S) (Sm.fl T) s l).e=0∧e=.returned (.tuple #[.string (zA5 (F (Sm.out (Sm.feed (zA7 T S) (Sm.fl T) s l)))),.int .i64 0])∧Sm.At w' g (.pointer (some ⟨pb,0,none⟩)) (.func (.func fid) #[] #[]) (zLz (Sm.feed (zA7 T S) (Sm.fl T) s l)))):=by
 have bg:=hy' (fun s' β W hW az hA=>zOu (.pointer (some ⟨pb,0,none⟩)) T S (.func (.func fid) #[] #[]) w0 g ok his hH hg s' β W hW az hA);have a7:=hy' (fun s' k W hW az hk hA=>zJw pb T S fid F w0 g ok hen hF s' k W hW az hk hA);obtain⟨p,hp⟩:∃p,zA7 T S=p:=⟨_,rfl⟩;obtain⟨fl,bb⟩:∃f,Sm.fl T=f:=⟨_,rfl⟩;simp only[hp,bb]at bg a7 hs ⊢;obtain⟨n,hn⟩:∃n,l.length=n:=⟨_,rfl⟩;have a8:(⟨l.toArray⟩:ByteArray).size=n:=hn;obtain⟨sl,au⟩:∃q:ByteArray,⟨l.toArray⟩=q:=⟨_,rfl⟩;have bq:Hy (∀k β,l[k]?=some β→sl.extract k (k+1)=⟨#[β]⟩):=hy' fun k β h=>by rw[←au];exact zKO l h
 rw[au]at a8 ⊢;subst a8;have HN:=hy' hn;have HS:=hy' hs;have bo:=hy' aq;have HW:=hy' hw;have HG:=hy' hg
 have bn:w.cell? ⟨g,6,none⟩=some (.int .i64 0):=by
  have:=Rw.At.cell aq 6 rfl;rw[hs.e]at this;exact this
 have bp:=Rw.At.lt aq;have bs:sl.size≤1000000:=by rw[←hn];exact hl
 clear ok his hH hg hen hF hw hs aq hp bb hn au hl;go_enter func11,ntmps11;go_wp2_with fail;clear bn bp;go_loopw [6,7,19] (fun _ _ i wr=>∃k:Nat,k≤sl.size∧i=.int .i64 k∧(Sm.feed p fl s (l.take k)).e=0∧Sm.At wr g (.pointer (some ⟨pb,0,none⟩)) (.func (.func fid) #[] #[]) (Sm.feed p fl s (l.take k))∧w.grownBy wr (some g)) (fun _ _ i _=>sl.size-(intOf i).toNat)
 case atStart=>exact⟨0,Zq _,rfl,HS.o.e,bo.o,QO _ _⟩
 obtain⟨k,hk,rfl,ax,hA,a6⟩:=hrel;obtain⟨r0,rfl⟩:∃q:World,q=wr:=⟨_,rfl⟩;have HA:=hy' hA;have bf:=hy' a6;have bh:=hy' (zBT HW.o HG.o a6);have ap:=hy' (Sm.Ok.feed (p:=p) (l.take k) HS.o ax);have aj:=hy' ax;clear hA a6 ax
 by_cases hlt:k<sl.size
 rotate_left
 · obtain rfl:k=sl.size:=by omega
   have ba:l.take sl.size=l:=Zi (by rw[HN.o];exact Za _);obtain⟨s1,aa⟩:∃q,Sm.feed p fl s l=q:=⟨_,rfl⟩;rw[ba,aa]at aj HA ap;have ae:=hy' aa;have c3:=Rw.At.cell HA.o 3 rfl;have cl:=Rw.At.lt HA.o;have kI:¬((sl.size:Int)<(sl.size:Int)):=by omega
   have ai:=a7.o s1 s1.k r0 bh.o ap.o ap.o.k HA.o;have HT:=hy' ai;clear ba aa ai;go_wp2_with fail;refine HT.o.mono ?_;rintro e r1 ⟨rfl,ah,ag⟩;have ao:=hy' (zA0 bf.o ah);have ar:=hy' ag;clear ah ag c3 cl;go_wp2_with fail;go_ret2;rw[ae.o];refine⟨ao.o,.inr ⟨aj.o,rfl,?_⟩⟩;unfold zLz;rw[aj.o];exact ar.o
 obtain⟨β,hβ⟩:∃β,l[k]?=some β:=⟨_,Zb (by rw[HN.o];exact hlt)⟩
 have ay:Sm.feed p fl s (l.take (k+1))=Sm.byte p fl (Sm.feed p fl s (l.take k)) β:=by
  rw[Zy,hβ,XK,zN0,Zl aj.o]
 have hex:=bq.o k β hβ;have ak:=bg.o _ β r0 bh.o ap.o HA.o;rw[←ay]at ak;have bu:=hy' (fun h=>(zOr (p:=p) (fl:=fl) (s:=Sm.feed p fl s (l.take k)) (b:=β) h).1);have bt:=hy' (show Sm.feed p fl s (l.take (k+1))=Sm.byte p fl (Sm.feed p fl s (l.take k)) β from ay)
 have af:Hy ((Sm.feed p fl s (l.take (k+1))).e≠0→Sm.feed p fl s l=Sm.feed p fl s (l.take (k+1))):=hy' fun h=>by
  conv=>lhs;rw[←Zu (k+1) l,zGg,zDE h]
 obtain⟨s1,aa⟩:∃q,Sm.feed p fl s (l.take (k+1))=q:=⟨_,rfl⟩;have ae:=hy' aa;rw[aa]at ak;have aw:=hy' ak;have av:=hy' hex;have kI:(k:Int)<(sl.size:Int):=by omega
 have k0:(0:Int)≤k:=by omega
 have k1:(k:Int)+1≤(sl.size:Int):=by omega
 have k2:(k:Int)≤(k:Int)+1:=by omega
 clear hβ ay hex ak aa;go_wp2_with fail;rw[av.o];refine aw.o.mono ?_;rintro e r1 ⟨rfl,ah,ag,a1,a2,a3,a4,a5,hA2⟩;have ao:=hy' (zA0 bf.o ah);have ar:=hy' ag;have bl:=hy' hA2;clear ah ag hA2 k1 k2
 by_cases he:s1.e=0
 · have br:(s1.e != 0)=false:=by simp[he]
   have HE:=hy' he;clear he;go_wp2_with fail;go_roundw
   case rel=>exact⟨k+1,by omega,by first|rfl|go_num,by rw[ae.o];exact HE.o,by rw[ae.o];exact ar.o HE.o,ao.o⟩
   simp[intOf];omega
 have br:(s1.e != 0)=true:=by simpa using he
 have HE:=hy' he;clear he;go_wp2_with fail;refine (zJv g pb fid s1.e a1 a2 a3 a4 a5 r1 bl.o).mono ?_;rintro e r2 ⟨rfl,bi,bc⟩;have bm:=hy' (zA0 ao.o bi);have bj:=hy' bc;clear bi bc;go_wp2_with fail;go_ret2;have bk:Sm.feed p fl s l=s1:=by rw[af.o (by rw[ae.o];exact HE.o),ae.o]
 rw[bk];exact⟨bm.o,.inl ⟨HE.o,rfl,bj.o⟩⟩
end
end Go.Proofs.YtdbpjmfflofadaaGreatDoor
