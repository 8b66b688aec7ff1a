/- order.Of without its condition. -/
import Derived.Test.YtdbpjmfflofadaaGreatDoorOrIn
import Derived.Test.YtdbpjmfflofadaaGreatDoorNfNfd
import Derived.Shelf.Strings.Trim
import Derived.Shelf.Small.Wraps
import Derived.Shelf.Strconv.Itoa3
import Derived.Shelf.Strconv.ErrVar
import Derived.Shelf.Strconv.ErrVarAll
import Derived.Shelf.Strings.Shaped
import Derived.Shelf.Strings.Split
import Derived.Shelf.Unicode.Latin
import Derived.Shelf.Strings.Runes
import Derived.Shelf.Strings.AsciiSet
import Derived.Shelf.Strings.Repeat
import Derived.Shelf.Strings.CaseAny
import Derived.Shelf.Slices.SearchI
import Derived.Test.YtdbpjmfflofadaaGreatDoorSmPlain
import Derived.Test.YtdbpjmfflofadaaGreatDoorSpSafe
set_option maxRecDepth 100000
set_option maxHeartbeats 4000000
set_option linter.unusedVariables false
set_option linter.unusedSimpArgs false
set_option linter.unusedSectionVars false
namespace Go.Proofs.YtdbpjmfflofadaaGreatDoor
open Go.RowKit
theorem Tx.sym (fid:FuncId) (cd:Option Addr) (k:Int→Int) (N:Nat) (h:∀(args:Array Value) (w:World),(callFunc fid args).run Tryz.prog w=.ok (.enter fid args) w):zEr fid cd k N:=zKD fid cd k h N
def Nf.tl (T:List Rw.Row) (cs:List Int) (r:List UInt8):List Int:=if r=[]∧(Nf.fl T cs).length≤1024 then Nf.chars T cs else []
def Nf.tn (T:List Rw.Row) (cs:List Int) (r:List UInt8):Int:=if r=[] then (if (Nf.fl T cs).length≤1024 then 0 else 7) else 6
theorem zQg (T:List Rw.Row) (cs:List Int) (a:UInt8) (r:List UInt8):Nf.tl T cs (a::r)=[]:=if_neg fun h=>by cases h.1
theorem zQh (T:List Rw.Row) (cs:List Int) (a:UInt8) (r:List UInt8):Nf.tn T cs (a::r)=6:=if_neg fun h=>by cases h
theorem zQi {T:List Rw.Row} {cs:List Int} (h:¬(Nf.fl T cs).length≤1024) (r:List UInt8):Nf.tl T cs r=[]:=if_neg fun g=>h g.2
theorem zQj {T:List Rw.Row} {cs:List Int} (h:¬(Nf.fl T cs).length≤1024):Nf.tn T cs []=7:=by unfold Nf.tn;rw[if_pos rfl,if_neg h]
theorem zLB {T:List Rw.Row} {cs:List Int} (h:(Nf.fl T cs).length≤1024):Nf.tl T cs []=Nf.chars T cs:=if_pos ⟨rfl,h⟩
theorem zLC {T:List Rw.Row} {cs:List Int} (h:(Nf.fl T cs).length≤1024):Nf.tn T cs []=0:=by unfold Nf.tn;rw[if_pos rfl,if_pos h]
theorem zQk (T:List Rw.Row) (l:List Int) (k:Nat):(Nf.fl T (l.take k)).length≤(Nf.fl T l).length:=by
 conv=>rhs;rw[←List.take_append_drop k l]
 unfold Nf.fl;rw[List.flatMap_append,List.length_append];omega
theorem Nf.chars_le {T:List Rw.Row} {S:List Int} (ok:Ud.Ok T S) (l:List Int):(Nf.chars T l).length≤32*l.length:=by
 rw[Nf.chars_len];exact zFA (fun c=>zBh ok c) l
theorem Nf.text_any (v:Value) (T:List Rw.Row) (S:List Int) (s:ByteArray) (w:World) (ok:Ud.Ok T S) (h:Ud.Is w v T S) (hs:s.size≤1000000000000) (hH:Heads w) (cs:List Int) (r:List UInt8) (hd:zRs s.data.toList cs r) (hcs:cs.length≤3000) :
 Calls Tryz.prog 59 #[v,.string s] w (RetOwn2 21 .i32 (Nf.tl T cs r) (Nf.tn T cs r) w):=by
 have af:=zHV s w hs hH cs r hd;have az:∀c∈cs,-2147483648≤c∧c≤2147483647:=zQa hd.2.1;rcases r with _|⟨r0,r'⟩
 rotate_left
 · rw[zJl,zJk]at af;rw[zQg,zQh];obtain⟨pv,rfl,_⟩:=h.form;have HD:=hy' af;clear af az hd hH hs ok h;go_enter Tryz.func59,Tryz.ntmps59;go_wp2_with fail;refine HD.o.mono ?_;rintro e w1 ⟨A1,c1,rfl,ag,ar⟩;have ai:=hy' ar;clear ag ar;go_wp2_with fail;go_ret2;exact RetOwn2.mk (World.ownsRow_nil _ _ _ _) rfl rfl ai.o
 obtain⟨n,hn⟩:∃n,cs.length=n:=⟨_,rfl⟩;have bj:zKI cs []=cs:=rfl;have bk:zPm []=0:=rfl;rw[bj,bk]at af;unfold RetOwn2 at af;rw[hn]at af hcs;have bp:Hy (∀x W,Below w.heap.size w W → -2147483648≤x→x≤2147483647→Calls Tryz.prog 39 #[v,.int .i32 x] W (zD1 .i32 (Ud.full T x) W)):=hy' fun x W hW h3 h4=>Ud.full_any v T S x W ok (h.below hW) h3 h4
 have bn:Hy (∀A c W,Below w.heap.size w W→Sl W W.heap.size A (cs.map (Value.int .i32))→Calls Tryz.prog 96 #[v,.slice A n c] W (zBc (Nf.chars T cs) W)):=hy' fun A c W hW hA=>zMY v T S A n c cs W ok (h.below hW) hn hcs az hA Tx.sym
 obtain⟨pv,rfl,_⟩:=h.form;have HD:=hy' af;have HN:=hy' hn;have bq:=hy' az;have a6:=hy' (fun c=>zBh ok c);clear af hn az hd bj bk hH hs ok h;go_enter Tryz.func59,Tryz.ntmps59;go_wp2_with fail;refine HD.o.mono ?_;rintro e w1 ⟨A1,c1,rfl,ag,ar⟩;have bl:=hy' (Sl.of_own ag);have ai:=hy' ar;have bs:=ar.size;clear ag ar;go_wp2_with fail;go_loopw [8,10,21] (fun nv _ i wr=>∃(k:Nat),k≤n∧i=.int .i64 k∧nv=.int .i64 (Nf.fl T (cs.take k)).length∧(Nf.fl T (cs.take k)).length≤1024∧Below w1.heap.size w1 wr) (fun nv _ i _=>n-(intOf i).toNat)
 case atStart=>exact⟨0,Nat.zero_le _,rfl,rfl,by simp[Nf.fl],Below.refl _ _⟩
 obtain⟨k,hk,rfl,rfl,hle,aa⟩:=hrel
 by_cases hlt:k<n
 · obtain⟨x,hx⟩:∃x,cs[k]?=some x:=⟨_,List.getElem?_eq_getElem (by rw[HN.o];exact hlt)⟩;obtain⟨a8,bg⟩:=bq.o x (List.mem_of_getElem? hx);obtain⟨ab,ao,hA2,bt,bc⟩:=bl.o.below aa (Nat.le_refl _) (by rw[List.length_map,HN.o];omega);have hc:=bc k (by rw[List.length_map,HN.o];exact hlt);rw[List.getElem?_map,hx,Option.map_some]at hc;have ba:=congrArg List.length (zHq (T:=T) hx);rw[List.length_append]at ba;have a7:=zQk T cs (k+1);have bb:=a6.o x;have au:=bp.o x wr (ai.o.trans (aa.mono ai.o.size)) a8 bg;obtain⟨m,hm⟩:∃m,Ud.full T x=m:=⟨_,rfl⟩;obtain⟨ml,ay⟩:∃q,m.length=q:=⟨_,rfl⟩;obtain⟨sn,ak⟩:∃q,(Nf.fl T (cs.take k)).length=q:=⟨_,rfl⟩;obtain⟨s2,aj⟩:∃q,(Nf.fl T (cs.take (k+1))).length=q:=⟨_,rfl⟩;obtain⟨sf,aw⟩:∃q,(Nf.fl T cs).length=q:=⟨_,rfl⟩;unfold zD1 at au;rw[hm,ay]at au bb;rw[aj,ak,hm,ay]at ba;rw[aj,aw]at a7;rw[ak]at hle ⊢;subst ba;have kI:(k:Int)<n:=by omega
   have k0:(0:Int)≤k:=by omega
   have bh:=hy' aj;have bo:=hy' aw;have ae:=hy' aa;have bi:=hy' au;subst hA2
   by_cases hbig:sn+ml≤1024
   · have hg:¬((sn:Int)+ml > 1024):=by omega
     clear hx a8 bg bc hm ay ak au aa aj aw a7;go_wp2_with (first|(go_at_call 39;refine bi.o.mono ?_;rintro e w2 ⟨A2,c2,rfl,aj,aq⟩;have av:=hy' (ae.o.trans (aq.mono ae.o.size));clear aj aq hc)|fail);exact⟨⟨k+1,by omega,by first|rfl|go_num,by rw[bh.o];first|rfl|go_num,by rw[bh.o];exact hbig,av.o⟩,by simp[intOf];omega⟩
   have hg:(sn:Int)+ml > 1024:=by omega
   have ah:¬(Nf.fl T cs).length≤1024:=by rw[bo.o];omega
   have ax:=hy' (zQi ah []);have a1:=hy' (zQj ah);clear hx a8 bg bc hm ay ak au aa aj aw a7 ah;go_wp2_with (first|(go_at_call 39;refine bi.o.mono ?_;rintro e w2 ⟨A2,c2,rfl,aj,aq⟩;have av:=hy' (ae.o.trans (aq.mono ae.o.size));clear aj aq hc)|fail);go_ret2;rw[ax.o,a1.o];exact RetOwn2.mk (World.ownsRow_nil _ _ _ _) rfl rfl (ai.o.trans (av.o.mono ai.o.size))
 obtain rfl:k=n:=by omega
 rw[List.take_of_length_le (by rw[HN.o];exact Nat.le_refl _)]at hle ⊢;have kI:¬(k:Int)<k:=by omega
 have bf:=bn.o A1 c1 wr (ai.o.trans (aa.mono ai.o.size)) (bl.o.below aa aa.size);have ax:=hy' (zLB hle);have a1:=hy' (zLC hle);obtain⟨Z,hZ⟩:∃Z,Nf.chars T cs=Z:=⟨_,rfl⟩;rw[hZ]at bf ax;have ae:=hy' (ai.o.trans (aa.mono ai.o.size));have bm:=hy' bf;clear aa bf hle hZ;go_wp2_with fail;refine bm.o.mono ?_;rintro e w2 ⟨A2,c2,rfl,ap,aq⟩;have br:=hy' (zB0 ap ae.o.size);have av:=hy' (ae.o.trans (aq.mono ae.o.size));clear ap aq bm;go_wp2_with fail;go_ret2;rw[ax.o,a1.o];exact RetOwn2.mk br.o rfl rfl av.o
theorem Nf.of_any (v:Value) (T:List Rw.Row) (S:List Int) (s:ByteArray) (w:World) (ok:Ud.Ok T S) (h:Ud.Is w v T S) (hs:s.size≤1000000000000) (hH:Heads w) (cs:List Int) (r:List UInt8) (hd:zRs s.data.toList cs r) (hcs:cs.length≤3000) :
 Calls Tryz.prog 28 #[v,.string s] w fun e w'=>e=.returned (.tuple #[.string (zA5 (Nf.tl T cs r)),.int .i64 (Nf.tn T cs r)])∧Below w.heap.size w w':=by
 have ag:=Nf.text_any v T S s w ok h hs hH cs r hd hcs
 have hlen:(Nf.tl T cs r).length≤100000:=by
  unfold Nf.tl;split
  · have:=Nf.chars_le ok cs;omega
  simp
 have ah:∀c∈Nf.tl T cs r,-2147483648≤c∧c≤2147483647:=by
  unfold Nf.tl;split
  · exact fun c hc=>Nf.isC_i32 (Nf.chars_isC ok hd.2.1 c hc)
  simp
 have ak:Nf.tn T cs r=0∨(Nf.tn T cs r≠0∧Nf.tl T cs r=[]):=by
  unfold Nf.tn Nf.tl
  by_cases h1:r=[]
  · by_cases h2:(Nf.fl T cs).length≤1024
    · left;rw[if_pos h1,if_pos h2]
    right;rw[if_pos h1,if_neg h2,if_neg (fun g=>h2 g.2)];exact⟨by decide,rfl⟩
  right;rw[if_neg h1,if_neg (fun g=>h1 g.1)];exact⟨by decide,rfl⟩
 obtain⟨z,hz⟩:∃z,Nf.tl T cs r=z:=⟨_,rfl⟩;obtain⟨e,he⟩:∃e,Nf.tn T cs r=e:=⟨_,rfl⟩;rw[hz,he]at ag ⊢;rw[hz]at hlen ah;rw[hz,he]at ak;obtain⟨pv,rfl,_⟩:=h.form;have HT:=hy' ag;have HC:=hy' ah;have HH:=hy' hH;clear ag ah hz he hd hcs ok h hs hH;rcases ak with rfl|⟨hne,rfl⟩
 · go_enter Tryz.func28,Tryz.ntmps28;go_wp2_with fail;refine HT.o.mono ?_;rintro e w1 ⟨A1,c1,rfl,aa,ae⟩;have ai:=zHX A1 c1 w1.heap.size z w1 (Nat.le_refl _) (Sl.of_own aa) (by omega) HC.o (HH.o.next ae);have HE:=hy' ai;have af:=hy' ae;clear aa ae ai;go_wp2_with fail;refine HE.o.mono ?_;rintro e w2 ⟨rfl,aj⟩;have ao:=hy' (af.o.trans (aj.mono af.o.size));clear aj;go_wp2_with fail;go_ret2;exact⟨rfl,ao.o⟩
 have aq:=hy' hne;have ap:(e == 0)=false:=by simpa using hne
 clear hne;go_enter Tryz.func28,Tryz.ntmps28;go_wp2_with fail;refine HT.o.mono ?_;rintro e w1 ⟨A1,c1,rfl,aa,ae⟩;have af:=hy' ae;clear aa ae;go_wp2_with fail;go_ret2;exact⟨rfl,af.o⟩
theorem zHu {z:List Int} (h:∀c∈z,U.isC c=true):zRs (zA5 z).data.toList z []:=by
 rw[zAG h];exact⟨by simp,h,rfl⟩
theorem zBj {z:List Int} (h:∀c∈z,U.isC c=true):(zA5 z).size≤4*z.length:=by
 rw[zAG h];have:=zCA z;show (zA4 z).toArray.size≤_;simpa using this
theorem zGi (A:Option Addr) (n cap:Nat) (l:List Int) (w:World) (hn:l.length=n) (hl:n≤100000000) (hA:Sl w w.heap.size A (l.map (Value.int .i64))) (hb:∀c∈l,U.isC c=true) :
 Calls Tryz.prog 17 #[.slice A n cap] w fun e w'=>e=.returned (.string (zA5 l))∧Below w.heap.size w w':=by
 have:=zLv A cap w.heap.size l w (Nat.le_refl _) hA (by omega) hb;rw[hn]at this;rw[zAG hb];exact this
section
variable (v:Value) (T:List Rw.Row) (S:List Int) (z:List Int) (w:World) (ok:Ud.Ok T S) (h:Ud.Is w v T S) (hH:Heads w) (hz:∀c∈z,C.isC c=true) (hl:z.length≤3000) (hf:(Nf.fl T z).length≤1024)
include ok h hH hz hl hf
theorem Nf.of_chars:Calls Tryz.prog 28 #[v,.string (zA5 z)] w fun e w'=>e=.returned (.tuple #[.string (zA5 (Nf.chars T z)),.int .i64 0])∧Below w.heap.size w w':=by
 have:=Nf.of_any v T S (zA5 z) w ok h (by have:=zBj hz;omega) hH z [] (zHu hz) hl;rw[zLB hf,zLC hf]at this;exact this
end
theorem zLD {T:List Rw.Row} {S:List Int} (ok:Ud.Ok T S) {z:List Int} (h:z.length≤32):(Nf.fl T z).length≤1024:=by
 have:=zFA (fun c=>zBh ok c) z;omega
theorem zQl {T:List Rw.Row} {S:List Int} (ok:Ud.Ok T S) {s:Nc.St} {c:Int} (hs:∀x∈s.out,C.isC x=true) (hc:C.isC c=true):∀x∈(Nc.put (Md.cls T) (Nc.j T S) s c).out,C.isC x=true:=by
 unfold Nc.put;cases h:Nc.hit (Md.cls T) (Nc.j T S) s c with
 | none =>
   intro x hx;simp only[zAs]at hx;rcases List.mem_append.1 hx with h|h
   · exact hs x h
   rw[List.mem_singleton]at h;rw[h];exact hc
 | some p =>
   obtain⟨b,hb,hj,_⟩:=zC3 h;intro x hx;simp only[zCW hb]at hx;rcases List.mem_or_eq_of_mem_set hx with h|h
   · exact hs x h
   rw[h];exact (zOk ok hj).2.2.2
theorem zFB {T:List Rw.Row} {S:List Int} (ok:Ud.Ok T S):∀(l:List Int) (s:Nc.St),(∀x∈s.out,C.isC x=true)→(∀c∈l,C.isC c=true)→∀x∈(Nc.run (Md.cls T) (Nc.j T S) s l).out,C.isC x=true
 | [],s,hs,_=>hs
 | c::l,s,hs,hl=>zFB ok l (Nc.put (Md.cls T) (Nc.j T S) s c) (zQl ok hs (hl c List.mem_cons_self)) fun x hx=>hl x (List.mem_cons_of_mem _ hx)
theorem zI3 {T:List Rw.Row} {S:List Int} (ok:Ud.Ok T S) {l:List Int} (h:∀c∈l,C.isC c=true):∀x∈zBX T S l,C.isC x=true :=
 zFB ok l Nc.s0 (fun x hx=>by cases hx) h
theorem zJu {f:Int→Int} {j:Int→Int→Option Int} {l:List Int} {k:Nat} {x:Int} (hx:l[k]?=some x):Nc.run f j Nc.s0 (l.take (k+1))=Nc.put f j (Nc.run f j Nc.s0 (l.take k)) x:=by
 rw[List.take_add_one,hx];exact zHm Nc.s0 (l.take k) [x]
theorem zPo {s:Nc.St} {x:Int} (h:s.b=some x):x∈s.out:=List.mem_of_getElem? (zDc h)
theorem zOt (v:Value) (T:List Rw.Row) (S:List Int) (A:Option Addr) (n c:Nat) (l:List Int) (w:World) (ok:Ud.Ok T S) (h:Ud.Is w v T S) (hl:l.length=n) (hn:n≤100000) (aq:∀x∈l,C.isC x=true) (hA:Sl w w.heap.size A (l.map (Value.int .i32))) :
 Calls Tryz.prog 62 #[v,.slice A n c] w (zBc (zBX T S l) w):=by
 obtain⟨pb,rfl,hpb⟩:=h.form;have a1:Hy (∀(s:Nc.St) (x:Int) (W:World),Below w.heap.size w W→Nc.In W w.heap.size (.pointer (some ⟨pb,0,none⟩)) (Md.cls T) s→C.isC x=true→s.out.length≤100000→(∀y∈s.out,C.isC y=true)→Calls Tryz.prog 98 #[.pointer (some ⟨w.heap.size,0,none⟩),.int .i32 x] W fun e w'=>e=.returned (.tuple #[])∧Nc.In w' w.heap.size (.pointer (some ⟨pb,0,none⟩)) (Md.cls T) (Nc.put (Md.cls T) (Nc.j T S) s x)∧Below w.heap.size W w'):=hy' fun s x W hW hI hx hs hsc=>Nc.put_any w.heap.size _ T S s x W ok (h.below hW) hI (Nf.isC_i32 hx).1 (Nf.isC_i32 hx).2 hs (fun y hy=>Nf.isC_i32 (hsc y (zPo hy)))
 have az:=hy' (fun k=>zFB ok (l.take k) Nc.s0 (fun x hx=>by cases hx) (fun c hc=>aq c (List.mem_of_mem_take hc)));obtain⟨f,hf⟩:∃f,Md.cls T=f:=⟨_,rfl⟩;obtain⟨j,hj⟩:∃j,Nc.j T S=j:=⟨_,rfl⟩;have ay:zBX T S l=(Nc.run f j Nc.s0 l).out:=by rw[←hf,←hj];rfl
 rw[ay];rw[hf,hj]at a1;rw[hf,hj]at az;obtain⟨wa,ai⟩:∃wa,w.alloc (.cells #[.pointer (some ⟨pb,0,none⟩),.slice none 0 0,.int .i64 (-1),.int .i64 (-1)] 187)=wa:=⟨_,rfl⟩;have aw:Below w.heap.size w wa:=by rw[←ai];exact (Below.refl _ _).alloc (Nat.le_refl _) _
 have ae:Nc.In wa w.heap.size (.pointer (some ⟨pb,0,none⟩)) f Nc.s0:=by
  refine⟨none,0,?_,World.ownsRow_nil _ _ _ _⟩;rw[←ai];exact Rw.At.new w 187 [.pointer (some ⟨pb,0,none⟩),.slice none 0 0,.int .i64 (-1),.int .i64 (-1)]
 have bg:=hy' ai;have a7:=hy' aw;have ba:=hy' ae;have HL:=hy' hl;have a8:=hy' aq;have HA:=hy' hA;clear ai aw ae hl aq hA h ok hf hj ay hpb;go_enter Tryz.func62,Tryz.ntmps62;go_upto_region 2 with (fail)
 rw[bg.o];go_wp2_with fail;go_loopw [7,13] (fun _ i wr=>∃(k:Nat),k≤n∧i=.int .i64 k∧Nc.In wr w.heap.size (.pointer (some ⟨pb,0,none⟩)) f (Nc.run f j Nc.s0 (l.take k))∧Below w.heap.size w wr) (fun _ i _=>n-(intOf i).toNat)
 case atStart=>exact⟨0,Nat.zero_le _,rfl,ba.o,a7.o⟩
 obtain⟨k,hk,rfl,ae,aa⟩:=hrel
 by_cases hlt:k<n
 · obtain⟨x,hx⟩:∃x,l[k]?=some x:=⟨_,List.getElem?_eq_getElem (by rw[HL.o];exact hlt)⟩;have ax:=a8.o x (List.mem_of_getElem? hx);obtain⟨ab,ao,hA2,bh,av⟩:=HA.o.below aa aa.size (by rw[List.length_map,HL.o];omega);have hc:=av k (by rw[List.length_map,HL.o];exact hlt);rw[List.getElem?_map,hx,Option.map_some]at hc;have ag:=zJu (f:=f) (j:=j) hx;have hlen:=(Nc.run_len (f:=f) (j:=j) (l.take k) Nc.s0).2.1;rw[List.length_take,HL.o]at hlen;have bf:Nc.s0.out.length=0:=rfl;have bb:=hy' (a1.o _ x wr aa ae ax (by omega) (az.o k));have ar:=hy' ag;have ak:=hy' aa;have kI:(k:Int)<n:=by omega
   have k0:(0:Int)≤k:=by omega
   subst hA2;clear hx ax av ag hlen ae aa bf;go_wp2_with fail;refine bb.o.mono ?_;rintro e w1 ⟨rfl,ah,au⟩;have ap:=hy' ah;have a6:=hy' (ak.o.trans au);clear ah au;go_wp2_with fail;exact⟨⟨k+1,by omega,by first|rfl|go_num,by rw[ar.o];exact ap.o,a6.o⟩,by simp[intOf];omega⟩
 obtain rfl:k=n:=by omega
 rw[List.take_of_length_le (by rw[HL.o];exact Nat.le_refl _)]at ae;obtain⟨s,hs⟩:∃s,Nc.run f j Nc.s0 l=s:=⟨_,rfl⟩;rw[hs]at ae;have bc:=hy' hs;obtain⟨A4,c4,aj,af⟩:=ae;obtain⟨sn,ag⟩:∃q,s.out.length=q:=⟨_,rfl⟩;rw[ag]at aj af;have kI:¬(k:Int)<k:=by omega
 have z1:=aj.cell 1 rfl;have zl:=aj.lt;have HO:=hy' (zB0 af (Nat.le_succ _));have HB:=hy' aa;have ar:=hy' ag;clear aj af aa hs ag;go_wp2_with fail;go_ret;unfold zBc;rw[bc.o,ar.o];exact⟨_,_,rfl,HO.o,HB.o⟩
def Nc.tl (T:List Rw.Row) (S:List Int) (cs:List Int) (r:List UInt8):List Int:=zBX T S (Nf.tl T cs r)
theorem Nc.of_any (v:Value) (T:List Rw.Row) (S:List Int) (s:ByteArray) (w:World) (ok:Ud.Ok T S) (h:Ud.Is w v T S) (hs:s.size≤1000000000000) (hH:Heads w) (cs:List Int) (r:List UInt8) (hd:zRs s.data.toList cs r) (hcs:cs.length≤3000) :
 Calls Tryz.prog 29 #[v,.string s] w fun e w'=>e=.returned (.tuple #[.string (zA5 (Nc.tl T S cs r)),.int .i64 (Nf.tn T cs r)])∧Below w.heap.size w w':=by
 have ak:=Nf.of_any v T S s w ok h hs hH cs r hd hcs
 have aa:∀c∈Nf.tl T cs r,C.isC c=true:=by
  unfold Nf.tl;split
  · exact Nf.chars_isC ok hd.2.1
  simp
 have hlen:(Nf.tl T cs r).length≤96000:=by
  unfold Nf.tl;split
  · have:=Nf.chars_le ok cs;omega
  simp
 have av:Nf.tn T cs r=0∨(Nf.tn T cs r≠0∧Nf.tl T cs r=[]):=by
  unfold Nf.tn Nf.tl
  by_cases h1:r=[]
  · by_cases h2:(Nf.fl T cs).length≤1024
    · left;rw[if_pos h1,if_pos h2]
    right;rw[if_pos h1,if_neg h2,if_neg (fun g=>h2 g.2)];exact⟨by decide,rfl⟩
  right;rw[if_neg h1,if_neg (fun g=>h1 g.1)];exact⟨by decide,rfl⟩
 unfold Nc.tl;obtain⟨z,hz⟩:∃z,Nf.tl T cs r=z:=⟨_,rfl⟩;obtain⟨e,he⟩:∃e,Nf.tn T cs r=e:=⟨_,rfl⟩;rw[hz,he]at ak av;rw[hz]at aa hlen ⊢;rw[he];obtain⟨zn,ag⟩:∃q,z.length=q:=⟨_,rfl⟩;have ai:=zI3 ok (S:=S) aa;have ap:(zBX T S z).length≤z.length:=(zJ5 _).1;obtain⟨R,hR⟩:∃R,zBX T S z=R:=⟨_,rfl⟩;obtain⟨rn,aj⟩:∃q,R.length=q:=⟨_,rfl⟩;rw[hR]at ai ap;rw[ag]at hlen;rw[aj,ag]at ap
 have ay:Hy (∀W,Below w.heap.size w W→Calls Tryz.prog 61 #[.string (zA5 z)] W fun e w'=>∃A' c',e=.returned (.tuple #[.slice A' zn c',.int .i64 0])∧Sl w' w'.heap.size A' (z.map (Value.int .i32))∧Below W.heap.size W w'):=hy' fun W hW=>by
  refine (zHV (zA5 z) W (by have:=zBj aa;omega) (hH.next hW) z [] (zHu aa)).mono ?_;rintro e w' ⟨A',c',rfl,ho,hb⟩;rw[show zKI z []=z from rfl,show zPm []=0 from rfl]at *;rw[ag]at ho ⊢;exact⟨A',c',rfl,Sl.of_own ho,hb⟩
 have HJ:Hy (∀A' c' W,Below w.heap.size w W→Sl W W.heap.size A' (z.map (Value.int .i32))→Calls Tryz.prog 62 #[v,.slice A' zn c'] W fun e w'=>∃A' c',e=.returned (.slice A' rn c')∧Sl w' w'.heap.size A' (R.map (Value.int .i32))∧Below W.heap.size W w'):=hy' fun A' c' W hW aq=>by
  refine (zOt v T S A' zn c' z W ok (h.below hW) ag (by omega) aa aq).mono ?_;rintro e w' ⟨A',c',rfl,ho,hb⟩;rw[hR,aj]at ho ⊢;exact⟨A',c',rfl,Sl.of_own ho,hb⟩
 have a1:Hy (∀A' c' W,Below w.heap.size w W→Sl W W.heap.size A' (R.map (Value.int .i32))→Calls Tryz.prog 60 #[.slice A' rn c'] W fun e w'=>e=.returned (.tuple #[.string (zA5 R),.int .i64 0])∧Below W.heap.size W w'):=hy' fun A' c' W hW aq=>by
  have:=zHX A' c' W.heap.size R W (Nat.le_refl _) aq (by omega) (fun x hx=>Nf.isC_i32 (ai x hx)) (hH.next hW);rw[aj,zRu ai]at this;exact this
 obtain⟨sR,ah⟩:∃q,zA5 R=q:=⟨_,rfl⟩;obtain⟨sz,ba⟩:∃q,zA5 z=q:=⟨_,rfl⟩
 have az:e≠0→sR=⟨#[]⟩:=fun hne=>by
  rcases av with h0|⟨_,h0⟩
  · exact absurd h0 hne
  subst h0;rw[←ah,←hR];rfl
 rw[hR,ah];rw[ah]at a1;rw[ba]at ay ak
 have ar:e=0∨(e≠0∧sR=⟨#[]⟩):=by
  by_cases h0:e=0
  · exact .inl h0
  exact .inr ⟨h0,az h0⟩
 obtain⟨pb,rfl,_⟩:=h.form;have HO:=hy' ak;clear ak aa hlen av hz he ag ai hR ap aj ah ba az hd hcs ok h hs hH;rcases ar with rfl|⟨hne,rfl⟩
 · go_enter Tryz.func29,Tryz.ntmps29;go_wp2_with fail;refine HO.o.mono ?_;rintro e w1 ⟨rfl,af⟩;have ae:=hy' af;clear af;go_wp2_with fail;refine (ay.o w1 ae.o).mono ?_;rintro e w2 ⟨A2,c2,rfl,ax,a7⟩;have bb:=hy' ax;have au:=hy' (ae.o.trans (a7.mono ae.o.size));clear ax a7;go_wp2_with fail;refine (HJ.o A2 c2 w2 au.o bb.o).mono ?_;rintro e w3 ⟨A3,c3,rfl,a8,a6⟩;have bc:=hy' a8;have ao:=hy' (au.o.trans (a6.mono au.o.size));clear a8 a6;go_wp2_with fail;refine (a1.o A3 c3 w3 ao.o bc.o).mono ?_;rintro e w4 ⟨rfl,aw⟩;have bf:=hy' (ao.o.trans (aw.mono ao.o.size));clear aw;go_wp2_with fail;go_ret2;exact⟨rfl,bf.o⟩
 have bg:(e == 0)=false:=by simpa using hne
 clear hne;go_enter Tryz.func29,Tryz.ntmps29;go_wp2_with fail;refine HO.o.mono ?_;rintro e w1 ⟨rfl,af⟩;have ae:=hy' af;clear af;go_wp2_with fail;go_ret2;exact⟨rfl,ae.o⟩
theorem Nc.chars_isC {T:List Rw.Row} {S:List Int} (ok:Ud.Ok T S) {l:List Int} (h:∀c∈l,C.isC c=true):∀x∈Nc.chars T S l,C.isC x=true:=zI3 ok (Nf.chars_isC ok h)
theorem Nc.chars_le {T:List Rw.Row} {S:List Int} (ok:Ud.Ok T S) (l:List Int):(Nc.chars T S l).length≤(Nf.fl T l).length:=by
 rw[←Nf.chars_len];exact (Nc.chars_len ok l).1
section
variable (v:Value) (T:List Rw.Row) (S:List Int) (z:List Int) (w:World) (ok:Ud.Ok T S) (h:Ud.Is w v T S) (hH:Heads w) (hz:∀c∈z,C.isC c=true) (hl:z.length≤3000) (hf:(Nf.fl T z).length≤1024)
include ok h hH hz hl hf
theorem Nc.of_chars:Calls Tryz.prog 29 #[v,.string (zA5 z)] w fun e w'=>e=.returned (.tuple #[.string (zA5 (Nc.chars T S z)),.int .i64 0])∧Below w.heap.size w w':=by
 have:=Nc.of_any v T S (zA5 z) w ok h (by have:=zBj hz;omega) hH z [] (zHu hz) hl;unfold Nc.tl at this;rw[zLB hf,zLC hf]at this;exact this
end
end Go.Proofs.YtdbpjmfflofadaaGreatDoor
namespace Go.Proofs
open Go.Shelf
def Tryz.lays169_ren:Go.Shelf.Ren:=⟨fun|169=>53|n=>n,fun|70=>96|9=>9|0=>0|72=>98|37=>30|127=>171|3=>3|5=>5|n=>n,fun|n=>n⟩
theorem Tryz.lays169:Go.Proofs.Lays.n169 Tryz.prog Tryz.lays169_ren:={
 mixed:=by kernel_rfl
 f169:=Tryz.func53.trans (congrArg some (by kernel_rfl))
 t0:=Tryz.underlying0
 a0:=Tryz.isAgg0
 z0:=Tryz.sizeOf0
 v0:=Tryz.zeroValue0
 t3:=Tryz.underlying3
 a3:=Tryz.isAgg3
 z3:=Tryz.sizeOf3
 v3:=Tryz.zeroValue3
 t9:=Tryz.underlying9
 a9:=Tryz.isAgg9
 z9:=Tryz.sizeOf9
 v9:=Tryz.zeroValue9
 t37:=Tryz.underlying30
 a37:=Tryz.isAgg30
 z37:=Tryz.sizeOf30
 v37:=Tryz.zeroValue30
 t70:=Tryz.underlying96
 a70:=Tryz.isAgg96
 z70:=Tryz.sizeOf96
 v70:=Tryz.zeroValue96
 t72:=Tryz.underlying98
 a72:=Tryz.isAgg98
 z72:=Tryz.sizeOf98
 v72:=Tryz.zeroValue98
 t127:=Tryz.underlying171
 a127:=Tryz.isAgg171
 z127:=Tryz.sizeOf171
 v127:=Tryz.zeroValue171 }
theorem Tryz.Builder_Extra_169:Builder.Extra Tryz.prog Tryz.lays169_ren:={
 sizeBuilder:=by kernel_rfl
 liesBuilder:=by kernel_rfl
 t5:=Tryz.underlying5
 a5:=Tryz.isAgg5
 z5:=Tryz.sizeOf5
 v5:=Tryz.zeroValue5
 infoByte:=by kernel_rfl
 cellsByte:=by kernel_rfl
 sizeByte:=by kernel_rfl
 neB5:=by decide }
open Go.RowKit in
theorem Tryz.Builder_String_any (B b:Nat) (l:List UInt8) (w:World) (h:Lib.IsBuilder 98 5 B b (Lib.byteCells l) w) (hBw:B≤w.heap.size) :
 Calls Tryz.prog 53 #[.pointer (some ⟨b,0,none⟩)] w fun e w'=>e=.returned (.string ⟨l.toArray⟩)∧Below B w w':=Any.Builder_String_any Tryz.lays169 Tryz.Builder_Extra_169 B b l w h hBw
def Tryz.lays158_ren:Go.Shelf.Ren:=⟨fun|158=>130|165=>133|166=>50|167=>167|169=>53|230=>168|203=>169|240=>89|241=>171|197=>200|118=>203|168=>204|270=>205|262=>206|276=>129|277=>211|260=>230|242=>233|313=>234|278=>252|274=>253|275=>254|n=>n,fun|9=>9|4=>4|3=>3|5=>5|72=>98|0=>0|76=>106|75=>58|107=>269|70=>96|20=>20|37=>30|127=>171|21=>21|105=>292|164=>233|162=>314|203=>217|119=>330|46=>192|139=>333|138=>332|51=>279|160=>334|208=>344|206=>342|80=>61|n=>n,fun|13=>2|3=>4|4=>5|n=>n⟩
theorem Tryz.lays158:Go.Proofs.Lays.n158 Tryz.prog Tryz.lays158_ren:={
 mixed:=by kernel_rfl
 f118:=Tryz.func203.trans (congrArg some (by kernel_rfl))
 f158:=Tryz.func130.trans (congrArg some (by kernel_rfl))
 f165:=Tryz.func133.trans (congrArg some (by kernel_rfl))
 f166:=Tryz.func50.trans (congrArg some (by kernel_rfl))
 f167:=Tryz.func167.trans (congrArg some (by kernel_rfl))
 f168:=Tryz.func204.trans (congrArg some (by kernel_rfl))
 f169:=Tryz.func53.trans (congrArg some (by kernel_rfl))
 f197:=Tryz.func200.trans (congrArg some (by kernel_rfl))
 f203:=Tryz.func169.trans (congrArg some (by kernel_rfl))
 f230:=Tryz.func168.trans (congrArg some (by kernel_rfl))
 f240:=Tryz.func89.trans (congrArg some (by kernel_rfl))
 f241:=Tryz.func171.trans (congrArg some (by kernel_rfl))
 f242:=Tryz.func233.trans (congrArg some (by kernel_rfl))
 f260:=Tryz.func230.trans (congrArg some (by kernel_rfl))
 f262:=Tryz.func206.trans (congrArg some (by kernel_rfl))
 f270:=Tryz.func205.trans (congrArg some (by kernel_rfl))
 f274:=Tryz.func253.trans (congrArg some (by kernel_rfl))
 f275:=Tryz.func254.trans (congrArg some (by kernel_rfl))
 f276:=Tryz.func129.trans (congrArg some (by kernel_rfl))
 f277:=Tryz.func211.trans (congrArg some (by kernel_rfl))
 f278:=Tryz.func252.trans (congrArg some (by kernel_rfl))
 f313:=Tryz.func234.trans (congrArg some (by kernel_rfl))
 t0:=Tryz.underlying0
 a0:=Tryz.isAgg0
 z0:=Tryz.sizeOf0
 v0:=Tryz.zeroValue0
 t3:=Tryz.underlying3
 a3:=Tryz.isAgg3
 z3:=Tryz.sizeOf3
 v3:=Tryz.zeroValue3
 t4:=Tryz.underlying4
 a4:=Tryz.isAgg4
 z4:=Tryz.sizeOf4
 v4:=Tryz.zeroValue4
 t5:=Tryz.underlying5
 a5:=Tryz.isAgg5
 z5:=Tryz.sizeOf5
 v5:=Tryz.zeroValue5
 t9:=Tryz.underlying9
 a9:=Tryz.isAgg9
 z9:=Tryz.sizeOf9
 v9:=Tryz.zeroValue9
 t20:=Tryz.underlying20
 a20:=Tryz.isAgg20
 z20:=Tryz.sizeOf20
 v20:=Tryz.zeroValue20
 t21:=Tryz.underlying21
 a21:=Tryz.isAgg21
 z21:=Tryz.sizeOf21
 v21:=Tryz.zeroValue21
 t37:=Tryz.underlying30
 a37:=Tryz.isAgg30
 z37:=Tryz.sizeOf30
 v37:=Tryz.zeroValue30
 t46:=Tryz.underlying192
 a46:=Tryz.isAgg192
 z46:=Tryz.sizeOf192
 v46:=Tryz.zeroValue192
 t51:=Tryz.underlying279
 a51:=Tryz.isAgg279
 z51:=Tryz.sizeOf279
 v51:=Tryz.zeroValue279
 t70:=Tryz.underlying96
 a70:=Tryz.isAgg96
 z70:=Tryz.sizeOf96
 v70:=Tryz.zeroValue96
 t72:=Tryz.underlying98
 a72:=Tryz.isAgg98
 z72:=Tryz.sizeOf98
 v72:=Tryz.zeroValue98
 t75:=Tryz.underlying58
 a75:=Tryz.isAgg58
 z75:=Tryz.sizeOf58
 v75:=Tryz.zeroValue58
 t76:=Tryz.underlying106
 a76:=Tryz.isAgg106
 z76:=Tryz.sizeOf106
 v76:=Tryz.zeroValue106
 t105:=Tryz.underlying292
 a105:=Tryz.isAgg292
 z105:=Tryz.sizeOf292
 v105:=Tryz.zeroValue292
 t107:=Tryz.underlying269
 a107:=Tryz.isAgg269
 z107:=Tryz.sizeOf269
 v107:=Tryz.zeroValue269
 t119:=Tryz.underlying330
 a119:=Tryz.isAgg330
 z119:=Tryz.sizeOf330
 t127:=Tryz.underlying171
 a127:=Tryz.isAgg171
 z127:=Tryz.sizeOf171
 v127:=Tryz.zeroValue171
 t138:=Tryz.underlying332
 a138:=Tryz.isAgg332
 z138:=Tryz.sizeOf332
 v138:=Tryz.zeroValue332
 t139:=Tryz.underlying333
 a139:=Tryz.isAgg333
 z139:=Tryz.sizeOf333
 v139:=Tryz.zeroValue333
 t160:=Tryz.underlying334
 a160:=Tryz.isAgg334
 z160:=Tryz.sizeOf334
 v160:=Tryz.zeroValue334
 t162:=Tryz.underlying314
 a162:=Tryz.isAgg314
 z162:=Tryz.sizeOf314
 v162:=Tryz.zeroValue314
 t164:=Tryz.underlying233
 a164:=Tryz.isAgg233
 z164:=Tryz.sizeOf233
 v164:=Tryz.zeroValue233
 t203:=Tryz.underlying217
 a203:=Tryz.isAgg217
 z203:=Tryz.sizeOf217
 v203:=Tryz.zeroValue217
 t206:=Tryz.underlying342
 a206:=Tryz.isAgg342
 z206:=Tryz.sizeOf342
 v206:=Tryz.zeroValue342
 t208:=Tryz.underlying344
 a208:=Tryz.isAgg344
 z208:=Tryz.sizeOf344
 v208:=Tryz.zeroValue344
 g3:=by kernel_rfl
 g4:=by kernel_rfl
 g13:=by kernel_rfl }
theorem Tryz.Builder_Extra_158:Builder.Extra Tryz.prog Tryz.lays158_ren:={
 sizeBuilder:=by kernel_rfl
 liesBuilder:=by kernel_rfl
 t5:=Tryz.underlying5
 a5:=Tryz.isAgg5
 z5:=Tryz.sizeOf5
 v5:=Tryz.zeroValue5
 infoByte:=by kernel_rfl
 cellsByte:=by kernel_rfl
 sizeByte:=by kernel_rfl
 neB5:=by decide }
open Go.RowKit in
theorem Tryz.strings_ToUpper_ascii (s:ByteArray) (w:World) (hs:s.size≤140737488355328) (hascii:∀(j:Nat) (b:UInt8),s.data.toList[j]?=some b→b.toNat<128) :
 Calls Tryz.prog 130 #[.string s] w fun e w'=>e=.returned (.string ⟨(Lib.toUpperA s.data.toList).toArray⟩)∧Below w.heap.size w w':=Any.strings_ToUpper_ascii Tryz.lays158 Tryz.Builder_Extra_158 s w hs hascii
def Tryz.lays156_ren:Go.Shelf.Ren:=⟨fun|156=>92|165=>133|166=>50|169=>53|240=>89|241=>171|276=>129|277=>211|n=>n,fun|31=>44|9=>9|3=>3|4=>4|0=>0|20=>20|72=>98|76=>106|70=>96|37=>30|75=>58|127=>171|164=>233|5=>5|80=>61|n=>n,fun|n=>n⟩
theorem Tryz.lays156:Go.Proofs.Lays.n156 Tryz.prog Tryz.lays156_ren:={
 mixed:=by kernel_rfl
 f156:=Tryz.func92.trans (congrArg some (by kernel_rfl))
 f165:=Tryz.func133.trans (congrArg some (by kernel_rfl))
 f166:=Tryz.func50.trans (congrArg some (by kernel_rfl))
 f169:=Tryz.func53.trans (congrArg some (by kernel_rfl))
 f240:=Tryz.func89.trans (congrArg some (by kernel_rfl))
 f241:=Tryz.func171.trans (congrArg some (by kernel_rfl))
 f276:=Tryz.func129.trans (congrArg some (by kernel_rfl))
 f277:=Tryz.func211.trans (congrArg some (by kernel_rfl))
 t0:=Tryz.underlying0
 a0:=Tryz.isAgg0
 z0:=Tryz.sizeOf0
 v0:=Tryz.zeroValue0
 t3:=Tryz.underlying3
 a3:=Tryz.isAgg3
 z3:=Tryz.sizeOf3
 v3:=Tryz.zeroValue3
 t4:=Tryz.underlying4
 a4:=Tryz.isAgg4
 z4:=Tryz.sizeOf4
 v4:=Tryz.zeroValue4
 t9:=Tryz.underlying9
 a9:=Tryz.isAgg9
 z9:=Tryz.sizeOf9
 v9:=Tryz.zeroValue9
 t20:=Tryz.underlying20
 a20:=Tryz.isAgg20
 z20:=Tryz.sizeOf20
 v20:=Tryz.zeroValue20
 t31:=Tryz.underlying44
 a31:=Tryz.isAgg44
 z31:=Tryz.sizeOf44
 v31:=Tryz.zeroValue44
 t37:=Tryz.underlying30
 a37:=Tryz.isAgg30
 z37:=Tryz.sizeOf30
 v37:=Tryz.zeroValue30
 t70:=Tryz.underlying96
 a70:=Tryz.isAgg96
 z70:=Tryz.sizeOf96
 v70:=Tryz.zeroValue96
 t72:=Tryz.underlying98
 a72:=Tryz.isAgg98
 z72:=Tryz.sizeOf98
 v72:=Tryz.zeroValue98
 t75:=Tryz.underlying58
 a75:=Tryz.isAgg58
 z75:=Tryz.sizeOf58
 v75:=Tryz.zeroValue58
 t76:=Tryz.underlying106
 a76:=Tryz.isAgg106
 z76:=Tryz.sizeOf106
 v76:=Tryz.zeroValue106
 t127:=Tryz.underlying171
 a127:=Tryz.isAgg171
 z127:=Tryz.sizeOf171
 v127:=Tryz.zeroValue171
 t164:=Tryz.underlying233
 a164:=Tryz.isAgg233
 z164:=Tryz.sizeOf233
 v164:=Tryz.zeroValue233 }
theorem Tryz.Builder_Extra_156:Builder.Extra Tryz.prog Tryz.lays156_ren:={
 sizeBuilder:=by kernel_rfl
 liesBuilder:=by kernel_rfl
 t5:=Tryz.underlying5
 a5:=Tryz.isAgg5
 z5:=Tryz.sizeOf5
 v5:=Tryz.zeroValue5
 infoByte:=by kernel_rfl
 cellsByte:=by kernel_rfl
 sizeByte:=by kernel_rfl
 neB5:=by decide }
open Go.RowKit in
theorem Tryz.strings_Join_none (a:Option Addr) (c:Nat) (sep:ByteArray) (w:World) :
 Calls Tryz.prog 92 #[.slice a 0 c,.string sep] w fun e w'=>e=.returned (.string ⟨#[]⟩)∧w'=w:=Any.strings_Join_none Tryz.lays156 Tryz.Builder_Extra_156 a c sep w
open Go.RowKit in
theorem Tryz.strings_Join (bk o c:Nat) (xs:List ByteArray) (sep:ByteArray) (w:World) (hcells:∀(j:Nat) x,xs[j]?=some x→w.cell? ⟨bk,o+j,none⟩=some (.string x)) (hbk:bk<w.heap.size) (hN:xs.length≤140737488355328) (hcap:xs.length≤c) (hlen:(Lib.join (xs.map (·.data.toList)) sep.data.toList).length≤140737488355328) :
 Calls Tryz.prog 92 #[.slice (some ⟨bk,o,none⟩) xs.length c,.string sep] w fun e w'=>e=.returned (.string ⟨(Lib.join (xs.map (·.data.toList)) sep.data.toList).toArray⟩)∧Below w.heap.size w w':=Any.strings_Join Tryz.lays156 Tryz.Builder_Extra_156 bk o c xs sep w hcells hbk hN hcap hlen
def Tryz.lays160_ren:Go.Shelf.Ren:=⟨fun|160=>121|232=>156|231=>155|227=>157|234=>159|233=>158|236=>161|235=>160|228=>199|271=>202|151=>201|197=>200|120=>232|152=>231|260=>230|137=>148|119=>251|224=>228|225=>227|217=>192|266=>220|n=>n,fun|9=>9|4=>4|3=>3|5=>5|117=>260|116=>259|0=>0|124=>263|21=>21|105=>292|46=>192|119=>330|139=>333|138=>332|n=>n,fun|3=>4|4=>5|n=>n⟩
theorem Tryz.lays160:Go.Proofs.Lays.n160 Tryz.prog Tryz.lays160_ren:={
 mixed:=by kernel_rfl
 f119:=Tryz.func251.trans (congrArg some (by kernel_rfl))
 f120:=Tryz.func232.trans (congrArg some (by kernel_rfl))
 f137:=Tryz.func148.trans (congrArg some (by kernel_rfl))
 f151:=Tryz.func201.trans (congrArg some (by kernel_rfl))
 f152:=Tryz.func231.trans (congrArg some (by kernel_rfl))
 f160:=Tryz.func121.trans (congrArg some (by kernel_rfl))
 f197:=Tryz.func200.trans (congrArg some (by kernel_rfl))
 f217:=Tryz.func192.trans (congrArg some (by kernel_rfl))
 f224:=Tryz.func228.trans (congrArg some (by kernel_rfl))
 f225:=Tryz.func227.trans (congrArg some (by kernel_rfl))
 f227:=Tryz.func157.trans (congrArg some (by kernel_rfl))
 f228:=Tryz.func199.trans (congrArg some (by kernel_rfl))
 f231:=Tryz.func155.trans (congrArg some (by kernel_rfl))
 f232:=Tryz.func156.trans (congrArg some (by kernel_rfl))
 f233:=Tryz.func158.trans (congrArg some (by kernel_rfl))
 f234:=Tryz.func159.trans (congrArg some (by kernel_rfl))
 f235:=Tryz.func160.trans (congrArg some (by kernel_rfl))
 f236:=Tryz.func161.trans (congrArg some (by kernel_rfl))
 f260:=Tryz.func230.trans (congrArg some (by kernel_rfl))
 f266:=Tryz.func220.trans (congrArg some (by kernel_rfl))
 f271:=Tryz.func202.trans (congrArg some (by kernel_rfl))
 t0:=Tryz.underlying0
 a0:=Tryz.isAgg0
 z0:=Tryz.sizeOf0
 v0:=Tryz.zeroValue0
 t3:=Tryz.underlying3
 a3:=Tryz.isAgg3
 z3:=Tryz.sizeOf3
 v3:=Tryz.zeroValue3
 t4:=Tryz.underlying4
 a4:=Tryz.isAgg4
 z4:=Tryz.sizeOf4
 v4:=Tryz.zeroValue4
 t5:=Tryz.underlying5
 a5:=Tryz.isAgg5
 z5:=Tryz.sizeOf5
 v5:=Tryz.zeroValue5
 t9:=Tryz.underlying9
 a9:=Tryz.isAgg9
 z9:=Tryz.sizeOf9
 v9:=Tryz.zeroValue9
 t21:=Tryz.underlying21
 a21:=Tryz.isAgg21
 z21:=Tryz.sizeOf21
 v21:=Tryz.zeroValue21
 t46:=Tryz.underlying192
 a46:=Tryz.isAgg192
 z46:=Tryz.sizeOf192
 v46:=Tryz.zeroValue192
 t105:=Tryz.underlying292
 a105:=Tryz.isAgg292
 z105:=Tryz.sizeOf292
 v105:=Tryz.zeroValue292
 t116:=Tryz.underlying259
 a116:=Tryz.isAgg259
 z116:=Tryz.sizeOf259
 t117:=Tryz.underlying260
 a117:=Tryz.isAgg260
 z117:=Tryz.sizeOf260
 v117:=Tryz.zeroValue260
 t119:=Tryz.underlying330
 a119:=Tryz.isAgg330
 z119:=Tryz.sizeOf330
 t124:=Tryz.underlying263
 a124:=Tryz.isAgg263
 z124:=Tryz.sizeOf263
 v124:=Tryz.zeroValue263
 t138:=Tryz.underlying332
 a138:=Tryz.isAgg332
 z138:=Tryz.sizeOf332
 v138:=Tryz.zeroValue332
 t139:=Tryz.underlying333
 a139:=Tryz.isAgg333
 z139:=Tryz.sizeOf333
 v139:=Tryz.zeroValue333
 g3:=by kernel_rfl
 g4:=by kernel_rfl }
open Go.RowKit in
theorem Tryz.strings_Trim_one (s:ByteArray) (c:UInt8) (hc:c.toNat<128) (w:World) (hs:s.size≤9223372036854775807) :
 Calls Tryz.prog 121 #[.string s,.string ⟨#[c]⟩] w fun e w'=>e=.returned (.string ⟨(Lib.trimB s.data.toList c).toArray⟩)∧(w'=w∨w'=w.drew):=Any.strings_Trim_one Tryz.lays160 s c hc w hs
def Tryz.lays137_ren:Go.Shelf.Ren:=⟨fun|137=>148|217=>192|266=>220|n=>n,fun|9=>9|5=>5|3=>3|n=>n,fun|n=>n⟩
theorem Tryz.lays137:Go.Proofs.Lays.n137 Tryz.prog Tryz.lays137_ren:={
 mixed:=by kernel_rfl
 f137:=Tryz.func148.trans (congrArg some (by kernel_rfl))
 f217:=Tryz.func192.trans (congrArg some (by kernel_rfl))
 f266:=Tryz.func220.trans (congrArg some (by kernel_rfl))
 t3:=Tryz.underlying3
 a3:=Tryz.isAgg3
 z3:=Tryz.sizeOf3
 v3:=Tryz.zeroValue3
 t5:=Tryz.underlying5
 a5:=Tryz.isAgg5
 z5:=Tryz.sizeOf5
 v5:=Tryz.zeroValue5
 t9:=Tryz.underlying9
 a9:=Tryz.isAgg9
 z9:=Tryz.sizeOf9
 v9:=Tryz.zeroValue9 }
open Go.RowKit in
theorem Tryz.strings_IndexByte (s:ByteArray) (c:Int) (w:World) :
 Calls Tryz.prog 148 #[.string s,.int .u8 c] w fun e w'=>e=.returned (.int .i64 (Lib.indexByte s.data.toList c.toNat.toUInt8))∧w'=w:=Any.strings_IndexByte Tryz.lays137 s c w
def Tryz.laysM171_ren:Go.Shelf.Ren:=⟨fun|171=>91|243=>132|246=>170|283=>207|284=>208|285=>209|286=>210|129=>182|317=>235|318=>236|319=>237|320=>238|337=>255|338=>256|n=>n,fun|3=>3|9=>9|2=>2|4=>4|171=>297|0=>0|53=>281|37=>30|5=>5|173=>299|212=>316|51=>279|20=>20|213=>317|46=>192|232=>345|233=>346|n=>n,fun|17=>3|18=>8|19=>9|n=>n⟩
theorem Tryz.laysM171:Go.Proofs.LaysM.n171 Tryz.prog Tryz.laysM171_ren:={
 mixed:=by kernel_rfl
 f129:=Tryz.func182.trans (congrArg some (by kernel_rfl))
 f171:=Tryz.func91.trans (congrArg some (by kernel_rfl))
 f243:=Tryz.func132.trans (congrArg some (by kernel_rfl))
 f246:=Tryz.func170.trans (congrArg some (by kernel_rfl))
 f283:=Tryz.func207.trans (congrArg some (by kernel_rfl))
 f284:=Tryz.func208.trans (congrArg some (by kernel_rfl))
 f285:=Tryz.func209.trans (congrArg some (by kernel_rfl))
 f286:=Tryz.func210.trans (congrArg some (by kernel_rfl))
 f317:=Tryz.func235.trans (congrArg some (by kernel_rfl))
 f318:=Tryz.func236.trans (congrArg some (by kernel_rfl))
 f319:=Tryz.func237.trans (congrArg some (by kernel_rfl))
 f320:=Tryz.func238.trans (congrArg some (by kernel_rfl))
 f337:=Tryz.func255.trans (congrArg some (by kernel_rfl))
 f338:=Tryz.func256.trans (congrArg some (by kernel_rfl))
 t0:=Tryz.underlying0
 a0:=Tryz.isAgg0
 z0:=Tryz.sizeOf0
 v0:=Tryz.zeroValue0
 t2:=Tryz.underlying2
 a2:=Tryz.isAgg2
 z2:=Tryz.sizeOf2
 v2:=Tryz.zeroValue2
 t3:=Tryz.underlying3
 a3:=Tryz.isAgg3
 z3:=Tryz.sizeOf3
 v3:=Tryz.zeroValue3
 t4:=Tryz.underlying4
 a4:=Tryz.isAgg4
 z4:=Tryz.sizeOf4
 v4:=Tryz.zeroValue4
 t5:=Tryz.underlying5
 a5:=Tryz.isAgg5
 z5:=Tryz.sizeOf5
 v5:=Tryz.zeroValue5
 t9:=Tryz.underlying9
 a9:=Tryz.isAgg9
 z9:=Tryz.sizeOf9
 v9:=Tryz.zeroValue9
 t20:=Tryz.underlying20
 a20:=Tryz.isAgg20
 z20:=Tryz.sizeOf20
 v20:=Tryz.zeroValue20
 t37:=Tryz.underlying30
 a37:=Tryz.isAgg30
 z37:=Tryz.sizeOf30
 v37:=Tryz.zeroValue30
 t46:=Tryz.underlying192
 a46:=Tryz.isAgg192
 z46:=Tryz.sizeOf192
 v46:=Tryz.zeroValue192
 t51:=Tryz.underlying279
 a51:=Tryz.isAgg279
 z51:=Tryz.sizeOf279
 v51:=Tryz.zeroValue279
 t53:=Tryz.underlying281
 a53:=Tryz.isAgg281
 z53:=Tryz.sizeOf281
 v53:=Tryz.zeroValue281
 t171:=Tryz.underlying297
 a171:=Tryz.isAgg297
 z171:=Tryz.sizeOf297
 v171:=Tryz.zeroValue297
 t173:=Tryz.underlying299
 a173:=Tryz.isAgg299
 z173:=Tryz.sizeOf299
 v173:=Tryz.zeroValue299
 t212:=Tryz.underlying316
 a212:=Tryz.isAgg316
 z212:=Tryz.sizeOf316
 v212:=Tryz.zeroValue316
 t213:=Tryz.underlying317
 a213:=Tryz.isAgg317
 z213:=Tryz.sizeOf317
 t232:=Tryz.underlying345
 a232:=Tryz.isAgg345
 z232:=Tryz.sizeOf345
 v232:=Tryz.zeroValue345
 t233:=Tryz.underlying346
 a233:=Tryz.isAgg346
 z233:=Tryz.sizeOf346
 v233:=Tryz.zeroValue346
 g17:=by kernel_rfl
 g18:=by kernel_rfl
 g19:=by kernel_rfl
 i0:=by kernel_rfl
 i2:=by kernel_rfl
 i3:=by kernel_rfl
 i4:=by kernel_rfl
 i5:=by kernel_rfl
 i9:=by kernel_rfl
 i20:=by kernel_rfl
 i37:=by kernel_rfl
 i46:=by kernel_rfl
 i51:=by kernel_rfl
 i53:=by kernel_rfl
 i171:=by kernel_rfl
 i173:=by kernel_rfl
 i212:=by kernel_rfl
 i232:=by kernel_rfl
 i233:=by kernel_rfl
 m17:=by kernel_rfl
 m18:=by kernel_rfl
 m19:=by kernel_rfl }
open Go.RowKit Go.Sort Go.Lib in
theorem Tryz.strconv_Itoa (n:Int) (h0 : -9223372036854775808≤n) (h1:n≤9223372036854775807) (w:World) (htab:Lib.TabIs Tryz.prog w "internal/strconv.uint64pow10" .u64 Lib.pow10Tab) :
 Calls Tryz.prog 91 #[.int .i64 n] w fun e w'=>e=.returned (.string ⟨(Lib.itoa n).toArray⟩)∧∃k os,w'=grow (w.drewN k) os:=Any.strconv_Itoa Tryz.laysM171 n h0 h1 w htab
def Tryz.laysC172_ren:Go.Shelf.Ren:=⟨fun|172=>195|244=>224|245=>225|247=>244|279=>245|280=>246|281=>247|282=>248|287=>258|316=>259|171=>91|205=>260|321=>263|322=>264|243=>132|246=>170|283=>207|284=>208|285=>209|286=>210|129=>182|317=>235|318=>236|319=>237|320=>238|337=>255|338=>256|n=>n,fun|9=>9|3=>3|75=>58|76=>106|4=>4|5=>5|167=>322|37=>30|0=>0|85=>323|2=>2|168=>325|53=>281|175=>337|46=>192|210=>340|127=>171|145=>350|143=>348|21=>21|171=>297|173=>299|212=>316|51=>279|20=>20|213=>317|232=>345|233=>346|80=>61|n=>n,fun|15=>6|16=>7|17=>3|18=>8|19=>9|n=>n⟩
theorem Tryz.laysC172:Go.Proofs.LaysC.n172 Tryz.prog Tryz.laysC172_ren:={
 mixed:=by kernel_rfl
 f129:=Tryz.func182.trans (congrArg some (by kernel_rfl))
 f171:=Tryz.func91.trans (congrArg some (by kernel_rfl))
 f172:=Tryz.func195.trans (congrArg some (by kernel_rfl))
 f205:=Tryz.func260.trans (congrArg some (by kernel_rfl))
 f243:=Tryz.func132.trans (congrArg some (by kernel_rfl))
 f244:=Tryz.func224.trans (congrArg some (by kernel_rfl))
 f245:=Tryz.func225.trans (congrArg some (by kernel_rfl))
 f246:=Tryz.func170.trans (congrArg some (by kernel_rfl))
 f247:=Tryz.func244.trans (congrArg some (by kernel_rfl))
 f279:=Tryz.func245.trans (congrArg some (by kernel_rfl))
 f280:=Tryz.func246.trans (congrArg some (by kernel_rfl))
 f281:=Tryz.func247.trans (congrArg some (by kernel_rfl))
 f282:=Tryz.func248.trans (congrArg some (by kernel_rfl))
 f283:=Tryz.func207.trans (congrArg some (by kernel_rfl))
 f284:=Tryz.func208.trans (congrArg some (by kernel_rfl))
 f285:=Tryz.func209.trans (congrArg some (by kernel_rfl))
 f286:=Tryz.func210.trans (congrArg some (by kernel_rfl))
 f287:=Tryz.func258.trans (congrArg some (by kernel_rfl))
 f316:=Tryz.func259.trans (congrArg some (by kernel_rfl))
 f317:=Tryz.func235.trans (congrArg some (by kernel_rfl))
 f318:=Tryz.func236.trans (congrArg some (by kernel_rfl))
 f319:=Tryz.func237.trans (congrArg some (by kernel_rfl))
 f320:=Tryz.func238.trans (congrArg some (by kernel_rfl))
 f321:=Tryz.func263.trans (congrArg some (by kernel_rfl))
 f322:=Tryz.func264.trans (congrArg some (by kernel_rfl))
 f337:=Tryz.func255.trans (congrArg some (by kernel_rfl))
 f338:=Tryz.func256.trans (congrArg some (by kernel_rfl))
 t0:=Tryz.underlying0
 a0:=Tryz.isAgg0
 z0:=Tryz.sizeOf0
 v0:=Tryz.zeroValue0
 t2:=Tryz.underlying2
 a2:=Tryz.isAgg2
 z2:=Tryz.sizeOf2
 v2:=Tryz.zeroValue2
 t3:=Tryz.underlying3
 a3:=Tryz.isAgg3
 z3:=Tryz.sizeOf3
 v3:=Tryz.zeroValue3
 t4:=Tryz.underlying4
 a4:=Tryz.isAgg4
 z4:=Tryz.sizeOf4
 v4:=Tryz.zeroValue4
 t5:=Tryz.underlying5
 a5:=Tryz.isAgg5
 z5:=Tryz.sizeOf5
 v5:=Tryz.zeroValue5
 t9:=Tryz.underlying9
 a9:=Tryz.isAgg9
 z9:=Tryz.sizeOf9
 v9:=Tryz.zeroValue9
 t20:=Tryz.underlying20
 a20:=Tryz.isAgg20
 z20:=Tryz.sizeOf20
 v20:=Tryz.zeroValue20
 t21:=Tryz.underlying21
 a21:=Tryz.isAgg21
 z21:=Tryz.sizeOf21
 v21:=Tryz.zeroValue21
 t37:=Tryz.underlying30
 a37:=Tryz.isAgg30
 z37:=Tryz.sizeOf30
 v37:=Tryz.zeroValue30
 t46:=Tryz.underlying192
 a46:=Tryz.isAgg192
 z46:=Tryz.sizeOf192
 v46:=Tryz.zeroValue192
 t51:=Tryz.underlying279
 a51:=Tryz.isAgg279
 z51:=Tryz.sizeOf279
 v51:=Tryz.zeroValue279
 t53:=Tryz.underlying281
 a53:=Tryz.isAgg281
 z53:=Tryz.sizeOf281
 v53:=Tryz.zeroValue281
 t75:=Tryz.underlying58
 a75:=Tryz.isAgg58
 z75:=Tryz.sizeOf58
 v75:=Tryz.zeroValue58
 t76:=Tryz.underlying106
 a76:=Tryz.isAgg106
 z76:=Tryz.sizeOf106
 v76:=Tryz.zeroValue106
 t85:=Tryz.underlying323
 a85:=Tryz.isAgg323
 z85:=Tryz.sizeOf323
 v85:=Tryz.zeroValue323
 t127:=Tryz.underlying171
 a127:=Tryz.isAgg171
 z127:=Tryz.sizeOf171
 v127:=Tryz.zeroValue171
 t143:=Tryz.underlying348
 a143:=Tryz.isAgg348
 z143:=Tryz.sizeOf348
 v143:=Tryz.zeroValue348
 t145:=Tryz.underlying350
 a145:=Tryz.isAgg350
 z145:=Tryz.sizeOf350
 v145:=Tryz.zeroValue350
 t167:=Tryz.underlying322
 a167:=Tryz.isAgg322
 z167:=Tryz.sizeOf322
 v167:=Tryz.zeroValue322
 t168:=Tryz.underlying325
 a168:=Tryz.isAgg325
 z168:=Tryz.sizeOf325
 v168:=Tryz.zeroValue325
 t171:=Tryz.underlying297
 a171:=Tryz.isAgg297
 z171:=Tryz.sizeOf297
 v171:=Tryz.zeroValue297
 t173:=Tryz.underlying299
 a173:=Tryz.isAgg299
 z173:=Tryz.sizeOf299
 v173:=Tryz.zeroValue299
 t175:=Tryz.underlying337
 a175:=Tryz.isAgg337
 z175:=Tryz.sizeOf337
 v175:=Tryz.zeroValue337
 t210:=Tryz.underlying340
 a210:=Tryz.isAgg340
 z210:=Tryz.sizeOf340
 v210:=Tryz.zeroValue340
 t212:=Tryz.underlying316
 a212:=Tryz.isAgg316
 z212:=Tryz.sizeOf316
 v212:=Tryz.zeroValue316
 t213:=Tryz.underlying317
 a213:=Tryz.isAgg317
 z213:=Tryz.sizeOf317
 t232:=Tryz.underlying345
 a232:=Tryz.isAgg345
 z232:=Tryz.sizeOf345
 v232:=Tryz.zeroValue345
 t233:=Tryz.underlying346
 a233:=Tryz.isAgg346
 z233:=Tryz.sizeOf346
 v233:=Tryz.zeroValue346
 g15:=by kernel_rfl
 g16:=by kernel_rfl
 g17:=by kernel_rfl
 g18:=by kernel_rfl
 g19:=by kernel_rfl
 t80:=Tryz.underlying61
 a80:=Tryz.isAgg61
 z80:=Tryz.sizeOf61
 v80:=Tryz.zeroValue61
 i0:=by kernel_rfl
 i2:=by kernel_rfl
 i3:=by kernel_rfl
 i4:=by kernel_rfl
 i5:=by kernel_rfl
 i9:=by kernel_rfl
 i20:=by kernel_rfl
 i21:=by kernel_rfl
 i37:=by kernel_rfl
 i46:=by kernel_rfl
 i51:=by kernel_rfl
 i53:=by kernel_rfl
 i75:=by kernel_rfl
 i76:=by kernel_rfl
 i80:=by kernel_rfl
 i85:=by kernel_rfl
 i127:=by kernel_rfl
 i143:=by kernel_rfl
 i145:=by kernel_rfl
 i167:=by kernel_rfl
 i168:=by kernel_rfl
 i171:=by kernel_rfl
 i173:=by kernel_rfl
 i175:=by kernel_rfl
 i210:=by kernel_rfl
 i212:=by kernel_rfl
 i232:=by kernel_rfl
 i233:=by kernel_rfl
 m15:=by kernel_rfl
 m16:=by kernel_rfl
 m17:=by kernel_rfl
 m18:=by kernel_rfl
 m19:=by kernel_rfl
 c0:=by kernel_rfl
 c2:=by kernel_rfl
 c3:=by kernel_rfl
 c4:=by kernel_rfl
 c5:=by kernel_rfl
 c9:=by kernel_rfl
 c20:=by kernel_rfl
 c21:=by kernel_rfl
 c37:=by kernel_rfl
 c46:=by kernel_rfl
 c51:=by kernel_rfl
 c53:=by kernel_rfl
 c75:=by kernel_rfl
 c76:=by kernel_rfl
 c80:=by kernel_rfl
 c85:=by kernel_rfl
 c127:=by kernel_rfl
 c143:=by kernel_rfl
 c145:=by kernel_rfl
 c167:=by kernel_rfl
 c168:=by kernel_rfl
 c171:=by kernel_rfl
 c173:=by kernel_rfl
 c175:=by kernel_rfl
 c210:=by kernel_rfl
 c212:=by kernel_rfl
 c213:=by kernel_rfl
 c232:=by kernel_rfl
 c233:=by kernel_rfl }
open Go.RowKit in
theorem Tryz.strconv_Atoi_ok (s:ByteArray) (hmax:s.size≤9223372036854775806) (v:Int) (h:Lib.atoiAll s.data.toList=.ok v) (w:World) :
 Calls Tryz.prog 195 #[.string s] w fun e w'=>e=.returned (.tuple #[.int .i64 v,.nilIface])∧(w'=w∨∃t,w'=Lib.bytesWorld w 5 t):=Any.strconv_Atoi_ok Tryz.laysC172 s hmax v h w
def Tryz.lays143_ren:Go.Shelf.Ren:=⟨fun|143=>223|219=>198|217=>192|225=>227|224=>228|267=>229|266=>220|314=>250|n=>n,fun|9=>9|3=>3|4=>4|5=>5|46=>192|146=>285|51=>279|n=>n,fun|1=>1|n=>n⟩
theorem Tryz.lays143:Go.Proofs.Lays.n143 Tryz.prog Tryz.lays143_ren:={
 mixed:=by kernel_rfl
 f143:=Tryz.func223.trans (congrArg some (by kernel_rfl))
 f217:=Tryz.func192.trans (congrArg some (by kernel_rfl))
 f219:=Tryz.func198.trans (congrArg some (by kernel_rfl))
 f224:=Tryz.func228.trans (congrArg some (by kernel_rfl))
 f225:=Tryz.func227.trans (congrArg some (by kernel_rfl))
 f266:=Tryz.func220.trans (congrArg some (by kernel_rfl))
 f267:=Tryz.func229.trans (congrArg some (by kernel_rfl))
 f314:=Tryz.func250.trans (congrArg some (by kernel_rfl))
 t3:=Tryz.underlying3
 a3:=Tryz.isAgg3
 z3:=Tryz.sizeOf3
 v3:=Tryz.zeroValue3
 t4:=Tryz.underlying4
 a4:=Tryz.isAgg4
 z4:=Tryz.sizeOf4
 v4:=Tryz.zeroValue4
 t5:=Tryz.underlying5
 a5:=Tryz.isAgg5
 z5:=Tryz.sizeOf5
 v5:=Tryz.zeroValue5
 t9:=Tryz.underlying9
 a9:=Tryz.isAgg9
 z9:=Tryz.sizeOf9
 v9:=Tryz.zeroValue9
 t46:=Tryz.underlying192
 a46:=Tryz.isAgg192
 z46:=Tryz.sizeOf192
 v46:=Tryz.zeroValue192
 t51:=Tryz.underlying279
 a51:=Tryz.isAgg279
 z51:=Tryz.sizeOf279
 v51:=Tryz.zeroValue279
 t146:=Tryz.underlying285
 a146:=Tryz.isAgg285
 z146:=Tryz.sizeOf285
 v146:=Tryz.zeroValue285
 g1:=by kernel_rfl }
open Go.RowKit Go.Lib in
theorem Tryz.strings_Index_one (s:ByteArray) (c:UInt8) (w:World) :
 Calls Tryz.prog 223 #[.string s,.string ⟨#[c]⟩] w fun e w'=>e=.returned (.int .i64 (Lib.indexByte s.data.toList c))∧w'=w:=Any.strings_Index_one Tryz.lays143 s c w
def Tryz.lays145_ren:Go.Shelf.Ren:=⟨fun|145=>120|220=>154|219=>198|217=>192|225=>227|224=>228|267=>229|266=>220|314=>250|n=>n,fun|9=>9|4=>4|59=>215|3=>3|5=>5|46=>192|146=>285|51=>279|n=>n,fun|1=>1|n=>n⟩
theorem Tryz.lays145:Go.Proofs.Lays.n145 Tryz.prog Tryz.lays145_ren:={
 mixed:=by kernel_rfl
 f145:=Tryz.func120.trans (congrArg some (by kernel_rfl))
 f217:=Tryz.func192.trans (congrArg some (by kernel_rfl))
 f219:=Tryz.func198.trans (congrArg some (by kernel_rfl))
 f220:=Tryz.func154.trans (congrArg some (by kernel_rfl))
 f224:=Tryz.func228.trans (congrArg some (by kernel_rfl))
 f225:=Tryz.func227.trans (congrArg some (by kernel_rfl))
 f266:=Tryz.func220.trans (congrArg some (by kernel_rfl))
 f267:=Tryz.func229.trans (congrArg some (by kernel_rfl))
 f314:=Tryz.func250.trans (congrArg some (by kernel_rfl))
 t3:=Tryz.underlying3
 a3:=Tryz.isAgg3
 z3:=Tryz.sizeOf3
 v3:=Tryz.zeroValue3
 t4:=Tryz.underlying4
 a4:=Tryz.isAgg4
 z4:=Tryz.sizeOf4
 v4:=Tryz.zeroValue4
 t5:=Tryz.underlying5
 a5:=Tryz.isAgg5
 z5:=Tryz.sizeOf5
 v5:=Tryz.zeroValue5
 t9:=Tryz.underlying9
 a9:=Tryz.isAgg9
 z9:=Tryz.sizeOf9
 v9:=Tryz.zeroValue9
 t46:=Tryz.underlying192
 a46:=Tryz.isAgg192
 z46:=Tryz.sizeOf192
 v46:=Tryz.zeroValue192
 t51:=Tryz.underlying279
 a51:=Tryz.isAgg279
 z51:=Tryz.sizeOf279
 v51:=Tryz.zeroValue279
 t59:=Tryz.underlying215
 a59:=Tryz.isAgg215
 z59:=Tryz.sizeOf215
 v59:=Tryz.zeroValue215
 t146:=Tryz.underlying285
 a146:=Tryz.isAgg285
 z146:=Tryz.sizeOf285
 v146:=Tryz.zeroValue285
 g1:=by kernel_rfl }
open Go.RowKit Go.Lib in
theorem Tryz.strings_Cut (s sep:ByteArray) (m:Int) (w:World) (hs:s.size<4294967281) (hm:w.cell? ⟨1,0,none⟩=some (.int .i64 m)) :
 Calls Tryz.prog 120 #[.string s,.string sep] w fun e w'=>e=.returned (.tuple #[.string ⟨(Lib.cut s.data.toList sep.data.toList).1.toArray⟩,.string ⟨(Lib.cut s.data.toList sep.data.toList).2.1.toArray⟩,.bool (Lib.cut s.data.toList sep.data.toList).2.2])∧∃n,w'=w.drewN n:=Any.strings_Cut Tryz.lays145 s sep m w hs hm
def Tryz.lays207_ren:Go.Shelf.Ren:=⟨fun|207=>193|n=>n,fun|9=>9|4=>4|3=>3|n=>n,fun|n=>n⟩
theorem Tryz.lays207:Go.Proofs.Lays.n207 Tryz.prog Tryz.lays207_ren:={
 mixed:=by kernel_rfl
 f207:=Tryz.func193.trans (congrArg some (by kernel_rfl))
 t3:=Tryz.underlying3
 a3:=Tryz.isAgg3
 z3:=Tryz.sizeOf3
 v3:=Tryz.zeroValue3
 t4:=Tryz.underlying4
 a4:=Tryz.isAgg4
 z4:=Tryz.sizeOf4
 v4:=Tryz.zeroValue4
 t9:=Tryz.underlying9
 a9:=Tryz.isAgg9
 z9:=Tryz.sizeOf9
 v9:=Tryz.zeroValue9 }
open Go.RowKit Go.Lib in
theorem Tryz.stringslite_HasSuffix (s p:ByteArray) (w:World) (hs:s.size≤9223372036854775807) :
 Calls Tryz.prog 193 #[.string s,.string p] w fun e w'=>e=.returned (.bool (Lib.hasSuffix s.data.toList p.data.toList))∧w'=w:=Any.stringslite_HasSuffix Tryz.lays207 s p w hs
def Tryz.lays102_ren:Go.Shelf.Ren:=⟨fun|102=>114|209=>149|207=>193|n=>n,fun|9=>9|4=>4|3=>3|n=>n,fun|n=>n⟩
theorem Tryz.lays102:Go.Proofs.Lays.n102 Tryz.prog Tryz.lays102_ren:={
 mixed:=by kernel_rfl
 f102:=Tryz.func114.trans (congrArg some (by kernel_rfl))
 f207:=Tryz.func193.trans (congrArg some (by kernel_rfl))
 f209:=Tryz.func149.trans (congrArg some (by kernel_rfl))
 t3:=Tryz.underlying3
 a3:=Tryz.isAgg3
 z3:=Tryz.sizeOf3
 v3:=Tryz.zeroValue3
 t4:=Tryz.underlying4
 a4:=Tryz.isAgg4
 z4:=Tryz.sizeOf4
 v4:=Tryz.zeroValue4
 t9:=Tryz.underlying9
 a9:=Tryz.isAgg9
 z9:=Tryz.sizeOf9
 v9:=Tryz.zeroValue9 }
open Go.RowKit Go.Lib in
theorem Tryz.strings_TrimSuffix (s p:ByteArray) (w:World) (hs:s.size≤9223372036854775807) :
 Calls Tryz.prog 114 #[.string s,.string p] w fun e w'=>e=.returned (.string ⟨(Lib.trimSuffix s.data.toList p.data.toList).toArray⟩)∧w'=w:=Any.strings_TrimSuffix Tryz.lays102 s p w hs
def Tryz.lays146_ren:Go.Shelf.Ren:=⟨fun|146=>150|221=>194|268=>221|138=>222|143=>223|195=>242|197=>200|218=>243|219=>198|260=>230|217=>192|225=>227|224=>228|267=>229|266=>220|314=>250|n=>n,fun|9=>9|31=>44|3=>3|4=>4|0=>0|105=>292|21=>21|5=>5|46=>192|119=>330|139=>333|138=>332|146=>285|51=>279|n=>n,fun|1=>1|3=>4|4=>5|n=>n⟩
theorem Tryz.lays146:Go.Proofs.Lays.n146 Tryz.prog Tryz.lays146_ren:={
 mixed:=by kernel_rfl
 f138:=Tryz.func222.trans (congrArg some (by kernel_rfl))
 f143:=Tryz.func223.trans (congrArg some (by kernel_rfl))
 f146:=Tryz.func150.trans (congrArg some (by kernel_rfl))
 f195:=Tryz.func242.trans (congrArg some (by kernel_rfl))
 f197:=Tryz.func200.trans (congrArg some (by kernel_rfl))
 f217:=Tryz.func192.trans (congrArg some (by kernel_rfl))
 f218:=Tryz.func243.trans (congrArg some (by kernel_rfl))
 f219:=Tryz.func198.trans (congrArg some (by kernel_rfl))
 f221:=Tryz.func194.trans (congrArg some (by kernel_rfl))
 f224:=Tryz.func228.trans (congrArg some (by kernel_rfl))
 f225:=Tryz.func227.trans (congrArg some (by kernel_rfl))
 f260:=Tryz.func230.trans (congrArg some (by kernel_rfl))
 f266:=Tryz.func220.trans (congrArg some (by kernel_rfl))
 f267:=Tryz.func229.trans (congrArg some (by kernel_rfl))
 f268:=Tryz.func221.trans (congrArg some (by kernel_rfl))
 f314:=Tryz.func250.trans (congrArg some (by kernel_rfl))
 t0:=Tryz.underlying0
 a0:=Tryz.isAgg0
 z0:=Tryz.sizeOf0
 v0:=Tryz.zeroValue0
 t3:=Tryz.underlying3
 a3:=Tryz.isAgg3
 z3:=Tryz.sizeOf3
 v3:=Tryz.zeroValue3
 t4:=Tryz.underlying4
 a4:=Tryz.isAgg4
 z4:=Tryz.sizeOf4
 v4:=Tryz.zeroValue4
 t5:=Tryz.underlying5
 a5:=Tryz.isAgg5
 z5:=Tryz.sizeOf5
 v5:=Tryz.zeroValue5
 t9:=Tryz.underlying9
 a9:=Tryz.isAgg9
 z9:=Tryz.sizeOf9
 v9:=Tryz.zeroValue9
 t21:=Tryz.underlying21
 a21:=Tryz.isAgg21
 z21:=Tryz.sizeOf21
 v21:=Tryz.zeroValue21
 t31:=Tryz.underlying44
 a31:=Tryz.isAgg44
 z31:=Tryz.sizeOf44
 v31:=Tryz.zeroValue44
 t46:=Tryz.underlying192
 a46:=Tryz.isAgg192
 z46:=Tryz.sizeOf192
 v46:=Tryz.zeroValue192
 t51:=Tryz.underlying279
 a51:=Tryz.isAgg279
 z51:=Tryz.sizeOf279
 v51:=Tryz.zeroValue279
 t105:=Tryz.underlying292
 a105:=Tryz.isAgg292
 z105:=Tryz.sizeOf292
 v105:=Tryz.zeroValue292
 t119:=Tryz.underlying330
 a119:=Tryz.isAgg330
 z119:=Tryz.sizeOf330
 t138:=Tryz.underlying332
 a138:=Tryz.isAgg332
 z138:=Tryz.sizeOf332
 v138:=Tryz.zeroValue332
 t139:=Tryz.underlying333
 a139:=Tryz.isAgg333
 z139:=Tryz.sizeOf333
 v139:=Tryz.zeroValue333
 t146:=Tryz.underlying285
 a146:=Tryz.isAgg285
 z146:=Tryz.sizeOf285
 v146:=Tryz.zeroValue285
 g1:=by kernel_rfl
 g3:=by kernel_rfl
 g4:=by kernel_rfl }
open Go.RowKit Go.Lib in
theorem Tryz.strings_Split (s sep:ByteArray) (m:Int) (w:World) (hs:s.size<4294967281) (hm:w.cell? ⟨1,0,none⟩=some (.int .i64 m)) (h1:1≤sep.size) :
 Calls Tryz.prog 150 #[.string s,.string sep] w fun e w' =>
  e=.returned (.slice (some ⟨w.heap.size,0,none⟩) (Lib.countB s sep+1) (Lib.countB s sep+1))∧w'=w.alloc (.cells ((Lib.splitB sep 0 (Lib.countB s sep) s).map Value.string).toArray 9):=Any.strings_Split Tryz.lays146 (by kernel_rfl) s sep m w hs hm h1
def Tryz.lays105_ren:Go.Shelf.Ren:=⟨fun|105=>101|212=>140|99=>141|165=>133|166=>50|170=>142|169=>53|263=>187|264=>188|206=>189|240=>89|241=>171|276=>129|277=>211|n=>n,fun|9=>9|3=>3|4=>4|20=>20|0=>0|46=>192|109=>244|5=>5|72=>98|76=>106|51=>279|146=>285|53=>281|148=>287|70=>96|37=>30|75=>58|127=>171|164=>233|80=>61|n=>n,fun|n=>n⟩
theorem Tryz.lays105:Go.Proofs.Lays.n105 Tryz.prog Tryz.lays105_ren:={
 mixed:=by kernel_rfl
 f99:=Tryz.func141.trans (congrArg some (by kernel_rfl))
 f105:=Tryz.func101.trans (congrArg some (by kernel_rfl))
 f165:=Tryz.func133.trans (congrArg some (by kernel_rfl))
 f166:=Tryz.func50.trans (congrArg some (by kernel_rfl))
 f169:=Tryz.func53.trans (congrArg some (by kernel_rfl))
 f170:=Tryz.func142.trans (congrArg some (by kernel_rfl))
 f206:=Tryz.func189.trans (congrArg some (by kernel_rfl))
 f212:=Tryz.func140.trans (congrArg some (by kernel_rfl))
 f240:=Tryz.func89.trans (congrArg some (by kernel_rfl))
 f241:=Tryz.func171.trans (congrArg some (by kernel_rfl))
 f263:=Tryz.func187.trans (congrArg some (by kernel_rfl))
 f264:=Tryz.func188.trans (congrArg some (by kernel_rfl))
 f276:=Tryz.func129.trans (congrArg some (by kernel_rfl))
 f277:=Tryz.func211.trans (congrArg some (by kernel_rfl))
 t0:=Tryz.underlying0
 a0:=Tryz.isAgg0
 z0:=Tryz.sizeOf0
 v0:=Tryz.zeroValue0
 t3:=Tryz.underlying3
 a3:=Tryz.isAgg3
 z3:=Tryz.sizeOf3
 v3:=Tryz.zeroValue3
 t4:=Tryz.underlying4
 a4:=Tryz.isAgg4
 z4:=Tryz.sizeOf4
 v4:=Tryz.zeroValue4
 t5:=Tryz.underlying5
 a5:=Tryz.isAgg5
 z5:=Tryz.sizeOf5
 v5:=Tryz.zeroValue5
 t9:=Tryz.underlying9
 a9:=Tryz.isAgg9
 z9:=Tryz.sizeOf9
 v9:=Tryz.zeroValue9
 t20:=Tryz.underlying20
 a20:=Tryz.isAgg20
 z20:=Tryz.sizeOf20
 v20:=Tryz.zeroValue20
 t37:=Tryz.underlying30
 a37:=Tryz.isAgg30
 z37:=Tryz.sizeOf30
 v37:=Tryz.zeroValue30
 t46:=Tryz.underlying192
 a46:=Tryz.isAgg192
 z46:=Tryz.sizeOf192
 v46:=Tryz.zeroValue192
 t51:=Tryz.underlying279
 a51:=Tryz.isAgg279
 z51:=Tryz.sizeOf279
 v51:=Tryz.zeroValue279
 t53:=Tryz.underlying281
 a53:=Tryz.isAgg281
 z53:=Tryz.sizeOf281
 v53:=Tryz.zeroValue281
 t70:=Tryz.underlying96
 a70:=Tryz.isAgg96
 z70:=Tryz.sizeOf96
 v70:=Tryz.zeroValue96
 t72:=Tryz.underlying98
 a72:=Tryz.isAgg98
 z72:=Tryz.sizeOf98
 v72:=Tryz.zeroValue98
 t75:=Tryz.underlying58
 a75:=Tryz.isAgg58
 z75:=Tryz.sizeOf58
 v75:=Tryz.zeroValue58
 t76:=Tryz.underlying106
 a76:=Tryz.isAgg106
 z76:=Tryz.sizeOf106
 v76:=Tryz.zeroValue106
 t109:=Tryz.underlying244
 a109:=Tryz.isAgg244
 z109:=Tryz.sizeOf244
 v109:=Tryz.zeroValue244
 t127:=Tryz.underlying171
 a127:=Tryz.isAgg171
 z127:=Tryz.sizeOf171
 v127:=Tryz.zeroValue171
 t146:=Tryz.underlying285
 a146:=Tryz.isAgg285
 z146:=Tryz.sizeOf285
 v146:=Tryz.zeroValue285
 t148:=Tryz.underlying287
 a148:=Tryz.isAgg287
 z148:=Tryz.sizeOf287
 v148:=Tryz.zeroValue287
 t164:=Tryz.underlying233
 a164:=Tryz.isAgg233
 z164:=Tryz.sizeOf233
 v164:=Tryz.zeroValue233 }
theorem Tryz.Builder_Extra_105:Builder.Extra Tryz.prog Tryz.lays105_ren:={
 sizeBuilder:=by kernel_rfl
 liesBuilder:=by kernel_rfl
 t5:=Tryz.underlying5
 a5:=Tryz.isAgg5
 z5:=Tryz.sizeOf5
 v5:=Tryz.zeroValue5
 infoByte:=by kernel_rfl
 cellsByte:=by kernel_rfl
 sizeByte:=by kernel_rfl
 neB5:=by decide }
open Go.RowKit Go.Lib in
theorem Tryz.strings_Repeat (s:ByteArray) (c:Nat) (w:World) (hc:c≤9223372036854775807) (hlen:s.size*c≤140737488355328) :
 Calls Tryz.prog 101 #[.string s,.int .i64 c] w fun e w'=>e=.returned (.string ⟨(Lib.repeatL s.data.toList c).toArray⟩)∧Below w.heap.size w w':=Any.strings_Repeat Tryz.lays105 Tryz.Builder_Extra_105 s c w hc hlen
end Go.Proofs
namespace Go.Proofs.YtdbpjmfflofadaaGreatDoor.Stg
open Go Go.RowKit
section
variable {P:Program} {ops:Array Oper} {R:World→World→Prop} {F:Act→World→Prop} {o:Oper} {l:List Oper} {k n:Nat} {a:Act} {ws:Nat→World}
theorem callV (f:FuncId) (x:Operand) (xs:List Operand) (ts:Array TypeId) (ho:o.op=.call { callee:=.value x,args:=xs.toArray,argTypes:=ts }) (hx:a.eval x=.func (.func f) #[] #[]) (ae:∀args w,(callFunc f args).run P w=.ok (.enter f args) w)
 (us:List Value) (hv:xs.map a.eval=us) (W:World) (T:Ending→World→Prop) (hC:Calls P f us.toArray W T)
 (hk:(stOf ops k&&Region.wanted o (yielded ops a.tmps))=true) (hb:ws 0=W)
 (h:∀e w',T e w'→∃v,e=.returned v∧R W w'∧∀A,A=a.put o.dst v→Walk P ops R F l (k+1) A (n+1) (push w' ws)):Walk P ops R F (o::l) k a n ws:=by
 simp only[Bool.and_eq_true]at hk;obtain⟨hs,hw⟩:=hk;refine step W hs hb hw ?_
 have aa:(execOp a.eval o).run P W=.ok (.enter f us.toArray) W:=by
  obtain⟨ρ,hρ⟩:∃ρ,a.eval=ρ:=⟨_,rfl⟩;rw[hρ]at hx hv ⊢;unfold execOp;subst hv;simp[ho,resolve,invoke,go_sem,ae,hx]
 unfold stepAt;rw[aa];exact hC.mono fun e w' ht=>let ⟨v,he,h1,h2⟩:=h e w' ht;⟨v,he,fun _=>h1,h2⟩
end
end Go.Proofs.YtdbpjmfflofadaaGreatDoor.Stg
namespace Go.Proofs.YtdbpjmfflofadaaGreatDoor
open Go.RowKit
theorem zBT {w0 w w':World} {g:Nat} (h:Below w0.heap.size w0 w) (hg:w0.heap.size≤g) (aa:w.grownBy w' (some g)):Below w0.heap.size w0 w':=Below.grown h aa h.size (by intro k hk;simp only[Option.some.injEq]at hk;omega)
theorem zT8 (b:UInt8):Lib.repeatL [b] 3=List.replicate 3 b:=rfl
theorem zQm (s:ByteArray) (w:World) (hs:s.size≤1000) (hH:Heads w):Calls Tryz.prog 65 #[.string s] w fun e w'=>e=.returned (.bool (zDe s.data.toList))∧Below w.heap.size w w':=by
 have ao:Hy (∀(b:UInt8) W,Calls Tryz.prog 101 #[.string ⟨#[b]⟩,.int .i64 3] W fun e w'=>e=.returned (.string ⟨(List.replicate 3 b).toArray⟩)∧Below W.heap.size W w'):=hy' fun b W=>by
  have:=Tryz.strings_Repeat ⟨#[b]⟩ 3 W (by decide) (by show 1*3≤_;decide);rw[show (⟨#[b]⟩:ByteArray).data.toList=[b] from rfl,zT8]at this;exact this
 have ap:Hy (∀(b:UInt8) W,Below w.heap.size w W→Calls Tryz.prog 63 #[.string (s++⟨(List.replicate 3 b).toArray⟩)] W fun e w'=>(∃c n,e=.returned (.tuple #[.int .i32 c,.int .i64 n,.bool (zAe (s.data.toList++List.replicate 3 b)).isSome]))∧Below W.heap.size W w'):=hy' fun b W hW=>by
  have:=zFo (s++⟨(List.replicate 3 b).toArray⟩) W (by rw[ByteArray.size_append];show _+3≤_;simp only[maxLen];omega) (hH.next hW);refine this.mono ?_;rintro e w' ⟨rfl,hb⟩;have hd:(s++⟨(List.replicate 3 b).toArray⟩:ByteArray).data.toList=s.data.toList++List.replicate 3 b:=by simp[ByteArray.data_append]
  have h3:(zAw (s.data.toList++List.replicate 3 b)).2.2=(zAe (s.data.toList++List.replicate 3 b)).isSome:=by
   cases hn:zAe (s.data.toList++List.replicate 3 b) with
   | none=>rw[zF3 hn];rfl
   | some q=>rw[zF2 (c:=q.1) (k:=q.2) hn];rfl
  rw[hd,h3];exact⟨⟨_,_,rfl⟩,hb⟩
 unfold zDe;obtain⟨b1,a1⟩:∃b,(zAe (s.data.toList++List.replicate 3 128)).isSome=b:=⟨_,rfl⟩;obtain⟨b2,ba⟩:∃b,(zAe (s.data.toList++List.replicate 3 191)).isSome=b:=⟨_,rfl⟩;obtain⟨r1,aw⟩:∃r:ByteArray,(⟨(List.replicate 3 128).toArray⟩:ByteArray)=r:=⟨_,rfl⟩;obtain⟨r2,au⟩:∃r:ByteArray,(⟨(List.replicate 3 191).toArray⟩:ByteArray)=r:=⟨_,rfl⟩;have bi:r1.size=3:=by rw[←aw];rfl
 have bc:r2.size=3:=by rw[←au];rfl
 have H1:=ao.o 128;have H2:=ao.o 191;have H3:=ap.o 128;have H4:=ap.o 191;rw[aw]at H1 H3;rw[au]at H2 H4;rw[a1]at H3 ⊢;rw[ba]at H4 ⊢;have H1:=hy' H1;have H2:=hy' H2;have H3:=hy' H3;have H4:=hy' H4;obtain⟨wa,ai⟩:∃wa,w.alloc (.cells #[.string ⟨#[128]⟩,.string ⟨#[191]⟩] 9)=wa:=⟨_,rfl⟩;have ay:Below w.heap.size w wa:=by rw[←ai];exact (Below.refl _ _).alloc (Nat.le_refl _) _
 have a7:Rw.At wa w.heap.size 9 [.string ⟨#[128]⟩,.string ⟨#[191]⟩]:=by rw[←ai];exact Rw.At.new w 9 [.string ⟨#[128]⟩,.string ⟨#[191]⟩]
 have bh:=hy' ai;have ax:=hy' ay;have bf:=hy' a7;have n1:¬9223372036854775807<s.size+r1.size:=by omega
 have n2:¬9223372036854775807<s.size+r2.size:=by omega
 clear ao ap a1 ba aw au bi bc ai ay a7 hH hs;go_enter Tryz.func65,Tryz.ntmps65;go_upto_block 0 with (fail)
 rw[bh.o];go_wp2_with fail;go_loopw [4,5,6,7,10] (fun _ _ _ _ i wr=>∃k:Nat,k≤2∧i=.int .i64 k∧(1≤k→b1=false)∧(2≤k→b2=false)∧Below wa.heap.size wa wr) (fun _ _ _ _ i _=>2-(intOf i).toNat)
 case atStart=>exact⟨0,by omega,rfl,fun h=>by omega,fun h=>by omega,Below.refl _ _⟩
 obtain⟨k,hk,rfl,a6,a8,ak⟩:=hrel;obtain⟨r0,rfl⟩:∃q:World,q=wr:=⟨_,rfl⟩;have aj:=hy' ak;have ag:=hy' (ax.o.trans (ak.mono ax.o.size));have ha:=bf.o.below ak;have hl:=ha.lt;have az:=hy' a6;have bg:=hy' a8;clear a6 a8 ak;have h3:k=0∨k=1∨k=2:=by omega
 rcases h3 with rfl|rfl|rfl
 · have c0:=ha.cell 0 rfl;clear ha;go_wp2_with fail;refine (H1.o r0).mono ?_;rintro e ar ⟨rfl,hb⟩;have ah:=hy' (aj.o.trans (hb.mono aj.o.size));have aa:=hy' (ag.o.trans (hb.mono ag.o.size));clear hb c0 hl;go_wp2_with fail;refine (H3.o ar aa.o).mono ?_;rintro e bb ⟨⟨c,n,rfl⟩,hb⟩;have av:=hy' (ah.o.trans (hb.mono ah.o.size));have ae:=hy' (aa.o.trans (hb.mono aa.o.size));clear hb;cases b1
   · go_wp2_with fail;exact⟨⟨1,by omega,by first|rfl|go_num,(fun _=>by first|rfl|trivial),fun h=>by omega,av.o⟩,by simp[intOf]⟩
   go_wp2_with fail;go_ret;exact⟨rfl,ae.o⟩
 · have c1:=ha.cell 1 rfl;have af:=az.o (by omega);subst af;clear ha;go_wp2_with fail;refine (H2.o r0).mono ?_;rintro e ar ⟨rfl,hb⟩;have ah:=hy' (aj.o.trans (hb.mono aj.o.size));have aa:=hy' (ag.o.trans (hb.mono ag.o.size));clear hb c1 hl;go_wp2_with fail;refine (H4.o ar aa.o).mono ?_;rintro e bb ⟨⟨c,n,rfl⟩,hb⟩;have av:=hy' (ah.o.trans (hb.mono ah.o.size));have ae:=hy' (aa.o.trans (hb.mono aa.o.size));clear hb;cases b2
   · go_wp2_with fail;exact⟨⟨2,by omega,by first|rfl|go_num,(fun _=>by first|rfl|trivial),(fun _=>by first|rfl|trivial),av.o⟩,by simp[intOf]⟩
   go_wp2_with fail;go_ret;exact⟨rfl,ae.o⟩
 have af:=az.o (by omega);have aq:=bg.o (by omega);subst af;subst aq;clear ha hl;go_wp2_with fail;go_ret;exact⟨rfl,ag.o⟩
def Sm.cells (v fv:Value) (s:Sm.St):List Value:=[v,fv,.string (zA5 s.z),.int .i64 ((zA5 (s.z.take s.k)).size:Nat),.string ⟨s.g.toArray⟩,.int .i64 (s.n:Nat),.int .i64 s.e]
def Sm.At (w:World) (g:Nat) (v fv:Value) (s:Sm.St):Prop:=Rw.At w g 67 (Sm.cells v fv s)
def Sm.fl (T:List Rw.Row) (c:Int):Nat:=(Ud.full T c).length
theorem zBN (T:List Rw.Row):∀z:List Int,Sm.sum (Sm.fl T) z=(Nf.fl T z).length
 | []=>rfl
 | c::z=>by
   have:=zBN T z;rw[zE2,List.length_append,←this];rfl
theorem zN4 {z:List Int} {c:Int} (hz:∀x∈z,U.isC x=true) (hc:U.isC c=true):zA5 z++⟨(zAp c).toArray⟩=zA5 (z++[c]):=by
 rw[zAG hz,zAG (fun x hx=>by rcases List.mem_append.1 hx with h|h;exact hz x h;rw[List.mem_singleton]at h;rw[h];exact hc),zAq];apply ByteArray.ext
 simp[zA4]
section
variable (v:Value) (T:List Rw.Row) (S:List Int) (fv:Value) (w0:World) (g:Nat) (ok:Ud.Ok T S) (his:Ud.Is w0 v T S) (hH:Heads w0) (hg:w0.heap.size≤g)
include ok his hH hg
theorem Sm.char_any (s:Sm.St) (c:Int) (w:World) (hw:Below w0.heap.size w0 w) (hs:Sm.Ok (Sm.fl T) s) (bi:s.g=[]) (hc:U.isC c=true) (ah:Sm.At w g v fv s) :
 Calls Tryz.prog 64 #[.pointer (some ⟨g,0,none⟩),.int .i32 c,.string ⟨(zAp c).toArray⟩] w fun e w'=>e=.returned (.int .i64 (Sm.char (zA7 T S) (Sm.fl T) s c).e)∧w.grownBy w' (some g)∧((Sm.char (zA7 T S) (Sm.fl T) s c).e=0→Sm.At w' g v fv (Sm.char (zA7 T S) (Sm.fl T) s c))∧∃a1 a2 a3 a4 a5,Rw.At w' g 67 [v,fv,a1,a2,a3,a4,a5]:=by
 have ay:=Nf.isC_i32 (hc:C.isC c=true)
 have bh:Hy (∀W,Below w0.heap.size w0 W→Calls Tryz.prog 39 #[v,.int .i32 c] W fun e w'=>∃A cc,e=.returned (.slice A (Sm.fl T c) cc)∧Below W.heap.size W w'):=hy' fun W hW=>by
  refine (Ud.full_any v T S c W ok (his.below hW) ay.1 ay.2).mono ?_;rintro e w' ⟨A,cc,rfl,_,hb⟩;exact⟨A,cc,rfl,hb⟩
 have bg:Hy (∀W,Below w0.heap.size w0 W→Calls Tryz.prog 20 #[v,.int .i32 c] W fun e w'=>e=.returned (.bool (zA7 T S c))∧Below W.heap.size W w'):=hy' fun W hW=>zJt v T S c W ok (his.below hW)
 obtain⟨m,hm⟩:∃m,Sm.fl T c=m:=⟨_,rfl⟩;obtain⟨b,hb⟩:∃b,zA7 T S c=b:=⟨_,rfl⟩;obtain⟨r,hr⟩:∃r,Sm.char (zA7 T S) (Sm.fl T) s c=r:=⟨_,rfl⟩;rw[hm]at bh;rw[hb]at bg;rw[hr];have bt:m≤32:=by rw[←hm];exact zBh ok c
 have hn:=hs.n
 have bl:(zA5 s.z).size≤4096:=by
  have h1:=zBj (z:=s.z) (fun x hx=>hs.z x hx);have h2:=zEs ok s.z;have h3:=hs.zn;rw[zBN]at h3;omega
 have bn:(⟨(zAp c).toArray⟩:ByteArray).size≤4:=(zCf c).2
 have aa:¬1024<s.n+m→r.e=0∧Sm.cells v fv r=[v,fv,.string (zA5 s.z++⟨(zAp c).toArray⟩),.int .i64 (if b=true then ((zA5 s.z).size:Nat) else ((zA5 (s.z.take s.k)).size:Nat)),.string ⟨#[]⟩,.int .i64 ((s.n+m:Nat):Int),.int .i64 0]:=fun h=>by
  rw[←hr];unfold Sm.char;rw[hm,hb,if_neg h];refine⟨rfl,?_⟩;unfold Sm.cells;rw[zN4 hs.z hc];have hk:=hs.k;cases b
  · simp only[Bool.false_eq_true,if_false];rw[List.take_append_of_le_length hk]
  simp only[if_true];rw[List.take_left]
 have ag:1024<s.n+m→r.e=7:=fun h=>by
  rw[←hr];unfold Sm.char;rw[hm,if_pos h];rfl
 obtain⟨sz,az⟩:∃q,zA5 s.z=q:=⟨_,rfl⟩;obtain⟨kz,ax⟩:∃q,(zA5 (s.z.take s.k)).size=q:=⟨_,rfl⟩;obtain⟨ec,a7⟩:∃q:ByteArray,⟨(zAp c).toArray⟩=q:=⟨_,rfl⟩;obtain⟨sn,av⟩:∃q,s.n=q:=⟨_,rfl⟩;unfold Sm.At at ah ⊢;have a8:Sm.cells v fv s=[v,fv,.string sz,.int .i64 kz,.string ⟨#[]⟩,.int .i64 (sn:Nat),.int .i64 0]:=by unfold Sm.cells;rw[az,ax,bi,av,hs.e]
 rw[a8]at ah;rw[az]at bl aa;rw[ax]at aa;rw[a7]at bn aa ⊢;rw[av]at hn aa ag;obtain⟨pb,rfl,hpb⟩:=his.form;have HW:=hy' hw;have bf:=hy' ah;have aw:=hy' aa;have au:=hy' ag;have HG:=hy' hg;have bo:=hy' (show w.grownBy w.drew (some g) from zAo (Below.refl _ _).drew)
 have bq:Hy (∀W,Below w.heap.size w W→(∀x:Stg.Later Stg.Ex W,x.val.cell? ⟨g,0,none⟩=some (.pointer (some ⟨pb,0,none⟩)))∧(∀x:Stg.Later Stg.Ex W,x.val.cell? ⟨g,5,none⟩=some (.int .i64 (sn:Nat)))):=hy' fun W hW =>
  have hT:=ah.below hW
  ⟨Stg.cells (hT.cell 0 rfl) hT.lt,Stg.cells (hT.cell 5 rfl) hT.lt⟩
 have bs:=hy' (fun W (hW:Below w.heap.size w W)=>hw.trans (hW.mono hw.size));have aj:=hy' (Below.refl w.heap.size w).drew;clear ok his hH hg hw hs bi hc ay hm hb hr aa ag az ax a7 av ah a8;go_enter Tryz.func64,Tryz.ntmps64;go_upto_region 1 with (fail)
 refine Stg.wp_region (by kernel_rfl) Stg.Ex Stg.Ex.rel ?_
 (iterate 3 (refine Stg.readW (by kernel_rfl) ?_;intro K hK;go_big_quiet_op;go_big_quiet_on))
 obtain⟨f0,f1⟩:=bq.o w.drew aj.o;refine Stg.read 0 (by kernel_rfl) w.drew rfl ?_;intro K hK;go_big_quiet_op;go_big_quiet_on
 (iterate 3 (refine Stg.readW (by kernel_rfl) ?_;intro K hK;go_big_quiet_op;go_big_quiet_on))
 refine Stg.read 0 (by kernel_rfl) w.drew rfl ?_;intro K hK;go_big_quiet_op;go_big_quiet_on;refine Stg.readW (by kernel_rfl) ?_;intro K hK;go_big_quiet_op;go_big_quiet_on;refine Stg.call 39 _ _ rfl Tryz.func39 [.pointer (some ⟨pb,0,none⟩),.int .i32 c] rfl w.drew _ (bh.o w.drew (bs.o w.drew aj.o)) (by kernel_rfl) rfl ?_;rintro e q1 ⟨A,cc,rfl,hb⟩;refine⟨_,rfl,hb,?_⟩;have aq:=hy' (aj.o.trans (hb.mono aj.o.size));clear hb;intro A' ao;simp only[Act.put,List.setIfInBounds_toArray,List.set_cons_succ,List.set_cons_zero]at ao;subst ao
 (iterate 4 (refine Stg.readW (by kernel_rfl) ?_;intro K hK;go_big_quiet_op;go_big_quiet_on))
 have hq:=bf.o.below aq.o;have u0:=hq.frozen 5;have u1:=hq.lt;have u2:=hq.cell 5 rfl;clear hq;refine Stg.last (by kernel_rfl) q1 rfl ?_;intro K hK;go_simp;obtain⟨q2,ai⟩:∃q2,(q1).setCell ⟨g,5,none⟩ (.int .i64 ((sn:Int)+(m:Int)))=q2:=⟨_,rfl⟩;rw[ai];refine hK _ _ ?_;intro A' ao;subst ao;clear u0 u1 u2;clear f0 f1;refine Stg.nil q2 rfl ?_;have ar:w.grownBy q2 (some g):=by rw[←ai];exact zA0 (zAo aq.o) (Rw.grown_set _ _ _)
 have ae:Rw.At q2 g 67 [.pointer (some ⟨pb,0,none⟩),fv,.string sz,.int .i64 kz,.string ⟨#[]⟩,.int .i64 ((sn+m:Nat):Int),.int .i64 0]:=by
  have:=(bf.o.below aq.o).set 5 (.int .i64 ((sn+m:Nat):Int));rw[←ai,Int.natCast_add];rw[Int.natCast_add]at this;exact this
 have bb:=hy' ar;have a6:=hy' ae;have bm:=hy' (zBT HW.o HG.o ar);have c5:=ae.cell 5 rfl;have c0:=ae.cell 0 rfl;have cl:=ae.lt;clear ar ae ai
 by_cases h:1024<sn+m
 · have hI:((sn+m:Nat):Int) > 1024:=by omega
   have he:=au.o h;go_wp2_with fail;go_ret;rw[he];exact⟨rfl,bb.o,(fun e=>by cases e),_,_,_,_,_,a6.o⟩
 have hI:¬((sn+m:Nat):Int) > 1024:=by omega
 obtain⟨he,hcs⟩:=aw.o h;have HE:=hy' he;have bj:=hy' hcs;clear hcs he h;go_wp2_with fail;refine (bg.o q2 bm.o).mono ?_;rintro e q3 ⟨rfl,hb⟩;have bc:=hy' (zA0 bb.o (zAo hb));have af:=a6.o.below hb;have ba:=hy' af;have c2:=af.cell 2 rfl;have c3:=af.cell 3 rfl;have bp:=af.lt;have f2:=af.frozen 2;have f3:=af.frozen 3;have n1:¬9223372036854775807<sz.size+ec.size:=by omega
 clear hb af c5 c0 cl hI;cases b
 · go_wp2_with fail;go_ret;have h1:=ba.o.set 2 (.string (sz++ec));exact⟨(by rw[HE.o];rfl),zA0 bc.o (Rw.grown_set _ _ _),(fun _=>by rw[bj.o];exact h1),_,_,_,_,_,h1⟩
 obtain⟨q4,ak⟩:∃q4,q3.setCell ⟨g,3,none⟩ (.int .i64 (sz.size:Nat))=q4:=⟨_,rfl⟩;have h0:=ba.o.set 3 (.int .i64 (sz.size:Nat));rw[ak]at h0;have br:=hy' (zA0 bc.o (show q3.grownBy q4 (some g) by rw[←ak];exact Rw.grown_set _ _ _));have ap:=hy' h0;have bk:=hy' ak;clear h0 ak;go_upto_region 6 with (fail)
 rw[bk.o];clear c2 c3 bp f2 f3;have c2:=ap.o.cell 2 rfl;have bu:=ap.o.lt;have f2:=ap.o.frozen 2;go_wp2_with fail;go_ret;have h1:=ap.o.set 2 (.string (sz++ec));exact⟨(by rw[HE.o];rfl),zA0 br.o (Rw.grown_set _ _ _),(fun _=>by rw[bj.o];exact h1),_,_,_,_,_,h1⟩
end
end Go.Proofs.YtdbpjmfflofadaaGreatDoor
