/- The layer nfc: Join, Chars, Of, Is of whole texts, by walking their texts. -/
import Derived.Test.YtddbccflcekdpaaGreatDoorNfWhole
import Derived.RangeFuncNested
import Derived.RangeFuncBound
import Derived.OwnWalkIn
import Derived.TacticsInMore
import Derived.LoopNIn
import Derived.LoopIn
import Derived.Lib.Bytealg
import Derived.Lib.ItoaMem
set_option maxRecDepth 100000
set_option maxHeartbeats 4000000
set_option linter.unusedVariables false
set_option linter.unusedSimpArgs false
namespace Go.Proofs.YtddbccflcekdpaaGreatDoor
open Go.Proofs.Tryz
section
open Go.RowKit
theorem zPA {T:List Rw.Row} {S:List Int} (ok:Ud.Ok T S) {s:Nc.St} {c:Int} (hs:∀x∈s.out,C.isC x=true) (hc:C.isC c=true):∀x∈(Nc.put (Md.cls T) (Nc.j T S) s c).out,C.isC x=true:=by
 unfold Nc.put;cases h:Nc.hit (Md.cls T) (Nc.j T S) s c with
 | none =>
   intro x hx;simp only[zAE]at hx;rcases List.mem_append.1 hx with h|h
   · exact hs x h
   rw[Zw]at h;rw[h];exact hc
 | some p =>
   obtain⟨b,hb,hj,_⟩:=zBY h;intro x hx;simp only[zFq hb]at hx;rcases List.mem_or_eq_of_mem_set hx with h|h
   · exact hs x h
   rw[h];exact (zNI ok hj).2.2.2
theorem zHc {T:List Rw.Row} {S:List Int} (ok:Ud.Ok T S):∀(l:List Int) (s:Nc.St),(∀x∈s.out,C.isC x=true)→(∀c∈l,C.isC c=true)→∀x∈(Nc.run (Md.cls T) (Nc.j T S) s l).out,C.isC x=true
 | [],s,hs,_=>hs
 | c::l,s,hs,hl=>zHc ok l (Nc.put (Md.cls T) (Nc.j T S) s c) (zPA ok hs (hl c Zt)) fun x hx=>hl x (Zv _ hx)
theorem zHP {T:List Rw.Row} {S:List Int} (ok:Ud.Ok T S) {l:List Int} (h:∀c∈l,C.isC c=true):∀x∈zCf T S l,C.isC x=true :=
 zHc ok l zCa (fun x hx=>by cases hx) h
theorem Nc.run_snoc {f:Int→Int} {j:Int→Int→Option Int} {l:List Int} {k:Nat} {x:Int} (hx:l[k]?=some x):Nc.run f j zCa (l.take (k+1))=Nc.put f j (Nc.run f j zCa (l.take k)) x:=by
 rw[ZB,hx];exact Nc.run_app zCa (l.take k) [x]
theorem zRA {s:Nc.St} {x:Int} (h:s.b=some x):x∈s.out:=Zn (zEX h)
theorem zJc (v:Value) (T:List Rw.Row) (S:List Int) (A:Option Addr) (n c:Nat) (l:List Int) (w:World) (ok:Ud.Ok T S) (h:Ud.Is w v T S) (hl:l.length=n) (hn:n≤100000) (aq:∀x∈l,C.isC x=true) (hA:Sl w w.heap.size A (l.map (Value.int .i32))) :
 Calls prog 58 #[v,.slice A n c] w (Md.RetOwn (zCf T S l) w):=by
 obtain⟨pb,rfl,hpb⟩:=h.form;have aw:Hy (∀(s:Nc.St) (x:Int) (W:World),Below w.heap.size w W→Nc.In W w.heap.size (.pointer (some ⟨pb,0,none⟩)) (Md.cls T) s→C.isC x=true→s.out.length≤100000→(∀y∈s.out,C.isC y=true)→Calls prog 84 #[.pointer (some ⟨w.heap.size,0,none⟩),.int .i32 x] W fun e w'=>e=.returned (.tuple #[])∧Nc.In w' w.heap.size (.pointer (some ⟨pb,0,none⟩)) (Md.cls T) (Nc.put (Md.cls T) (Nc.j T S) s x)∧Below w.heap.size W w'):=hy' fun s x W hW hI hx hs hsc=>Nc.put_any w.heap.size _ T S s x W ok (h.below hW) hI (Nf.isC_i32 hx).1 (Nf.isC_i32 hx).2 hs (fun y hy=>Nf.isC_i32 (hsc y (zRA hy)))
 have av:=hy' (fun k=>zHc ok (l.take k) zCa (fun x hx=>by cases hx) (fun c hc=>aq c (Z5 hc)));obtain⟨f,hf⟩:∃f,Md.cls T=f:=⟨_,rfl⟩;obtain⟨j,hj⟩:∃j,Nc.j T S=j:=⟨_,rfl⟩;have az:zCf T S l=(Nc.run f j zCa l).out:=by rw[←hf,←hj];rfl
 rw[az];rw[hf,hj]at aw;rw[hf,hj]at av;obtain⟨wa,aj⟩:∃wa,w.alloc (.cells #[.pointer (some ⟨pb,0,none⟩),.slice none 0 0,.int .i64 (-1),.int .i64 (-1)] 134)=wa:=⟨_,rfl⟩;have ax:Below w.heap.size w wa:=by rw[←aj];exact (Zc _ _).alloc (Za _) _
 have ae:Nc.In wa w.heap.size (.pointer (some ⟨pb,0,none⟩)) f zCa:=by
  refine⟨none,0,?_,ZI _ _ _ _⟩;rw[←aj];exact Rw.At.new w 134 [.pointer (some ⟨pb,0,none⟩),.slice none 0 0,.int .i64 (-1),.int .i64 (-1)]
 have bb:=hy' aj;have bc:=hy' ax;have a7:=hy' ae;have HL:=hy' hl;have ba:=hy' aq;have HA:=hy' hA;clear aj ax ae hl aq hA h ok hf hj az hpb;go_enter func58,ntmps58;go_upto_region 2 with (fail)
 rw[bb.o];go_wp2_with fail;go_loopw [7,13] (fun _ i wr=>∃(k:Nat),k≤n∧i=.int .i64 k∧Nc.In wr w.heap.size (.pointer (some ⟨pb,0,none⟩)) f (Nc.run f j zCa (l.take k))∧Below w.heap.size w wr) (fun _ i _=>n-(intOf i).toNat)
 case atStart=>exact⟨0,ZG _,rfl,a7.o,bc.o⟩
 obtain⟨k,hk,rfl,ae,aa⟩:=hrel
 by_cases hlt:k<n
 · obtain⟨x,hx⟩:∃x,l[k]?=some x:=⟨_,Zb (by rw[HL.o];exact hlt)⟩;have a1:=ba.o x (Zn hx);obtain⟨ab,ao,hA2,bh,au⟩:=HA.o.below aa aa.size (by rw[Ze,HL.o];omega);have hc:=au k (by rw[Ze,HL.o];exact hlt);rw[Zs,hx,ZA]at hc;have ag:=Nc.run_snoc (f:=f) (j:=j) hx;have hlen:=(Nc.run_len (f:=f) (j:=j) (l.take k) zCa).2.1;rw[Zq,HL.o]at hlen;have a6:zCa.out.length=0:=rfl;have bg:=hy' (aw.o _ x wr aa ae a1 (by omega) (av.o k));have ar:=hy' ag;have ak:=hy' aa;have kI:(k:Int)<n:=by omega
   have k0:(0:Int)≤k:=by omega
   subst hA2;clear hx a1 au ag hlen ae aa a6;go_wp2_with fail;refine bg.o.mono ?_;rintro e w1 ⟨rfl,ah,ay⟩;have ap:=hy' ah;have bf:=hy' (ak.o.trans ay);clear ah ay;go_wp2_with fail;exact⟨⟨k+1,by omega,by first|rfl|go_num,by rw[ar.o];exact ap.o,bf.o⟩,by simp[intOf];omega⟩
 obtain rfl:k=n:=by omega
 rw[Zm (by rw[HL.o];exact Za _)]at ae;obtain⟨s,hs⟩:∃s,Nc.run f j zCa l=s:=⟨_,rfl⟩;rw[hs]at ae;have a8:=hy' hs;obtain⟨A4,c4,ai,af⟩:=ae;obtain⟨sn,ag⟩:∃q,s.out.length=q:=⟨_,rfl⟩;rw[ag]at ai af;have kI:¬(k:Int)<k:=by omega
 have z1:=ai.cell 1 rfl;have zl:=ai.lt;have HO:=hy' (zAw af (ZX _));have HB:=hy' aa;have ar:=hy' ag;clear ai af aa hs ag;go_wp2_with fail;go_ret;unfold Md.RetOwn;rw[a8.o,ar.o];exact⟨_,_,rfl,HO.o,HB.o⟩
theorem Nc.Chars_any (v:Value) (T:List Rw.Row) (S:List Int) (A:Option Addr) (n c:Nat) (l:List Int) (w:World) (ok:Ud.Ok T S) (h:Ud.Is w v T S) (hl:l.length=n) (hn:n≤3000) (ag:∀x∈l,C.isC x=true) (hA:Sl w w.heap.size A (l.map (Value.int .i32))) :
 Calls prog 53 #[v,.slice A n c] w (Md.RetOwn (Nc.chars T S l) w):=by
 have af:=Nf.Chars_any v T S A n c l w ok h hl hn (fun x hx=>Nf.isC_i32 (ag x hx)) hA Tx.sym;have hlen:=Nf.chars_le ok l;obtain⟨Z,hZ⟩:∃Z,Nf.chars T l=Z:=⟨_,rfl⟩;have ak:∀c∈Z,C.isC c=true:=by rw[←hZ];exact Nf.chars_isC ok ag
 obtain⟨zn,ae⟩:∃q,Z.length=q:=⟨_,rfl⟩;rw[hZ,ae]at hlen
 have HJ:Hy (∀A' c' W,Below w.heap.size w W→Sl W W.heap.size A' (Z.map (Value.int .i32))→Calls prog 58 #[v,.slice A' zn c'] W (Md.RetOwn (Nc.chars T S l) W)):=hy' fun A' c' W hW ar=>by
  have:=zJc v T S A' zn c' Z W ok (h.below hW) ae (by omega) ak ar;rw[←hZ]at this;exact this
 unfold Md.RetOwn at af;rw[hZ,ae]at af;obtain⟨R,hR⟩:∃R,Nc.chars T S l=R:=⟨_,rfl⟩;rw[hR]at HJ ⊢;obtain⟨pb,rfl,_⟩:=h.form;have HC:=hy' af;clear af hlen hZ ak ae hR h ok hl ag hA;go_enter func53,ntmps53;go_wp2_with fail;refine HC.o.mono ?_;rintro e w1 ⟨A1,c1,rfl,aa,ah⟩;have ap:=hy' (HJ.o A1 c1 w1 ah (Sl.of_own aa));have ai:=hy' ah;clear aa ah;go_wp2_with fail;refine ap.o.mono ?_;unfold Md.RetOwn;rintro e w2 ⟨A2,c2,rfl,aa,aj⟩;have ao:=hy' (zAw aa ai.o.size);have aq:=hy' (ai.o.trans (aj.mono ai.o.size));clear aa aj;go_wp2_with fail;go_ret;exact⟨_,_,rfl,ao.o,aq.o⟩
def Nc.tl (T:List Rw.Row) (S:List Int) (cs:List Int) (r:List UInt8):List Int:=zCf T S (Nf.tl T cs r)
theorem Nc.of_any (v:Value) (T:List Rw.Row) (S:List Int) (s:ByteArray) (w:World) (ok:Ud.Ok T S) (h:Ud.Is w v T S) (hs:s.size≤1000000000000) (hH:Heads w) (cs:List Int) (r:List UInt8) (hd:zH6 s.data.toList cs r) (hcs:cs.length≤3000) :
 Calls prog 31 #[v,.string s] w fun e w'=>e=.returned (.tuple #[.string (zA6 (Nc.tl T S cs r)),.int .i64 (Nf.tn T cs r)])∧Below w.heap.size w w':=by
 have ak:=Nf.of_any v T S s w ok h hs hH cs r hd hcs
 have aa:∀c∈Nf.tl T cs r,C.isC c=true:=by
  unfold Nf.tl;split
  · exact Nf.chars_isC ok hd.2.1
  simp
 have hlen:(Nf.tl T cs r).length≤96000:=by
  unfold Nf.tl;split
  · have:=Nf.chars_le ok cs;omega
  simp
 have au:Nf.tn T cs r=0∨(Nf.tn T cs r≠0∧Nf.tl T cs r=[]):=by
  unfold Nf.tn Nf.tl
  by_cases h1:r=[]
  · by_cases h2:(Nf.fl T cs).length≤1024
    · left;rw[Zo h1,Zo h2]
    right;rw[Zo h1,Zl h2,Zl (fun g=>h2 g.2)];exact⟨by decide,rfl⟩
  right;rw[Zl h1,Zl (fun g=>h1 g.1)];exact⟨by decide,rfl⟩
 unfold Nc.tl;obtain⟨z,hz⟩:∃z,Nf.tl T cs r=z:=⟨_,rfl⟩;obtain⟨e,he⟩:∃e,Nf.tn T cs r=e:=⟨_,rfl⟩;rw[hz,he]at ak au;rw[hz]at aa hlen ⊢;rw[he];obtain⟨zn,ae⟩:∃q,z.length=q:=⟨_,rfl⟩;have ai:=zHP ok (S:=S) aa;have ar:(zCf T S z).length≤z.length:=(zIq _).1;obtain⟨R,hR⟩:∃R,zCf T S z=R:=⟨_,rfl⟩;obtain⟨rn,ah⟩:∃q,R.length=q:=⟨_,rfl⟩;rw[hR]at ai ar;rw[ae]at hlen;rw[ah,ae]at ar
 have a1:Hy (∀W,Below w.heap.size w W→Calls prog 57 #[.string (zA6 z)] W fun e w'=>∃A' c',e=.returned (.tuple #[.slice A' zn c',.int .i64 0])∧Sl w' w'.heap.size A' (z.map (Value.int .i32))∧Below W.heap.size W w'):=hy' fun W hW=>by
  refine (zHI (zA6 z) W (by have:=zCp aa;omega) (hH.next hW) z [] (zCo aa)).mono ?_;rintro e w' ⟨A',c',rfl,ho,hb⟩;rw[show zHH z []=z from rfl,show zOF []=0 from rfl]at *;rw[ae]at ho ⊢;exact⟨A',c',rfl,Sl.of_own ho,hb⟩
 have HJ:Hy (∀A' c' W,Below w.heap.size w W→Sl W W.heap.size A' (z.map (Value.int .i32))→Calls prog 58 #[v,.slice A' zn c'] W fun e w'=>∃A' c',e=.returned (.slice A' rn c')∧Sl w' w'.heap.size A' (R.map (Value.int .i32))∧Below W.heap.size W w'):=hy' fun A' c' W hW aq=>by
  refine (zJc v T S A' zn c' z W ok (h.below hW) ae (by omega) aa aq).mono ?_;rintro e w' ⟨A',c',rfl,ho,hb⟩;rw[hR,ah]at ho ⊢;exact⟨A',c',rfl,Sl.of_own ho,hb⟩
 have ay:Hy (∀A' c' W,Below w.heap.size w W→Sl W W.heap.size A' (R.map (Value.int .i32))→Calls prog 42 #[.slice A' rn c'] W fun e w'=>e=.returned (.tuple #[.string (zA6 R),.int .i64 0])∧Below W.heap.size W w'):=hy' fun A' c' W hW aq=>by
  have:=zEU A' c' W.heap.size R W (Za _) aq (by omega) (fun x hx=>Nf.isC_i32 (ai x hx)) (hH.next hW);rw[ah,zQD ai]at this;exact this
 obtain⟨sR,aj⟩:∃q,zA6 R=q:=⟨_,rfl⟩;obtain⟨sz,aw⟩:∃q,zA6 z=q:=⟨_,rfl⟩
 have ba:e≠0→sR=⟨#[]⟩:=fun hne=>by
  rcases au with h0|⟨_,h0⟩
  · exact absurd h0 hne
  subst h0;rw[←aj,←hR];rfl
 rw[hR,aj];rw[aj]at ay;rw[aw]at a1 ak
 have av:e=0∨(e≠0∧sR=⟨#[]⟩):=by
  by_cases h0:e=0
  · exact .inl h0
  exact .inr ⟨h0,ba h0⟩
 obtain⟨pb,rfl,_⟩:=h.form;have HO:=hy' ak;clear ak aa hlen au hz he ae ai hR ar ah aj aw ba hd hcs ok h hs hH;rcases av with rfl|⟨hne,rfl⟩
 · go_enter func31,ntmps31;go_wp2_with fail;refine HO.o.mono ?_;rintro e w1 ⟨rfl,af⟩;have ag:=hy' af;clear af;go_wp2_with fail;refine (a1.o w1 ag.o).mono ?_;rintro e w2 ⟨A2,c2,rfl,a6,a7⟩;have bc:=hy' a6;have ap:=hy' (ag.o.trans (a7.mono ag.o.size));clear a6 a7;go_wp2_with fail;refine (HJ.o A2 c2 w2 ap.o bc.o).mono ?_;rintro e w3 ⟨A3,c3,rfl,a8,az⟩;have bg:=hy' a8;have ao:=hy' (ap.o.trans (az.mono ap.o.size));clear a8 az;go_wp2_with fail;refine (ay.o A3 c3 w3 ao.o bg.o).mono ?_;rintro e w4 ⟨rfl,ax⟩;have bf:=hy' (ao.o.trans (ax.mono ao.o.size));clear ax;go_wp2_with fail;go_ret2;exact⟨rfl,bf.o⟩
 have bb:(e == 0)=false:=by simpa using hne
 clear hne;go_enter func31,ntmps31;go_wp2_with fail;refine HO.o.mono ?_;rintro e w1 ⟨rfl,af⟩;have ag:=hy' af;clear af;go_wp2_with fail;go_ret2;exact⟨rfl,ag.o⟩
theorem Nc.is_any (v:Value) (T:List Rw.Row) (S:List Int) (s:ByteArray) (w:World) (ok:Ud.Ok T S) (h:Ud.Is w v T S) (hs:s.size≤1000000000000) (hH:Heads w) (cs:List Int) (r:List UInt8) (hd:zH6 s.data.toList cs r) (hcs:cs.length≤3000) :
 Calls prog 29 #[v,.string s] w fun e w'=>e=.returned (.bool (decide (Nf.tn T cs r=0)&&decide (zA6 (Nc.tl T S cs r)=s)))∧Below w.heap.size w w':=by
 have af:=Nc.of_any v T S s w ok h hs hH cs r hd hcs;obtain⟨z,hz⟩:∃z,zA6 (Nc.tl T S cs r)=z:=⟨_,rfl⟩;obtain⟨e,he⟩:∃e,Nf.tn T cs r=e:=⟨_,rfl⟩;rw[hz,he]at af ⊢;obtain⟨pv,rfl,_⟩:=h.form;have HO:=hy' af;clear af hz he hd hcs ok h hs hH
 by_cases h0:e=0
 · subst h0;rw[Zr rfl,YJ];obtain⟨b,hb⟩:∃b,decide (z=s)=b:=⟨_,rfl⟩;have ag:(z.toList == s.toList)=b:=by rw[←hb];exact zDf z s
   rw[hb];have ah:=hy' ag;have aj:=hy' hb;clear hb;go_enter func29,ntmps29;go_wp2_with fail;refine HO.o.mono ?_;rintro e w1 ⟨rfl,aa⟩;have ae:=hy' aa;clear aa;go_wp2_with fail;go_ret;exact⟨by first|rfl|rw[ah.o],ae.o⟩
 rw[Zu h0,Xx];have ai:(e == 0)=false:=by simpa using h0
 clear h0;go_enter func29,ntmps29;go_wp2_with fail;refine HO.o.mono ?_;rintro e w1 ⟨rfl,aa⟩;have ae:=hy' aa;clear aa;go_wp2_with fail;go_ret;exact⟨by first|rfl|simp,ae.o⟩
theorem Nc.chars_isC {T:List Rw.Row} {S:List Int} (ok:Ud.Ok T S) {l:List Int} (h:∀c∈l,C.isC c=true):∀x∈Nc.chars T S l,C.isC x=true:=zHP ok (Nf.chars_isC ok h)
theorem Nc.chars_le {T:List Rw.Row} {S:List Int} (ok:Ud.Ok T S) (l:List Int):(Nc.chars T S l).length≤(Nf.fl T l).length:=by
 rw[←Nf.chars_len];exact (Nc.chars_len ok l).1
theorem Nc.fl_ch {T:List Rw.Row} {S:List Int} (ok:Ud.Ok T S) {z:List Int} (h:(Nf.fl T z).length≤1024):(Nf.fl T (Nc.chars T S z)).length≤1024:=by
 rw[←Nf.chars_len,zJb ok,Nf.chars_len];exact h
section
variable (v:Value) (T:List Rw.Row) (S:List Int) (z:List Int) (w:World) (ok:Ud.Ok T S) (h:Ud.Is w v T S) (hH:Heads w) (hz:∀c∈z,C.isC c=true) (hl:z.length≤3000) (hf:(Nf.fl T z).length≤1024)
include ok h hH hz hl hf
theorem Nc.of_chars:Calls prog 31 #[v,.string (zA6 z)] w fun e w'=>e=.returned (.tuple #[.string (zA6 (Nc.chars T S z)),.int .i64 0])∧Below w.heap.size w w':=by
 have:=Nc.of_any v T S (zA6 z) w ok h (by have:=zCp hz;omega) hH z [] (zCo hz) hl;unfold Nc.tl at this;rw[zGx hf,zGy hf]at this;exact this
theorem Nc.is_chars:Calls prog 29 #[v,.string (zA6 z)] w fun e w'=>e=.returned (.bool (decide (Nc.chars T S z=z)))∧Below w.heap.size w w':=by
 have:=Nc.is_any v T S (zA6 z) w ok h (by have:=zCp hz;omega) hH z [] (zCo hz) hl;unfold Nc.tl at this;rw[zGx hf,zGy hf,Zr rfl,YJ]at this
 rw[show decide (Nc.chars T S z=z)=decide (zA6 (zCf T S (Nf.chars T z))=zA6 z) from by
  rw[Z9,ZW,ZW];exact⟨fun e=>by rw[show zCf T S (Nf.chars T z)=z from e],fun e=>zDY (Nc.chars_isC ok hz) hz e⟩]
 exact this
end
def zIj {β:Type} (B b:Nat) (I:β→World→Prop):Prop :=
 ∀s W W' row,I s W→W.grownBy W' row→(∀r,row=some r→r=b∨(B≤r∧∃o:Obj,W.heap[r]?=some o∧o.isCells=false))→I s W'
def zQL {β:Type} (b:Nat) (J:β→World→Prop):Prop:=∀s W W' row,J s W→W.grownBy W' row→(∀r,row=some r→r=b)→J s W'
def R.Kept (ks:List Nat) (W W':World):Prop:=∀k∈ks,∀o,W.heap[k]?=some o→W'.heap[k]?=some o
def zSc {α:Type} (n:Nat) (P:Program) (g:Nat) (lb:Array Value) (encs:α→Array Value) (b:Nat) (ks:List Nat) (S Sp:List α→Prop) (N:Nat) (W:World):Prop :=
 ∀(l:Nat) (J Jx:List α→World→Prop),zQL b J→zQL b Jx →
  (∀pre x W1,J pre W1→pre.length<N→Sp (pre++[x])→YieldAt Fence.wide (n-1) P l (encs x) W1 fun e W' =>
    (e=.returned (.bool true)∧J (pre++[x]) W'∧R.Kept ks W1 W')∨(e=.returned (.bool false)∧Jx (pre++[x]) W')) →
  J [] W →
  CallsIn Fence.wide n P g (#[.func (.yield l) #[] #[]]++lb) W fun e W'=>(∃v,e=.returned v)∧((∃xs,S xs∧J xs W')∨(∃pre,Sp pre∧Jx pre W'))
def zSI {α:Type} (B:Nat) (ks:List Nat) (I:List α→World→Prop) (Ix:Code→List α→World→Prop) (xs:List α) (W:World):Exit→Act→World→Prop
 | .normal,_,W'=>KeepsFrom B W W'∧R.Kept ks W W'∧I xs W'
 | .ret,_,W'=>KeepsFrom B W W'∧Ix .ret xs W'
 | .exit id,_,W'=>KeepsFrom B W W'∧Ix (.exit id) xs W'
 | .goto t,_,W'=>KeepsFrom B W W'∧Ix (.goto t) xs W'
 | .panic _,_,_=>False
 | .outgrown,_,_=>False
theorem zFH {β:Type} {B b:Nat} {I:β→World→Prop} (h:zIj B b I) {s:β} {W:World} (o:Obj) (hs:I s W):I s (W.alloc o) :=
 h s W _ none hs (Ys W o none) (fun r e=>by cases e)
theorem zBJ {β:Type} {B b:Nat} {I:β→World→Prop} (h:zIj B b I) {s:β} {W:World} {l:Nat} {o:Obj} (o':Obj) (hs:I s W) (hB:B≤l) (hl:W.heap[l]?=some o) (ho:o.isCells=false):I s (W.putObj l o') :=
 h s W _ (some l) hs (grownBy_putObj' W l o') (fun r e=>by cases e;exact .inr ⟨hB,o,hl,ho⟩)
theorem zDB {b k:Nat} {W W':World} {row:Option Nat} {o:Obj} (hg:W.grownBy W' row) (hr:∀r,row=some r→r=b) (hk:W.heap[k]?=some o) (hne:k≠b):W'.heap[k]?=some o :=
 (hg.block k (Array.getElem?_eq_some_iff.1 hk).1 (fun e=>hne (hr k e.symm))).trans hk
theorem R.range {α:Type} {n:Nat} {P:Program} {g:Operand} {ps:Array Tmp} {assign body:Code} {Q:Exit→Act→World→Prop} {a:Act} {w:World} (h1:1≤n)
 {gf:Nat} {lb:Array Value} (hg:a.eval g=.func (.func gf) #[] lb) (eg:∀args w,(callFunc gf args).run P w=.ok (.enter gf args) w)
 {encs:α→Array Value} {b:Nat} (hb:b<w.heap.size) {ks:List Nat} (av:∀k∈ks,k<w.heap.size) {S Sp:List α→Prop} {N:Nat} (ax:∀W,Below w.heap.size w W→zSc (n-1) P gf lb encs b ks S Sp N W) (bc:∀x,(encs x).size=ps.size)
 (I:List α→World→Prop) (Ix:Code→List α→World→Prop) (hI:zIj w.heap.size b I) (ak:∀c,zIj w.heap.size b (Ix c)) (h0:I [] w) (a₁:α→Act)
 (af:∀(l:Nat) (x:α) (W:World) (K:Act→World→Prop),K (a₁ x) W →
   assign.wpIn (Fence.wide.inRound l) (n-1-1) P (Exit.then K (fun _ _ _=>False)) { tmps:=(ps.zip (encs x)).foldl (fun t (p,v)=>t.setIfInBounds p v) a.tmps,defers:=[] } W)
 (ag:∀(l:Nat) (pre:List α) (x:α) (W:World),I pre W→pre.length<N→Sp (pre++[x])→body.wpIn (Fence.wide.inRound l) (n-1-1) P (zSI w.heap.size ks I Ix (pre++[x]) W) (a₁ x) W)
 (ah:∀(D:Nat) (xs:List α) (W:World),w.heap.size≤D→S xs→I xs W→W.heap[D]?=some (.deferred (some []))→Q .normal { a with defers:={ target:=.collected D,args := #[] }::a.defers } W)
 (ai:∀(D:Nat) (c:Code) (pre:List α) (W:World),w.heap.size≤D→Sp pre→Ix c pre W→W.heap[D]?=some (.deferred (some []))→c.wpIn Fence.wide n P Q { a with defers:={ target:=.collected D,args := #[] }::a.defers } W) :
 (Code.rangeFunc g ps assign body).wpIn Fence.wide n P Q a w:=by
 refine wpIn_rangeFunc fun fn a8=>?_
 show ∃(l:Nat) (mark:List Deferred) (w₁:World) (d:Deferred) (bf:World) (f:FuncId) (args:Array Value) (w₂:World),_
 let rec':LoopState→Option Code→Loop:=fun st pe=>{ state:=st,pending:=pe,fn,tmps:=a.tmps,params:=ps,assign,body,defers:=w.heap.size }
 obtain⟨D,hD⟩:∃D,w.heap.size=D:=⟨_,rfl⟩;obtain⟨lr,ae⟩:∃lr,lr=rec':=⟨_,rfl⟩;obtain⟨V,hV⟩:∃V,(w.alloc (.deferred (some []))).alloc (.loop (lr .ready none))=V:=⟨_,rfl⟩
 have ay:V.heap[D+1]?=some (.loop (lr .ready none)):=by
  have h:=World.alloc_heap_new (w.alloc (.deferred (some []))) (.loop (lr .ready none));rw[ZL,hV,hD]at h;exact h
 have aq:V.heap[D]?=some (.deferred (some [])):=by
  rw[←hV,←hD];exact (Q6 _ _ _ (by simp)).trans (World.alloc_heap_new w _)
 have inv1:I [] V:=by
  rw[←hV];exact zFH hI _ (zFH hI _ h0)
 have au:Below w.heap.size w V:=by
  rw[←hV];exact ((Zc _ w).alloc (Za _) _).alloc (by simp) _
 rw[hD]at hI ak hb av ag ah ai;refine⟨D+1,[{ target:=.collected D,args := #[] }],V,{ target:=.fn (.func gf) lb,args := #[.func (.yield (D+1)) #[] #[]] },V,gf,#[.func (.yield (D+1)) #[] #[]]++lb,V,?_,?_,?_,?_,fun _=>h1,?_⟩
 · rw[←hV,←hD,ae];exact run_enterLoop_outer _ _ _ _ _
 · simp only[resolve,hg];simp[go_sem]
 · intro f' a1;simp[Target.leads]at a1;subst a1;exact trivial
 · simp[invoke,go_sem,eg]
 have bd:D≠b:=by omega
 have az:D+1≠b:=by omega
 refine ((ax V au) (D+1)
  (fun pre W=>I pre W∧W.heap[D+1]?=some (.loop (lr .ready none))∧W.heap[D]?=some (.deferred (some [])))
  (fun pre W=>∃c,Ix c pre W∧W.heap[D+1]?=some (.loop (lr .done (some c)))∧W.heap[D]?=some (.deferred (some [])))
  (fun s X Y row hs aj hr=>⟨hI s X Y row hs.1 aj (fun r e=>.inl (hr r e)),zDB aj hr hs.2.1 az,zDB aj hr hs.2.2 bd⟩)
  (fun s X Y row hs aj hr=>by
    obtain⟨c,i0,i1,i2⟩:=hs;exact⟨c,ak c s X Y row i0 aj (fun r e=>.inl (hr r e)),zDB aj hr i1 az,zDB aj hr i2 bd⟩)
  ?_ ⟨inv1,ay,aq⟩).mono ?_
 rotate_left
 · rintro e X ⟨⟨v,rfl⟩,(⟨xs,hS,hi,aa,ao⟩|⟨pre,bb,c,hi,aa,ao⟩)⟩
   · have h:=run_endLoop (P:=P) aa (by rw[ae];simp[rec']);rw[ae]at h;exact⟨none,_,h,ah D xs _ (Za _) hS (zBJ hI _ hi (by omega) aa rfl) ((World.putObj_heap_other (by omega)).trans ao)⟩
   have h:=run_endLoop (P:=P) aa (by rw[ae];simp[rec']);rw[ae]at h;exact⟨some c,_,h,ai D c pre _ (Za _) bb (zBJ (ak c) _ hi (by omega) aa rfl) ((World.putObj_heap_other (by omega)).trans ao)⟩
 rintro pre x W ⟨hi,aa,ao⟩ hlen ba;have a6:D+1<W.heap.size:=(Array.getElem?_eq_some_iff.1 aa).1;have hy:=run_yield (P:=P) (args:=encs x) aa (by rw[ae];exact bc x);rw[ae]at hy;refine⟨fn,_,assign,body,hy,roundIn_of_wpIn a8 (af _ x W _ ⟨_,run_beginRound aa (by rw[ae]),?_⟩)⟩;obtain⟨U,hU⟩:∃U,W.putObj (D+1) (.loop { lr .ready none with state:=.busy })=U:=⟨_,rfl⟩;have ar:U.heap[D+1]?=some (.loop { lr .ready none with state:=.busy }):=by rw[←hU];exact World.putObj_heap_same a6
 have aw:U.heap[D]?=some (.deferred (some [])):=by rw[←hU];exact (World.putObj_heap_other (by omega)).trans ao
 have ap:R.Kept ks W U:=by rw[←hU];exact fun k hk o ho=>(World.putObj_heap_other (by have:=av k hk;omega)).trans ho
 have inv2:I pre U:=by rw[←hU];exact zBJ hI _ hi (by omega) aa rfl
 have fin:∀(jump:Option Code) (X:World),KeepsFrom D U X →
  (Instr.endRound (D+1) jump).run P X=.ok (.bool jump.isNone) (X.putObj (D+1) (.loop (lr (if jump.isNone then .ready else .done) jump))) ∧
  X.heap[D+1]?=some (.loop { lr .ready none with state:=.busy }) ∧
  (X.putObj (D+1) (.loop (lr (if jump.isNone then .ready else .done) jump))).heap[D+1]?=some (.loop (lr (if jump.isNone then .ready else .done) jump)) ∧
  (X.putObj (D+1) (.loop (lr (if jump.isNone then .ready else .done) jump))).heap[D]?=some (.deferred (some [])):=by
  intro jump X hX;have r3:=hX.same (D+1) _ (by omega) ar rfl;have d3:=hX.same D _ (by omega) aw rfl;have he:=run_endRound (P:=P) jump r3;rw[ae]at he r3 ⊢;exact⟨he,r3,World.putObj_heap_same (Array.getElem?_eq_some_iff.1 r3).1,(World.putObj_heap_other (by omega)).trans d3⟩
 have goal:=ag (D+1) pre x U inv2 hlen ba;rw[←hU]at goal;refine wpIn_mono goal ?_;rw[hU];rintro e a3 X hp;cases e with
 | normal =>
   obtain⟨k3,a7,i3⟩:=hp;obtain⟨e1,e2,e3,e4⟩:=fin none X k3;exact⟨_,_,e1,.inl ⟨rfl,⟨zBJ hI _ i3 (by omega) e2 rfl,e3,e4⟩,fun k hk o ho=>(World.putObj_heap_other (by have:=av k hk;omega)).trans (a7 k hk o (ap k hk o ho))⟩⟩
 | ret =>
   obtain⟨k3,i3⟩:=hp;obtain⟨e1,e2,e3,e4⟩:=fin (some .ret) X k3;exact⟨_,_,e1,.inr ⟨rfl,.ret,zBJ (ak _) _ i3 (by omega) e2 rfl,e3,e4⟩⟩
 | exit id =>
   obtain⟨k3,i3⟩:=hp;obtain⟨e1,e2,e3,e4⟩:=fin (some (.exit id)) X k3;exact⟨_,_,e1,.inr ⟨rfl,.exit id,zBJ (ak _) _ i3 (by omega) e2 rfl,e3,e4⟩⟩
 | goto t =>
   obtain⟨k3,i3⟩:=hp;obtain⟨e1,e2,e3,e4⟩:=fin (some (.goto t)) X k3;exact⟨_,_,e1,.inr ⟨rfl,.goto t,zBJ (ak _) _ i3 (by omega) e2 rfl,e3,e4⟩⟩
 | panic ch=>exact hp.elim
 | outgrown=>exact hp.elim
theorem zC7 {W W':World} {row:Option Nat} {B b D:Nat} {t:TypeId} {v:Value} (h:Boxed W B t v) (hg:W.grownBy W' row)
 (hr:∀r,row=some r→r=b∨(D≤r∧∃o:Obj,W.heap[r]?=some o∧o.isCells=false)) (hne:B≠b):Boxed W' B t v:=by
 refine h.kept hg fun e=>?_
 rcases hr B e.symm with h1|⟨_,o,ho,hc⟩
 · exact hne h1
 rw[show W.heap[B]?=_ from h]at ho;cases ho
 cases hc
theorem zKv {W W':World} {row:Option Nat} {b D base:Nat} {e:TypeId} {size:Nat} {v:Value} {k:Nat} {xs:List Value} (h:W.ownsRow base e size v k xs) (hg:W.grownBy W' row)
 (hr:∀r,row=some r→r=b∨(D≤r∧∃o:Obj,W.heap[r]?=some o∧o.isCells=false)) (hb:b<base):W'.ownsRow base e size v k xs:=by
 refine h.kept hg ?_;rcases h.2 with ⟨rfl,_⟩|⟨g,cap,ae,rfl,aa,hh,_⟩
 · exact .inl rfl
 refine .inr fun e'=>?_
 rcases hr g (by simpa [Value.ownBlock] using e'.symm) with h1|⟨_,o,ho,hc⟩
 · omega
 rw[hh]at ho;cases ho
 cases hc
theorem zEY {n₀:Nat} {w W W':World} {row:Option Nat} {b D:Nat} (h:Below n₀ w W) (hs:n₀≤W.heap.size) (hg:W.grownBy W' row)
 (hr:∀r,row=some r→r=b∨(D≤r∧∃o:Obj,W.heap[r]?=some o∧o.isCells=false)) (h1:n₀≤b) (h2:n₀≤D):Below n₀ w W' :=
 h.grown hg hs fun k e=>by rcases hr k e with h3|⟨h3,_⟩ <;> omega
theorem zFt {W:World} {base aa:Nat} {e:TypeId} {size:Nat} {v:Value} {k:Nat} {xs:List Value} (h:W.ownsRow base e size v k xs) (hb:aa≤base):W.ownsRow aa e size v k xs:=by
 obtain⟨h1,h2⟩:=h;refine⟨h1,?_⟩;rcases h2 with h2|⟨g,cap,ae,hv,hg,r⟩
 · exact .inl h2
 exact .inr ⟨g,cap,ae,hv,by omega,r⟩
theorem R.Kept.trans {ks:List Nat} {A B C:World} (h:R.Kept ks A B) (h':R.Kept ks B C):R.Kept ks A C:=fun k hk o ho=>h' k hk o (h k hk o ho)
theorem zPB {ks:List Nat} {W:World} {B:Nat} (h:∀k∈ks,k≠B) (v:Value):R.Kept ks W (W.setCell ⟨B,0,none⟩ v):=fun k hk o ho=>(Yn _ _ _ k (fun e=>h k hk e)).trans ho
theorem R.appended {W w1:World} {D B n₀:Nat} {t e:TypeId} {size:Nat} {v v':Value} {k m:Nat} {xs ys:List Value} {tmp:Obj} {ks:List Nat}
 (hv:Boxed W B t v) (ag:t≠e) (af:W.ownsRow D e size v k xs) (ak:D≤W.heap.size) (hn:n₀≤B) (ao:B<D) (ah:∀q∈ks,q<D∧q≠B)
 (aa:w1.ownsRow D e size v' m ys) (ae:(W.alloc tmp).grownBy w1 v.ownBlock) :
 Boxed w1 B t v∧Boxed (w1.setCell ⟨B,0,none⟩ v') B t v'∧(w1.setCell ⟨B,0,none⟩ v').ownsRow D e size v' m ys∧KeepsFrom D W (w1.setCell ⟨B,0,none⟩ v')∧R.Kept ks W (w1.setCell ⟨B,0,none⟩ v')∧Below n₀ W (w1.setCell ⟨B,0,none⟩ v') ∧
  (∀B' t' u,B'≠B→B'<D→Boxed W B' t' u→Boxed (w1.setCell ⟨B,0,none⟩ v') B' t' u):=by
 obtain⟨a1,a2,_,a4,a5⟩:=hv.appended ag (zFt af (show n₀≤D by omega)) (by omega) hn (zFt aa (show n₀≤D by omega)) ae
 have low:∀q,q<D→∀o,W.heap[q]?=some o→w1.heap[q]?=some o:=fun q hq o ho=>by
  have h1:(W.alloc tmp).heap[q]?=some o:=(Q6 _ _ _ (by omega)).trans ho;refine (ae.block q (Array.getElem?_eq_some_iff.1 h1).1 fun e=>?_).trans h1;rcases af.2 with ⟨rfl,_⟩|⟨g,cap,ap,rfl,aj,_⟩
  · simp[Value.ownBlock]at e
  have:q=g:=by simpa [Value.ownBlock] using e
  omega
 refine⟨a1,a2,aa.kept (grownBy_setCell' w1 B v') (.inr (a1.not_row ag aa).symm),a4.from _,?_,a5,?_⟩
 · exact fun q hq o ho=>(zPB (ks:=ks) (fun k hk=>(ah k hk).2) v') q hq o (low q (ah q hq).1 o ho)
 exact fun B' t' u hne ai hb=>Boxed.other (show Boxed w1 B' t' u from low B' ai _ hb) hne v'
#print axioms R.range
end
section
open Go.RowKit Go.Stop
def zBU (d:Nat):UInt8:=UInt8.ofNat (if d<10 then 48+d else 55+d)
def zDZ (d:Nat):UInt8:=UInt8.ofNat (if d<10 then 48+d else 87+d)
def Fi.low:Nat→Nat→List Nat
 | 0,_=>[]
 | k+1,n=>Fi.low k (n/16)++[n%16]
def zBh (n:Nat):Nat:=if h:n<16 then 1 else zBh (n/16)+1
 termination_by n
 decreasing_by omega
def Fi.text (n:Nat):List UInt8:=(Fi.low (max 4 (zBh n)) n).map zBU
theorem zJd (n:Nat):1≤zBh n:=by rw[zBh];split <;> omega
theorem zBV:∀(k n:Nat),n<16 ^ (k+1)→zBh n≤k+1
 | 0,n,h=>by rw[zBh,dif_pos (by simpa using h)];exact Nat.le_refl _
 | k+1,n,h=>by
   rw[zBh];split
   · omega
   have:=zBV k (n/16) (by rw[Xb]at h;omega);omega
theorem zGB (n:Nat):n<16 ^ zBh n:=by
 rw[zBh];split
 · simpa
 · have:=zGB (n/16);rw[Xb];omega
 termination_by n
 decreasing_by omega
theorem zOI (n k:Nat) (h:16 ^ k≤n):k+1≤zBh n:=by
 rcases ZY (zBh n) (k+1) with hl|hl
 · have h1:=zGB n;have h2:16 ^ zBh n≤16 ^ k:=Xh (by decide) (by omega);omega
 exact hl
theorem zD1:∀k n,(Fi.low k n).length=k
 | 0,_=>rfl
 | k+1,n=>by simp[Fi.low,zD1 k]
theorem zCq:∀(k n:Nat),Fi.low (k+1) n=(n/16 ^ k%16)::Fi.low k n
 | 0,n=>by simp[Fi.low]
 | k+1,n=>by
   rw[Fi.low,zCq k (n/16),Fi.low,Qj,Xb,Je 16];rfl
theorem zKw:∀(k n j:Nat),j<k→(Fi.low k n)[j]?=some (n/16 ^ (k-1-j)%16)
 | 0,_,_,h=>by omega
 | k+1,n,0,_=>by rw[zCq];simp
 | k+1,n,j+1,h=>by
   rw[zCq,Y3,zKw k n j (by omega),show k-1-j=k+1-1-(j+1) by omega]
theorem zKx (n:Nat):∀(j k:Nat),n<16 ^ k→Fi.low (j+k) n=List.replicate j 0++Fi.low k n
 | 0,k,_=>by simp
 | j+1,k,h=>by
   have hk:n<16 ^ (j+k):=Zg h (Xh (by decide) (by omega));rw[show j+1+k=(j+k)+1 by omega,zCq,Kd hk,zKx n j k h];rfl
theorem zE0:∀(k n:Nat),∀d∈Fi.low k n,d<16
 | 0,_,d,h=>by simp[Fi.low]at h
 | k+1,n,d,h=>by
   rw[Fi.low,YS]at h;rcases h with h|h
   · exact zE0 k _ d h
   simp at h;omega
theorem zPC (n:Nat):Fi.text n=List.replicate (4-zBh n) 48++(Fi.low (zBh n) n).map zBU:=by
 unfold Fi.text;rw[show max 4 (zBh n)=(4-zBh n)+zBh n by omega,zKx n _ _ (zGB n),ZK,JX];rfl
theorem Fi.text_len (n:Nat):(Fi.text n).length=max 4 (zBh n):=by simp[Fi.text,zD1]
theorem zAG (n:Nat) (h:n≤1114111):(Fi.text n).length≤6:=by
 rw[Fi.text_len]
 have:=zBV 5 n (by
  have:(16:Nat) ^ 6=16777216:=by decide
  rw[this];omega)
 omega
def zAK (b:UInt8):Int:=if 48≤b.toNat∧b.toNat≤57 then (b.toNat:Int)-48 else if 65≤b.toNat∧b.toNat≤70 then (b.toNat:Int)-55 else -1
theorem zJI:∀i:Fin 256,Lib.indexByte [48,49,50,51,52,53,54,55,56,57,65,66,67,68,69,70] (UInt8.ofNat i.val)=zAK (UInt8.ofNat i.val):=by decide +kernel
theorem zCz (b:UInt8):Lib.indexByte [48,49,50,51,52,53,54,55,56,57,65,66,67,68,69,70] b=zAK b:=by
 have h:=zJI ⟨b.toNat,b.toNat_lt⟩;simpa using h
theorem zJe:∀d:Fin 16,zAK (zBU d.val)=d.val:=by decide
theorem zG2 (b:UInt8):zAK b<16 ∧ -1≤zAK b:=by unfold zAK;split <;> (try split) <;> omega
theorem zNO (b:UInt8) (h:0≤zAK b):zBU (zAK b).toNat=b:=by
 have h2:=b.toNat_lt;apply UInt8.toNat_inj.1
 unfold zBU;unfold zAK at h ⊢;split at h
 · rename_i hc;rw[Zo hc,Zo (by omega),XF,Xy (by omega)];omega
 rename_i hc;rw[Zl hc];split at h
 · rename_i hd;rw[Zo hd,Zl (by omega),XF,Xy (by omega)];omega
 omega
def Fi.val (l:List UInt8):Int:=l.foldl (fun n b=>n*16+zAK b) 0
def Fi.good (l:List UInt8):Bool:=l.all fun b=>decide (0≤zAK b)
def zDg (l:List UInt8):Bool:=decide (4≤l.length)&&(decide (l.length≤6)&&!(decide (4<l.length)&&l.head? == some 48))
def zAH (l:List UInt8):Option Int:=if zDg l&&(Fi.good l&&decide (Fi.val l≤1114111)) then some (Fi.val l) else none
theorem zEs (l:List UInt8) (b:UInt8):Fi.val (l++[b])=Fi.val l*16+zAK b:=by simp[Fi.val,YL]
theorem zCG (l:List UInt8) (b:UInt8):Fi.good (l++[b])=(Fi.good l&&decide (0≤zAK b)):=by simp[Fi.good,Km]
theorem zKy:∀(k n:Nat),Fi.val ((Fi.low k n).map zBU)=((n%16 ^ k:Nat):Int)
 | 0,n=>by simp[Fi.low,Fi.val,Nat.mod_one]
 | k+1,n=>by
   rw[Fi.low,ZK,Z1,YB,zEs,zKy k,zJe ⟨n%16,by omega⟩];have h1:n%16 ^ (k+1)=n%16+16*(n/16%16 ^ k):=by rw[Xb,Je,Nat.mod_mul]
   rw[h1];simp only[Int.natCast_add,Kn];omega
theorem zNP (k n:Nat):Fi.good ((Fi.low k n).map zBU)=true:=by
 simp only[Fi.good,Yi,Ji];rintro b ⟨d,hd,rfl⟩;rw[zJe ⟨d,zE0 _ _ d hd⟩];simp
theorem zNQ:∀(n:Nat) (l:List UInt8),l.length=n→Fi.good l=true→0≤Fi.val l∧Fi.val l<((16 ^ l.length:Nat):Int)∧(Fi.low l.length (Fi.val l).toNat).map zBU=l:=by
 intro n
 induction n with
 | zero =>
   intro l hl _;obtain rfl:l=[]:=List.length_eq_zero_iff.1 hl;simp[Fi.val,Fi.low]
 | succ n ih =>
   intro l hl h;rcases YY l with rfl|⟨m,b,hmb⟩
   · simp at hl
   rw[YZ]at hmb;subst hmb;rw[Zd,YA]at hl;rw[zCG,Zy]at h;obtain⟨h1,h2⟩:=h;have h2:=YF h2;obtain⟨i0,i1,i2⟩:=ih m (by omega) h1;have h3:=(zG2 b).1;rw[zEs,Zd,YA];refine⟨by omega,?_,?_⟩
   · rw[Xb,Kn];omega
   rw[Fi.low,ZK,Xo,show (Fi.val m*16+zAK b).toNat/16=(Fi.val m).toNat by omega,i2,
    show (Fi.val m*16+zAK b).toNat%16=(zAK b).toNat by omega,zNO b h2]
theorem zPD (l:List UInt8) (h:Fi.good l=true):0≤Fi.val l∧Fi.val l<((16 ^ l.length:Nat):Int)∧(Fi.low l.length (Fi.val l).toNat).map zBU=l:=zNQ _ l rfl h
theorem zG3 (c:Nat) (h:c≤1114111):zAH (Fi.text c)=some (c:Int):=by
 have hv:Fi.val (Fi.text c)=c:=by
  unfold Fi.text;rw[zKy];have h1:=zGB c;have h2:16 ^ zBh c≤16 ^ max 4 (zBh c):=Xh (by decide) (by omega);rw[Xy (by omega)]
 have hg:Fi.good (Fi.text c)=true:=zNP _ _;have hl:=zAG c h;have ag:=Fi.text_len c
 have aa:zDg (Fi.text c)=true:=by
  unfold zDg;rw[Zr (by omega),Zr hl,YJ,YJ];rcases ZY 4 (Fi.text c).length with h4|h4
  rotate_left
  · rw[Zu (by omega)];rfl
  rw[Zr h4,YJ];have af:max 4 (zBh c)=zBh c:=by omega
  obtain⟨k,hk⟩:∃k,zBh c=k+1:=⟨zBh c-1,by have:=zJd c;omega⟩;unfold Fi.text;rw[af,hk,zCq,Z1];have h1:=zGB c;rw[hk,Xb]at h1;have h2:c/16 ^ k<16:=Nat.div_lt_of_lt_mul (by omega)
  have h3:16 ^ k≤c:=by
   rcases ZY c (16 ^ k) with ae|hge
   · have ah:1≤k:=by omega
     have:=zBV (k-1) c (by rw[show k-1+1=k by omega];exact ae);omega
   exact hge
  have h4:0<c/16 ^ k:=Nat.div_pos h3 (JH (by decide));rw[Xy h2];have key:∀d:Fin 16,0<d.val→zBU d.val≠48:=by decide
  have:=key ⟨c/16 ^ k,h2⟩ h4;simp[this]
 unfold zAH;rw[aa,hg,hv,Zr (by omega)];rfl
def Fi.Laid (w:World):Prop:=(∃m:Int,w.cell? ⟨1,0,none⟩=some (.int .i64 m))∧w.cell? ⟨9,15,none⟩=some (.int .u8 4)
theorem zNR (w:World):Calls prog 253 #[.int .i64 16] w fun e w'=>e=.returned (.bool true)∧w'=w:=by
 have h:bits .and .i64 16 15=0:=by decide +kernel
 go_enter func253,ntmps253;go_wp2;go_ret;exact⟨by simp[h],rfl⟩
theorem zNS (w:World) (hL:Fi.Laid w):Calls prog 270 #[.int .u64 16] w fun e w'=>e=.returned (.int .i64 4)∧w'=w:=by
 have hc:=hL.2;have h1:IntKind.u64.wrap (-16)=18446744073709551600:=by decide +kernel
 have h2:bits .and .u64 16 18446744073709551600=16:=by decide +kernel
 clear hL;go_enter func270,ntmps270;go_wp2_with fail;go_ret;exact⟨rfl,rfl⟩
theorem zQM (w:World) (hL:Fi.Laid w):Calls prog 254 #[.int .u64 16] w fun e w'=>e=.returned (.int .i64 4)∧w'=w:=by
 go_enter func254,ntmps254;go_wp2_with (refine (zNS _ (by assumption)).mono ?_;rintro e w1 ⟨rfl,rfl⟩);go_ret;exact⟨rfl,rfl⟩
def zMy:ByteArray:=⟨#[48,49,50,51,52,53,54,55,56,57,97,98,99,100,101,102,103,104,105,106,107,108,109,110,111,112,113,114,115,116,117,118,119,120,121,122]⟩
theorem zQN:∀d:Fin 16,zMy.data.toList.getD d.val 0=zDZ d.val:=by decide
theorem zJf:zMy.size=36:=rfl
theorem zPE (W:World) (d:Nat) (h:d<16):(Instr.index 9 (.string ⟨#[48,49,50,51,52,53,54,55,56,57,97,98,99,100,101,102,103,104,105,106,107,108,109,110,111,112,113,114,115,116,117,118,119,120,121,122]⟩) (.int .u64 (d:Int))).run prog W=.ok (.int .u8 ((zDZ d).toNat:Int)) W:=by
 show (Instr.index 9 (.string zMy) (.int .u64 (d:Int))).run prog W=_;rw[run_index_string W 9 zMy .u64 _ underlying9,dif_pos ⟨by omega,by rw[zJf];omega⟩];have e:((d:Int)).toNat=d:=by omega
 simp only[e];rw[Lib.getD_at zMy d (by rw[zJf];omega),zQN ⟨d,h⟩]
def zMz (c k j:Nat):Int:=if 65-k≤j then ((zDZ (c/16 ^ (64-j)%16)).toNat:Int) else 0
def Fi.Arr (W:World) (B c k:Nat):Prop:=(∀j,j<65→W.cell? ⟨B,j,none⟩=some (.int .u8 (zMz c k j))∧W.frozen? ⟨B,j,none⟩=false)
theorem Fi.Arr.put {W:World} {B c k:Nat} (h:Fi.Arr W B c k) (hk:k<65) (v:Nat) (hv:(zDZ (c/16 ^ k%16)).toNat=v):Fi.Arr (W.setCell ⟨B,64-k,none⟩ (.int .u8 (v:Int))) B c (k+1):=by
 intro j hj;refine⟨?_,by rw[World.frozen?_setCell];exact (h j hj).2⟩;rcases Nat.decEq j (64-k) with hne|rfl
 · rw[World.cell?_setCell_other _ _ _ _ (by simp;try omega),(h j hj).1];unfold zMz
   by_cases h1:65-k≤j
   · rw[Zo h1,Zo (by omega)]
   rw[Zl h1,Zl (by omega)]
 rw[World.cell?_setCell_same _ _ _ (h _ hj).1];unfold zMz;rw[Zo (by omega),show 64-(64-k)=k by omega,hv]
theorem zPF (j:Fin 65):(Tryz.zeroCells324)[j.val]?=some (.int .u8 0):=by
 have e:Tryz.zeroCells324=Array.replicate 65 (.int .u8 0):=by kernel_rfl
 rw[e];simp[j.isLt]
theorem Fi.Laid.alloc {w:World} (h:Fi.Laid w) (o:Obj):Fi.Laid (w.alloc o):=by
 obtain⟨⟨m,h1⟩,h2⟩:=h;exact⟨⟨m,by rw[JI _ _ _ (YN w _ h1)];exact h1⟩,by rw[JI _ _ _ (YN w _ h2)];exact h2⟩
theorem zNT (c:Nat) (hc:c<16777216) (w:World) (hL:Fi.Laid w) :
 Calls prog 227 #[.slice none 0 0,.int .u64 c,.int .i64 16,.bool false,.bool false] w fun e w'=>e=.returned (.tuple #[.slice none 0 0,.string ⟨((Fi.low (zBh c) c).map zDZ).toArray⟩])∧Below w.heap.size w w':=by
 obtain⟨W1,aa⟩:∃W1,w.alloc (Obj.cells Tryz.zeroCells324 324)=W1:=⟨_,rfl⟩;have L1:Fi.Laid W1:=by rw[←aa];exact hL.alloc _
 have B1:Below w.heap.size w W1:=by rw[←aa];exact (Zc _ _).alloc (Za _) _
 have A1:Fi.Arr W1 w.heap.size c 0:=by
  rw[←aa];intro j hj;refine⟨?_,World.frozen?_alloc_new _ _ _ _⟩;rw[Jt,zPF ⟨j,hj⟩];unfold zMz;rw[Zl (by omega)]
 have S1:w.heap.size<W1.heap.size:=by rw[←aa];simp
 obtain⟨B,hB⟩:∃B,w.heap.size=B:=⟨_,rfl⟩;have aq:=hy' hB;rw[hB]at B1 A1 S1;have HW:=hy' aa;have HB:=hy' B1;have HA:=hy' A1;have hq:1≤zBh c∧zBh c≤6:=⟨zJd c,zBV 5 c (by rw[show (16:Nat) ^ (5+1)=16777216 from by decide];exact hc)⟩;clear aa B1 A1 hL;go_enter func227,ntmps227;go_upto_region 7 with (fail)
 rw[HW.o];go_wp2_with (fail);refine (zNR _).mono ?_;rintro e w1 ⟨rfl,rfl⟩;go_wp2_with (fail);refine (zQM _ L1).mono ?_;rintro e w2 ⟨rfl,rfl⟩;go_wp2_with (fail);go_loopw [1,13] (fun vu vi wr=>∃k x:Nat,vu=.int .u64 x∧vi=.int .i64 (65-(k:Int))∧k+1≤zBh c∧x=c/16 ^ k∧Fi.Arr wr B c k∧Below B w wr∧B<wr.heap.size) (fun vu _ _=>(intOf vu).toNat)
 case atStart=>exact⟨0,c,rfl,rfl,by omega,by simp,HA.o,HB.o,S1⟩
 obtain⟨k,x,rfl,rfl,hk,hx,hA,ah,hS⟩:=hrel;obtain⟨w3,rfl⟩:∃w3:World,w3=wr:=⟨_,rfl⟩;have hd:x%16<16:=by omega
 have a7:x<16777216:=by
  have:=Ko c (16 ^ k);omega
 have ap:(0:Int)≤65-(k:Int)-1:=by omega
 have ao:(65-(k:Int)-1)<65:=by omega
 have hz:(65-(k:Int)-1).toNat=64-k:=by omega
 obtain⟨d,hdd⟩:∃d,x%16=d:=⟨_,rfl⟩;rw[hdd]at hd;have HK:=hy' hk;have HX:=hy' hx;have ai:=hy' ah;have HD:=hy' hdd;obtain⟨v,hv⟩:∃v,(zDZ d).toNat=v:=⟨_,rfl⟩;have hA2:Fi.Arr (w3.setCell ⟨B,64-k,none⟩ (.int .u8 (v:Int))) B c (k+1):=hA.put (by omega) v (by rw[←hx,hdd,hv]);have hcell:=(hA (64-k) (by omega)).1;have aj:=(hA (64-k) (by omega)).2;have ar:=hy' hA2;have ay:∀W,(Instr.index 9 (.string ⟨#[48,49,50,51,52,53,54,55,56,57,97,98,99,100,101,102,103,104,105,106,107,108,109,110,111,112,113,114,115,116,117,118,119,120,121,122]⟩) (.int .u64 (d:Int))).run prog W=.ok (.int .u8 (v:Int)) W:=fun W=>by rw[←hv];exact zPE W d hd
 by_cases hge:(x:Int)≥16
 · have a6:bits .and .u64 (x:Int) 15=(d:Int):=by
    rw[show (15:Int)=((15:Nat):Int) from rfl,u64_and_nat x 15 (by omega) (by omega),show 15=2 ^ 4-1 from rfl,Yl,←hdd]
   have az:((x:Int)).fdiv (2 ^ min (Int.toNat 4) IntKind.u64.bits)=((x/16:Nat):Int):=by
    rw[show (2:Int) ^ min (Int.toNat 4) IntKind.u64.bits=16 from rfl,Int.fdiv_eq_ediv_of_nonneg _ (by decide)];omega
   have ae:k+2≤zBh c:=by
    have h1:16 ^ (k+1)≤c:=by
     have au:16≤c/16 ^ k:=by rw[←hx];omega
     have:=(Nat.le_div_iff_mul_le (JH (by decide):0<16 ^ k)).1 au;rw[Xb];omega
    have:=zOI c (k+1) h1;omega
   have ak:x/16=c/16 ^ (k+1):=by rw[hx,Qj,←Xb]
   have ax:=hy' ak;have aw:=hy' ae;clear hA hA2 hx ah hdd hv hk ak ae;go_wp2_with (fail);exact⟨⟨k+1,x/16,by go_num,by go_num,aw.o,ax.o,ar.o,ai.o.setCell (Nat.le_refl _) _,by simpa [World.setCell] using hS⟩,by simp[intOf];omega⟩
 have av:d=x:=by omega
 subst av
 have ae:zBh c=k+1:=by
  have:zBh c≤k+1:=zBV k c (by
   have h1:c/16 ^ k<16:=by rw[←hx];omega
   have:=(Nat.div_lt_iff_lt_mul (JH (by decide):0<16 ^ k)).1 h1;rw[Xb];omega)
  omega
 have ag:prog.arrayLen 324=65:=by kernel_rfl
 have a1:∀W,(Instr.sliceAt 324 (.pointer (some ⟨B,0,none⟩)) (some (.int .i64 (65-(k:Int)-1))) none none).run prog W=.ok (.slice (some ⟨B,64-k,none⟩) (k+1) (k+1)) W:=fun W=>by
  rw[run_sliceAt_array_l W 324 ⟨B,0,none⟩ (by kernel_rfl) .i64 (65-(k:Int)-1) (by omega) (by rw[ag];omega),ag];go_simp;omega
 have hcv:(convert 98 9 (.slice (some ⟨B,64-k,none⟩) (k+1) (k+1))).run prog (w3.setCell ⟨B,64-k,none⟩ (.int .u8 (v:Int)))=.ok (.string ⟨((Fi.low (zBh c) c).map zDZ).toArray⟩) (w3.setCell ⟨B,64-k,none⟩ (.int .u8 (v:Int))):=by
  have hlen:((Fi.low (zBh c) c).map zDZ).length=k+1:=by rw[Ze,zD1,ae]
  have h:=run_convert_bytes_back (P:=prog) (w3.setCell ⟨B,64-k,none⟩ (.int .u8 (v:Int))) 98 9 5 ⟨B,64-k,none⟩ (k+1) ((Fi.low (zBh c) c).map zDZ) underlying98 underlying5 underlying9 (fun j hj=>by
   rw[hlen]at hj;rw[Lib.add_plain,(hA2 (64-k+j) (by omega)).1];unfold zMz;rw[Zo (by omega),show 64-(64-k+j)=k-j by omega];congr 2
   have af:(Fi.low (zBh c) c)[j]?=some (c/16 ^ (k-j)%16):=by
    rw[ae,zKw (k+1) c j (by omega)];congr 3
   rw[List.getElem_map,(List.getElem?_eq_some_iff.1 af).2])
  rw[hlen]at h;exact h
 clear ag hA hA2 hx ah hdd hv hk ae;go_wp2_with (fail);go_ret2;exact⟨rfl,by first|exact ai.o.setCell (Za _) _|(rw[aq.o];exact ai.o.setCell (Za _) _)⟩
theorem zLb (c:Nat) (hc:c<16777216) (w:World) (hL:Fi.Laid w) :
 Calls prog 163 #[.int .i64 c,.int .i64 16] w fun e w'=>e=.returned (.string ⟨((Fi.low (zBh c) c).map zDZ).toArray⟩)∧Below w.heap.size w w':=by
 have inner:∀w:World,Fi.Laid w→Calls prog 195 #[.int .i64 c,.int .i64 16] w fun e w'=>e=.returned (.string ⟨((Fi.low (zBh c) c).map zDZ).toArray⟩)∧Below w.heap.size w w':=by
  intro w hL;have aa:¬(c:Int)<0:=by omega
  go_enter func195,ntmps195;go_wp2_with (refine (zNT c hc _ (by assumption)).mono ?_;rintro e w1 ⟨rfl,hb⟩);go_ret;exact⟨rfl,hb⟩
 go_enter func163,ntmps163;go_wp2_with (refine (inner _ (by assumption)).mono ?_;rintro e w1 ⟨rfl,hb⟩);go_ret;exact⟨rfl,hb⟩
end
end Go.Proofs.YtddbccflcekdpaaGreatDoor
