/- The layer nfc: Join, Chars, Of, Is of whole texts, by walking their texts. -/
import Derived.Test.YtjakbblocbicjaaGreatDoorNcPut
import Derived.Test.YtjakbblocbicjaaGreatDoorNfLaw
set_option maxRecDepth 100000
set_option maxHeartbeats 4000000
set_option linter.unusedVariables false
set_option linter.unusedSimpArgs false
namespace Go.Proofs.YtjakbblocbicjaaGreatDoor
open Go.Proofs.Tryz
open Go.RowKit
theorem zPR {T:List Rw.Row} {S:List Int} (ok:Ud.Ok T S) {s:Nc.St} {c:Int} (hs:∀x∈s.out,C.isC x=true) (hc:C.isC c=true):∀x∈(Nc.put (Md.cls T) (Nc.j T S) s c).out,C.isC x=true:=by
 unfold Nc.put;cases h:Nc.hit (Md.cls T) (Nc.j T S) s c with
 | none =>
   intro x hx;simp only[zAk]at hx;rcases List.mem_append.1 hx with h|h
   · exact hs x h
   rw[Zt]at h;rw[h];exact hc
 | some p =>
   obtain⟨b,hb,hj,_⟩:=zBE h;intro x hx;simp only[zCO hb]at hx;rcases List.mem_or_eq_of_mem_set hx with h|h
   · exact hs x h
   rw[h];exact (zIW ok hj).2.2.2
theorem zFu {T:List Rw.Row} {S:List Int} (ok:Ud.Ok T S):∀(l:List Int) (s:Nc.St),(∀x∈s.out,C.isC x=true)→(∀c∈l,C.isC c=true)→∀x∈(Nc.run (Md.cls T) (Nc.j T S) s l).out,C.isC x=true
 | [],s,hs,_=>hs
 | c::l,s,hs,hl=>zFu ok l (Nc.put (Md.cls T) (Nc.j T S) s c) (zPR ok hs (hl c Zu)) fun x hx=>hl x (Zy _ hx)
theorem zDr {T:List Rw.Row} {S:List Int} (ok:Ud.Ok T S) {l:List Int} (h:∀c∈l,C.isC c=true):∀x∈zBw T S l,C.isC x=true :=
 zFu ok l Nc.s0 (fun x hx=>by cases hx) h
theorem Nc.run_snoc {f:Int→Int} {j:Int→Int→Option Int} {l:List Int} {k:Nat} {x:Int} (hx:l[k]?=some x):Nc.run f j Nc.s0 (l.take (k+1))=Nc.put f j (Nc.run f j Nc.s0 (l.take k)) x:=by
 rw[ZA,hx];exact Nc.run_app Nc.s0 (l.take k) [x]
theorem zOK {s:Nc.St} {x:Int} (h:s.b=some x):x∈s.out:=Zj (zD3 h)
theorem zGb (v:Value) (T:List Rw.Row) (S:List Int) (A:Option Addr) (n c:Nat) (l:List Int) (w:World) (ok:Ud.Ok T S) (h:Ud.Is w v T S) (hl:l.length=n) (hn:n≤100000) (ar:∀x∈l,C.isC x=true) (hA:Sl w w.heap.size A (l.map (Value.int .i32))) :
 Calls prog 44 #[v,.slice A n c] w (Md.RetOwn (zBw T S l) w):=by
 obtain⟨pb,rfl,hpb⟩:=h.form;have aw:Hy (∀(s:Nc.St) (x:Int) (W:World),Below w.heap.size w W→Nc.In W w.heap.size (.pointer (some ⟨pb,0,none⟩)) (Md.cls T) s→C.isC x=true→s.out.length≤100000→(∀y∈s.out,C.isC y=true)→Calls prog 66 #[.pointer (some ⟨w.heap.size,0,none⟩),.int .i32 x] W fun e w'=>e=.returned (.tuple #[])∧Nc.In w' w.heap.size (.pointer (some ⟨pb,0,none⟩)) (Md.cls T) (Nc.put (Md.cls T) (Nc.j T S) s x)∧Below w.heap.size W w'):=hy' fun s x W hW hI hx hs hsc=>Nc.put_any w.heap.size _ T S s x W ok (h.below hW) hI (Nf.isC_i32 hx).1 (Nf.isC_i32 hx).2 hs (fun y hy=>Nf.isC_i32 (hsc y (zOK hy)))
 have ax:=hy' (fun k=>zFu ok (l.take k) Nc.s0 (fun x hx=>by cases hx) (fun c hc=>ar c (Z8 hc)));obtain⟨f,hf⟩:∃f,Md.cls T=f:=⟨_,rfl⟩;obtain⟨j,hj⟩:∃j,Nc.j T S=j:=⟨_,rfl⟩;have av:zBw T S l=(Nc.run f j Nc.s0 l).out:=by rw[←hf,←hj];rfl
 rw[av];rw[hf,hj]at aw;rw[hf,hj]at ax;obtain⟨wa,ai⟩:∃wa,w.alloc (.cells #[.pointer (some ⟨pb,0,none⟩),.slice none 0 0,.int .i64 (-1),.int .i64 (-1)] 110)=wa:=⟨_,rfl⟩;have az:Below w.heap.size w wa:=by rw[←ai];exact (Zc _ _).alloc (Za _) _
 have ae:Nc.In wa w.heap.size (.pointer (some ⟨pb,0,none⟩)) f Nc.s0:=by
  refine⟨none,0,?_,ZE _ _ _ _⟩;rw[←ai];exact Rw.At.new w 110 [.pointer (some ⟨pb,0,none⟩),.slice none 0 0,.int .i64 (-1),.int .i64 (-1)]
 have a8:=hy' ai;have bb:=hy' az;have ba:=hy' ae;have HL:=hy' hl;have bc:=hy' ar;have HA:=hy' hA;clear ai az ae hl ar hA h ok hf hj av hpb;go_enter func44,ntmps44;go_upto_region 2 with (fail)
 rw[a8.o];go_wp2_with fail;go_loopw [7,13] (fun _ i wr=>∃(k:Nat),k≤n∧i=.int .i64 k∧Nc.In wr w.heap.size (.pointer (some ⟨pb,0,none⟩)) f (Nc.run f j Nc.s0 (l.take k))∧Below w.heap.size w wr) (fun _ i _=>n-(intOf i).toNat)
 case atStart=>exact⟨0,ZF _,rfl,ba.o,bb.o⟩
 obtain⟨k,hk,rfl,ae,aa⟩:=hrel
 by_cases hlt:k<n
 · obtain⟨x,hx⟩:∃x,l[k]?=some x:=⟨_,Zb (by rw[HL.o];exact hlt)⟩;have au:=bc.o x (Zj hx);obtain⟨ab,ao,hA2,bh,a1⟩:=HA.o.below aa aa.size (by rw[Ze,HL.o];omega);have hc:=a1 k (by rw[Ze,HL.o];exact hlt);rw[Zo,hx,Zz]at hc;have ag:=Nc.run_snoc (f:=f) (j:=j) hx;have hlen:=(Nc.run_len (f:=f) (j:=j) (l.take k) Nc.s0).2.1;rw[Zr,HL.o]at hlen;have bg:Nc.s0.out.length=0:=rfl;have bf:=hy' (aw.o _ x wr aa ae au (by omega) (ax.o k));have ak:=hy' ag;have ap:=hy' aa;have kI:(k:Int)<n:=by omega
   have k0:(0:Int)≤k:=by omega
   subst hA2;clear hx au a1 ag hlen ae aa bg;go_wp2_with fail;refine bf.o.mono ?_;rintro e w1 ⟨rfl,ah,ay⟩;have aq:=hy' ah;have a6:=hy' (ap.o.trans ay);clear ah ay;go_wp2_with fail;exact⟨⟨k+1,by omega,by first|rfl|go_num,by rw[ak.o];exact aq.o,a6.o⟩,by simp[intOf];omega⟩
 obtain rfl:k=n:=by omega
 rw[Zi (by rw[HL.o];exact Za _)]at ae;obtain⟨s,hs⟩:∃s,Nc.run f j Nc.s0 l=s:=⟨_,rfl⟩;rw[hs]at ae;have a7:=hy' hs;obtain⟨A4,c4,aj,af⟩:=ae;obtain⟨sn,ag⟩:∃q,s.out.length=q:=⟨_,rfl⟩;rw[ag]at aj af;have kI:¬(k:Int)<k:=by omega
 have z1:=aj.cell 1 rfl;have zl:=aj.lt;have HO:=hy' (zAR af (ZW _));have HB:=hy' aa;have ak:=hy' ag;clear aj af aa hs ag;go_wp2_with fail;go_ret;unfold Md.RetOwn;rw[a7.o,ak.o];exact⟨_,_,rfl,HO.o,HB.o⟩
theorem Nc.Chars_any (v:Value) (T:List Rw.Row) (S:List Int) (A:Option Addr) (n c:Nat) (l:List Int) (w:World) (ok:Ud.Ok T S) (h:Ud.Is w v T S) (hl:l.length=n) (hn:n≤3000) (ai:∀x∈l,C.isC x=true) (hA:Sl w w.heap.size A (l.map (Value.int .i32))) :
 Calls prog 43 #[v,.slice A n c] w (Md.RetOwn (Nc.chars T S l) w):=by
 have ae:=Nf.Chars_any v T S A n c l w ok h hl hn (fun x hx=>Nf.isC_i32 (ai x hx)) hA Tx.sym;have hlen:=Nf.chars_le ok l;obtain⟨Z,hZ⟩:∃Z,Nf.chars T l=Z:=⟨_,rfl⟩;have ak:∀c∈Z,C.isC c=true:=by rw[←hZ];exact Nf.chars_isC ok ai
 obtain⟨zn,af⟩:∃q,Z.length=q:=⟨_,rfl⟩;rw[hZ,af]at hlen
 have HJ:Hy (∀A' c' W,Below w.heap.size w W→Sl W W.heap.size A' (Z.map (Value.int .i32))→Calls prog 44 #[v,.slice A' zn c'] W (Md.RetOwn (Nc.chars T S l) W)):=hy' fun A' c' W hW ap=>by
  have:=zGb v T S A' zn c' Z W ok (h.below hW) af (by omega) ak ap;rw[←hZ]at this;exact this
 unfold Md.RetOwn at ae;rw[hZ,af]at ae;obtain⟨R,hR⟩:∃R,Nc.chars T S l=R:=⟨_,rfl⟩;rw[hR]at HJ ⊢;obtain⟨pb,rfl,_⟩:=h.form;have HC:=hy' ae;clear ae hlen hZ ak af hR h ok hl ai hA;go_enter func43,ntmps43;go_wp2_with fail;refine HC.o.mono ?_;rintro e w1 ⟨A1,c1,rfl,aa,ah⟩;have ar:=hy' (HJ.o A1 c1 w1 ah (Sl.of_own aa));have ag:=hy' ah;clear aa ah;go_wp2_with fail;refine ar.o.mono ?_;unfold Md.RetOwn;rintro e w2 ⟨A2,c2,rfl,aa,aj⟩;have aq:=hy' (zAR aa ag.o.size);have ao:=hy' (ag.o.trans (aj.mono ag.o.size));clear aa aj;go_wp2_with fail;go_ret;exact⟨_,_,rfl,aq.o,ao.o⟩
def Nc.tl (T:List Rw.Row) (S:List Int) (cs:List Int) (r:List UInt8):List Int:=zBw T S (Nf.tl T cs r)
theorem Nc.of_any (v:Value) (T:List Rw.Row) (S:List Int) (s:ByteArray) (w:World) (ok:Ud.Ok T S) (h:Ud.Is w v T S) (hs:s.size≤1000000000000) (hH:Heads w) (cs:List Int) (r:List UInt8) (hd:zH1 s.data.toList cs r) (hcs:cs.length≤3000) :
 Calls prog 36 #[v,.string s] w fun e w'=>e=.returned (.tuple #[.string (zAv (Nc.tl T S cs r)),.int .i64 (Nf.tn T cs r)])∧Below w.heap.size w w':=by
 have aj:=Nf.of_any v T S s w ok h hs hH cs r hd hcs
 have aa:∀c∈Nf.tl T cs r,C.isC c=true:=by
  unfold Nf.tl;split
  · exact Nf.chars_isC ok hd.2.1
  simp
 have hlen:(Nf.tl T cs r).length≤96000:=by
  unfold Nf.tl;split
  · have:=Nf.chars_le ok cs;omega
  simp
 have aq:Nf.tn T cs r=0∨(Nf.tn T cs r≠0∧Nf.tl T cs r=[]):=by
  unfold Nf.tn Nf.tl
  by_cases h1:r=[]
  · by_cases h2:(Nf.fl T cs).length≤1024
    · left;rw[Zm h1,Zm h2]
    right;rw[Zm h1,Zk h2,Zk (fun g=>h2 g.2)];exact⟨by decide,rfl⟩
  right;rw[Zk h1,Zk (fun g=>h1 g.1)];exact⟨by decide,rfl⟩
 unfold Nc.tl;obtain⟨z,hz⟩:∃z,Nf.tl T cs r=z:=⟨_,rfl⟩;obtain⟨e,he⟩:∃e,Nf.tn T cs r=e:=⟨_,rfl⟩;rw[hz,he]at aj aq;rw[hz]at aa hlen ⊢;rw[he];obtain⟨zn,af⟩:∃q,z.length=q:=⟨_,rfl⟩;have ai:=zDr ok (S:=S) aa;have ar:(zBw T S z).length≤z.length:=(zDW _).1;obtain⟨R,hR⟩:∃R,zBw T S z=R:=⟨_,rfl⟩;obtain⟨rn,ak⟩:∃q,R.length=q:=⟨_,rfl⟩;rw[hR]at ai ar;rw[af]at hlen;rw[ak,af]at ar
 have a8:Hy (∀W,Below w.heap.size w W→Calls prog 61 #[.string (zAv z)] W fun e w'=>∃A' c',e=.returned (.tuple #[.slice A' zn c',.int .i64 0])∧Sl w' w'.heap.size A' (z.map (Value.int .i32))∧Below W.heap.size W w'):=hy' fun W hW=>by
  refine (zHw (zAv z) W (by have:=zEr aa;omega) (hH.next hW) z [] (zCR aa)).mono ?_;rintro e w' ⟨A',c',rfl,ho,hb⟩;rw[show zGs z []=z from rfl,show zOC []=0 from rfl]at *;rw[af]at ho ⊢;exact⟨A',c',rfl,Sl.of_own ho,hb⟩
 have HJ:Hy (∀A' c' W,Below w.heap.size w W→Sl W W.heap.size A' (z.map (Value.int .i32))→Calls prog 44 #[v,.slice A' zn c'] W fun e w'=>∃A' c',e=.returned (.slice A' rn c')∧Sl w' w'.heap.size A' (R.map (Value.int .i32))∧Below W.heap.size W w'):=hy' fun A' c' W hW ao=>by
  refine (zGb v T S A' zn c' z W ok (h.below hW) af (by omega) aa ao).mono ?_;rintro e w' ⟨A',c',rfl,ho,hb⟩;rw[hR,ak]at ho ⊢;exact⟨A',c',rfl,Sl.of_own ho,hb⟩
 have a6:Hy (∀A' c' W,Below w.heap.size w W→Sl W W.heap.size A' (R.map (Value.int .i32))→Calls prog 62 #[.slice A' rn c'] W fun e w'=>e=.returned (.tuple #[.string (zAv R),.int .i64 0])∧Below W.heap.size W w'):=hy' fun A' c' W hW ao=>by
  have:=zEN A' c' W.heap.size R W (Za _) ao (by omega) (fun x hx=>Nf.isC_i32 (ai x hx)) (hH.next hW);rw[ak,zQD ai]at this;exact this
 obtain⟨sR,ah⟩:∃q,zAv R=q:=⟨_,rfl⟩;obtain⟨sz,ax⟩:∃q,zAv z=q:=⟨_,rfl⟩
 have a7:e≠0→sR=⟨#[]⟩:=fun hne=>by
  rcases aq with h0|⟨_,h0⟩
  · exact absurd h0 hne
  subst h0;rw[←ah,←hR];rfl
 rw[hR,ah];rw[ah]at a6;rw[ax]at a8 aj
 have ap:e=0∨(e≠0∧sR=⟨#[]⟩):=by
  by_cases h0:e=0
  · exact .inl h0
  exact .inr ⟨h0,a7 h0⟩
 obtain⟨pb,rfl,_⟩:=h.form;have HO:=hy' aj;clear aj aa hlen aq hz he af ai hR ar ak ah ax a7 hd hcs ok h hs hH;rcases ap with rfl|⟨hne,rfl⟩
 · go_enter func36,ntmps36;go_wp2_with fail;refine HO.o.mono ?_;rintro e w1 ⟨rfl,ag⟩;have ae:=hy' ag;clear ag;go_wp2_with fail;refine (a8.o w1 ae.o).mono ?_;rintro e w2 ⟨A2,c2,rfl,ba,ay⟩;have bg:=hy' ba;have au:=hy' (ae.o.trans (ay.mono ae.o.size));clear ba ay;go_wp2_with fail;refine (HJ.o A2 c2 w2 au.o bg.o).mono ?_;rintro e w3 ⟨A3,c3,rfl,a1,aw⟩;have bb:=hy' a1;have av:=hy' (au.o.trans (aw.mono au.o.size));clear a1 aw;go_wp2_with fail;refine (a6.o A3 c3 w3 av.o bb.o).mono ?_;rintro e w4 ⟨rfl,az⟩;have bf:=hy' (av.o.trans (az.mono av.o.size));clear az;go_wp2_with fail;go_ret2;exact⟨rfl,bf.o⟩
 have bc:(e == 0)=false:=by simpa using hne
 clear hne;go_enter func36,ntmps36;go_wp2_with fail;refine HO.o.mono ?_;rintro e w1 ⟨rfl,ag⟩;have ae:=hy' ag;clear ag;go_wp2_with fail;go_ret2;exact⟨rfl,ae.o⟩
theorem Nc.is_any (v:Value) (T:List Rw.Row) (S:List Int) (s:ByteArray) (w:World) (ok:Ud.Ok T S) (h:Ud.Is w v T S) (hs:s.size≤1000000000000) (hH:Heads w) (cs:List Int) (r:List UInt8) (hd:zH1 s.data.toList cs r) (hcs:cs.length≤3000) :
 Calls prog 38 #[v,.string s] w fun e w'=>e=.returned (.bool (decide (Nf.tn T cs r=0)&&decide (zAv (Nc.tl T S cs r)=s)))∧Below w.heap.size w w':=by
 have af:=Nc.of_any v T S s w ok h hs hH cs r hd hcs;obtain⟨z,hz⟩:∃z,zAv (Nc.tl T S cs r)=z:=⟨_,rfl⟩;obtain⟨e,he⟩:∃e,Nf.tn T cs r=e:=⟨_,rfl⟩;rw[hz,he]at af ⊢;obtain⟨pv,rfl,_⟩:=h.form;have HO:=hy' af;clear af hz he hd hcs ok h hs hH
 by_cases h0:e=0
 · subst h0;rw[Zp rfl,YY];obtain⟨b,hb⟩:∃b,decide (z=s)=b:=⟨_,rfl⟩;have ai:(z.toList == s.toList)=b:=by rw[←hb];exact zG9 z s
   rw[hb];have ah:=hy' ai;have aj:=hy' hb;clear hb;go_enter func38,ntmps38;go_wp2_with fail;refine HO.o.mono ?_;rintro e w1 ⟨rfl,aa⟩;have ae:=hy' aa;clear aa;go_wp2_with fail;go_ret;exact⟨by first|rfl|rw[ah.o],ae.o⟩
 rw[Zq h0,Y8];have ag:(e == 0)=false:=by simpa using h0
 clear h0;go_enter func38,ntmps38;go_wp2_with fail;refine HO.o.mono ?_;rintro e w1 ⟨rfl,aa⟩;have ae:=hy' aa;clear aa;go_wp2_with fail;go_ret;exact⟨by first|rfl|simp,ae.o⟩
end Go.Proofs.YtjakbblocbicjaaGreatDoor
