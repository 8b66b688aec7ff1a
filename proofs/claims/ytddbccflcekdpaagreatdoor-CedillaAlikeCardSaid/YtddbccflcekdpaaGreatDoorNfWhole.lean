/- order.Of without its condition. -/
import Derived.Test.YtddbccflcekdpaaGreatDoorOrIn
import Derived.Test.YtddbccflcekdpaaGreatDoorNfNfd
set_option maxRecDepth 100000
set_option maxHeartbeats 4000000
set_option linter.unusedVariables false
set_option linter.unusedSimpArgs false
namespace Go.Proofs.YtddbccflcekdpaaGreatDoor
open Go.Proofs.Tryz
open Go.RowKit
theorem Tx.sym (aa:FuncId) (cd:Option Addr) (k:Int→Int) (N:Nat) (h:∀(args:Array Value) (w:World),(callFunc aa args).run prog w=.ok (.enter aa args) w):zEi aa cd k N:=zKi aa cd k h N
theorem zSp (v:Value) (T:List Rw.Row) (S:List Int) (A:Option Addr) (n c:Nat) (l:List Int) (w:World) (ok:Ud.Ok T S) (h:Ud.Is w v T S) (hl:l.length=n) (hn:n≤100000) (hA:Sl w w.heap.size A (l.map (Value.int .i32))) :
 Calls prog 100 #[v,.slice A n c] w (Md.RetOwn (Or.of (Md.cls T) l) w):=Or.of_any v T S A n c l w ok h hl hn hA Tx.sym
theorem zDf (z s:ByteArray):(z.toList == s.toList)=decide (z=s):=by
 rw[zER,zER,Z9,ZW,YP];constructor
 · intro h;obtain⟨⟨a⟩⟩:=z;obtain⟨⟨b⟩⟩:=s;simp only[]at h;rw[h]
 intro h;rw[h]
def Nf.tl (T:List Rw.Row) (cs:List Int) (r:List UInt8):List Int:=if r=[]∧(Nf.fl T cs).length≤1024 then Nf.chars T cs else []
def Nf.tn (T:List Rw.Row) (cs:List Int) (r:List UInt8):Int:=if r=[] then (if (Nf.fl T cs).length≤1024 then 0 else 7) else 6
theorem zPv (T:List Rw.Row) (cs:List Int) (a:UInt8) (r:List UInt8):Nf.tl T cs (a::r)=[]:=Zl fun h=>by cases h.1
theorem zPw (T:List Rw.Row) (cs:List Int) (a:UInt8) (r:List UInt8):Nf.tn T cs (a::r)=6:=Zl fun h=>by cases h
theorem zPx {T:List Rw.Row} {cs:List Int} (h:¬(Nf.fl T cs).length≤1024) (r:List UInt8):Nf.tl T cs r=[]:=Zl fun g=>h g.2
theorem zPy {T:List Rw.Row} {cs:List Int} (h:¬(Nf.fl T cs).length≤1024):Nf.tn T cs []=7:=by unfold Nf.tn;rw[if_pos rfl,if_neg h]
theorem zGx {T:List Rw.Row} {cs:List Int} (h:(Nf.fl T cs).length≤1024):Nf.tl T cs []=Nf.chars T cs:=Zo ⟨rfl,h⟩
theorem zGy {T:List Rw.Row} {cs:List Int} (h:(Nf.fl T cs).length≤1024):Nf.tn T cs []=0:=by unfold Nf.tn;rw[if_pos rfl,if_pos h]
theorem zPz (T:List Rw.Row) (l:List Int) (k:Nat):(Nf.fl T (l.take k)).length≤(Nf.fl T l).length:=by
 conv=>rhs;rw[←ZF k l]
 unfold Nf.fl;rw[Yr,Zd];omega
theorem Nf.chars_le {T:List Rw.Row} {S:List Int} (ok:Ud.Ok T S) (l:List Int):(Nf.chars T l).length≤32*l.length:=by
 rw[Nf.chars_len];exact zFp (fun c=>zB5 ok c) l
theorem Nf.text_any (v:Value) (T:List Rw.Row) (S:List Int) (s:ByteArray) (w:World) (ok:Ud.Ok T S) (h:Ud.Is w v T S) (hs:s.size≤1000000000000) (hH:Heads w) (cs:List Int) (r:List UInt8) (hd:zH6 s.data.toList cs r) (hcs:cs.length≤3000) :
 Calls prog 41 #[v,.string s] w (RetOwn2 21 .i32 (Nf.tl T cs r) (Nf.tn T cs r) w):=by
 have af:=zHI s w hs hH cs r hd;have ax:∀c∈cs,-2147483648≤c∧c≤2147483647:=zPr hd.2.1;rcases r with _|⟨r0,r'⟩
 rotate_left
 · rw[zFZ,zJ5]at af;rw[zPv,zPw];obtain⟨pv,rfl,_⟩:=h.form;have HD:=hy' af;clear af ax hd hH hs ok h;go_enter func41,ntmps41;go_wp2_with fail;refine HD.o.mono ?_;rintro e w1 ⟨A1,c1,rfl,ag,ar⟩;have ai:=hy' ar;clear ag ar;go_wp2_with fail;go_ret2;exact RetOwn2.mk (ZI _ _ _ _) rfl rfl ai.o
 obtain⟨n,hn⟩:∃n,cs.length=n:=⟨_,rfl⟩;have bj:zHH cs []=cs:=rfl;have bl:zOF []=0:=rfl;rw[bj,bl]at af;unfold RetOwn2 at af;rw[hn]at af hcs;have bq:Hy (∀x W,Below w.heap.size w W → -2147483648≤x→x≤2147483647→Calls prog 50 #[v,.int .i32 x] W (RetInts .i32 (Ud.full T x) W)):=hy' fun x W hW h3 h4=>Ud.full_any v T S x W ok (h.below hW) h3 h4
 have br:Hy (∀A c W,Below w.heap.size w W→Sl W W.heap.size A (cs.map (Value.int .i32))→Calls prog 71 #[v,.slice A n c] W (Md.RetOwn (Nf.chars T cs) W)):=hy' fun A c W hW hA=>Nf.Chars_any v T S A n c cs W ok (h.below hW) hn hcs ax hA Tx.sym
 obtain⟨pv,rfl,_⟩:=h.form;have HD:=hy' af;have HN:=hy' hn;have bo:=hy' ax;have ba:=hy' (fun c=>zB5 ok c);clear af hn ax hd bj bl hH hs ok h;go_enter func41,ntmps41;go_wp2_with fail;refine HD.o.mono ?_;rintro e w1 ⟨A1,c1,rfl,ag,ar⟩;have bm:=hy' (Sl.of_own ag);have ai:=hy' ar;have bt:=ar.size;clear ag ar;go_wp2_with fail;go_loopw [8,10,21] (fun nv _ i wr=>∃(k:Nat),k≤n∧i=.int .i64 k∧nv=.int .i64 (Nf.fl T (cs.take k)).length∧(Nf.fl T (cs.take k)).length≤1024∧Below w1.heap.size w1 wr) (fun nv _ i _=>n-(intOf i).toNat)
 case atStart=>exact⟨0,ZG _,rfl,rfl,by simp[Nf.fl],Zc _ _⟩
 obtain⟨k,hk,rfl,rfl,hle,aa⟩:=hrel
 by_cases hlt:k<n
 · obtain⟨x,hx⟩:∃x,cs[k]?=some x:=⟨_,Zb (by rw[HN.o];exact hlt)⟩;obtain⟨a1,a8⟩:=bo.o x (Zn hx);obtain⟨ab,ao,hA2,bs,a6⟩:=bm.o.below aa (Za _) (by rw[Ze,HN.o];omega);have hc:=a6 k (by rw[Ze,HN.o];exact hlt);rw[Zs,hx,ZA]at hc;have a7:=Yb List.length (zH7 (T:=T) hx);rw[Zd]at a7;have bg:=zPz T cs (k+1);have bb:=ba.o x;have av:=bq.o x wr (ai.o.trans (aa.mono ai.o.size)) a1 a8;obtain⟨m,hm⟩:∃m,Ud.full T x=m:=⟨_,rfl⟩;obtain⟨ml,aw⟩:∃q,m.length=q:=⟨_,rfl⟩;obtain⟨sn,aj⟩:∃q,(Nf.fl T (cs.take k)).length=q:=⟨_,rfl⟩;obtain⟨s2,ak⟩:∃q,(Nf.fl T (cs.take (k+1))).length=q:=⟨_,rfl⟩;obtain⟨sf,az⟩:∃q,(Nf.fl T cs).length=q:=⟨_,rfl⟩;unfold RetInts at av;rw[hm,aw]at av bb;rw[ak,aj,hm,aw]at a7;rw[ak,az]at bg;rw[aj]at hle ⊢;subst a7;have kI:(k:Int)<n:=by omega
   have k0:(0:Int)≤k:=by omega
   have bh:=hy' ak;have bn:=hy' az;have ae:=hy' aa;have bi:=hy' av;subst hA2
   by_cases hbig:sn+ml≤1024
   · have hg:¬((sn:Int)+ml > 1024):=by omega
     clear hx a1 a8 a6 hm aw aj av aa ak az bg;go_wp2_with (first|(go_at_call 50;refine bi.o.mono ?_;rintro e w2 ⟨A2,c2,rfl,ak,aq⟩;have au:=hy' (ae.o.trans (aq.mono ae.o.size));clear ak aq hc)|fail);exact⟨⟨k+1,by omega,by first|rfl|go_num,by rw[bh.o];first|rfl|go_num,by rw[bh.o];exact hbig,au.o⟩,by simp[intOf];omega⟩
   have hg:(sn:Int)+ml > 1024:=by omega
   have ah:¬(Nf.fl T cs).length≤1024:=by rw[bn.o];omega
   have ay:=hy' (zPx ah []);have bc:=hy' (zPy ah);clear hx a1 a8 a6 hm aw aj av aa ak az bg ah;go_wp2_with (first|(go_at_call 50;refine bi.o.mono ?_;rintro e w2 ⟨A2,c2,rfl,ak,aq⟩;have au:=hy' (ae.o.trans (aq.mono ae.o.size));clear ak aq hc)|fail);go_ret2;rw[ay.o,bc.o];exact RetOwn2.mk (ZI _ _ _ _) rfl rfl (ai.o.trans (au.o.mono ai.o.size))
 obtain rfl:k=n:=by omega
 rw[Zm (by rw[HN.o];exact Za _)]at hle ⊢;have kI:¬(k:Int)<k:=by omega
 have bf:=br.o A1 c1 wr (ai.o.trans (aa.mono ai.o.size)) (bm.o.below aa aa.size);have ay:=hy' (zGx hle);have bc:=hy' (zGy hle);obtain⟨Z,hZ⟩:∃Z,Nf.chars T cs=Z:=⟨_,rfl⟩;rw[hZ]at bf ay;have ae:=hy' (ai.o.trans (aa.mono ai.o.size));have bk:=hy' bf;clear aa bf hle hZ;go_wp2_with fail;refine bk.o.mono ?_;rintro e w2 ⟨A2,c2,rfl,ap,aq⟩;have bp:=hy' (zAw ap ae.o.size);have au:=hy' (ae.o.trans (aq.mono ae.o.size));clear ap aq bk;go_wp2_with fail;go_ret2;rw[ay.o,bc.o];exact RetOwn2.mk bp.o rfl rfl au.o
theorem Nf.of_any (v:Value) (T:List Rw.Row) (S:List Int) (s:ByteArray) (w:World) (ok:Ud.Ok T S) (h:Ud.Is w v T S) (hs:s.size≤1000000000000) (hH:Heads w) (cs:List Int) (r:List UInt8) (hd:zH6 s.data.toList cs r) (hcs:cs.length≤3000) :
 Calls prog 14 #[v,.string s] w fun e w'=>e=.returned (.tuple #[.string (zA6 (Nf.tl T cs r)),.int .i64 (Nf.tn T cs r)])∧Below w.heap.size w w':=by
 have ah:=Nf.text_any v T S s w ok h hs hH cs r hd hcs
 have hlen:(Nf.tl T cs r).length≤100000:=by
  unfold Nf.tl;split
  · have:=Nf.chars_le ok cs;omega
  simp
 have ag:∀c∈Nf.tl T cs r,-2147483648≤c∧c≤2147483647:=by
  unfold Nf.tl;split
  · exact fun c hc=>Nf.isC_i32 (Nf.chars_isC ok hd.2.1 c hc)
  simp
 have ai:Nf.tn T cs r=0∨(Nf.tn T cs r≠0∧Nf.tl T cs r=[]):=by
  unfold Nf.tn Nf.tl
  by_cases h1:r=[]
  · by_cases h2:(Nf.fl T cs).length≤1024
    · left;rw[Zo h1,Zo h2]
    right;rw[Zo h1,Zl h2,Zl (fun g=>h2 g.2)];exact⟨by decide,rfl⟩
  right;rw[Zl h1,Zl (fun g=>h1 g.1)];exact⟨by decide,rfl⟩
 obtain⟨z,hz⟩:∃z,Nf.tl T cs r=z:=⟨_,rfl⟩;obtain⟨e,he⟩:∃e,Nf.tn T cs r=e:=⟨_,rfl⟩;rw[hz,he]at ah ⊢;rw[hz]at hlen ag;rw[hz,he]at ai;obtain⟨pv,rfl,_⟩:=h.form;have HT:=hy' ah;have HC:=hy' ag;have HH:=hy' hH;clear ah ag hz he hd hcs ok h hs hH;rcases ai with rfl|⟨hne,rfl⟩
 · go_enter func14,ntmps14;go_wp2_with fail;refine HT.o.mono ?_;rintro e w1 ⟨A1,c1,rfl,aa,ae⟩;have ak:=zEU A1 c1 w1.heap.size z w1 (Za _) (Sl.of_own aa) (by omega) HC.o (HH.o.next ae);have HE:=hy' ak;have af:=hy' ae;clear aa ae ak;go_wp2_with fail;refine HE.o.mono ?_;rintro e w2 ⟨rfl,aj⟩;have ap:=hy' (af.o.trans (aj.mono af.o.size));clear aj;go_wp2_with fail;go_ret2;exact⟨rfl,ap.o⟩
 have aq:=hy' hne;have ao:(e == 0)=false:=by simpa using hne
 clear hne;go_enter func14,ntmps14;go_wp2_with fail;refine HT.o.mono ?_;rintro e w1 ⟨A1,c1,rfl,aa,ae⟩;have af:=hy' ae;clear aa ae;go_wp2_with fail;go_ret2;exact⟨rfl,af.o⟩
theorem Nf.is_any (v:Value) (T:List Rw.Row) (S:List Int) (s:ByteArray) (w:World) (ok:Ud.Ok T S) (h:Ud.Is w v T S) (hs:s.size≤1000000000000) (hH:Heads w) (cs:List Int) (r:List UInt8) (hd:zH6 s.data.toList cs r) (hcs:cs.length≤3000) :
 Calls prog 18 #[v,.string s] w fun e w'=>e=.returned (.bool (decide (Nf.tn T cs r=0)&&decide (zA6 (Nf.tl T cs r)=s)))∧Below w.heap.size w w':=by
 have af:=Nf.of_any v T S s w ok h hs hH cs r hd hcs;obtain⟨z,hz⟩:∃z,zA6 (Nf.tl T cs r)=z:=⟨_,rfl⟩;obtain⟨e,he⟩:∃e,Nf.tn T cs r=e:=⟨_,rfl⟩;rw[hz,he]at af ⊢;obtain⟨pv,rfl,_⟩:=h.form;have HO:=hy' af;clear af hz he hd hcs ok h hs hH
 by_cases h0:e=0
 · subst h0;rw[Zr rfl,YJ];obtain⟨b,hb⟩:∃b,decide (z=s)=b:=⟨_,rfl⟩;have ag:(z.toList == s.toList)=b:=by rw[←hb];exact zDf z s
   rw[hb];have ah:=hy' ag;have aj:=hy' hb;clear hb;go_enter func18,ntmps18;go_wp2_with fail;refine HO.o.mono ?_;rintro e w1 ⟨rfl,aa⟩;have ae:=hy' aa;clear aa;go_wp2_with fail;go_ret;exact⟨by first|rfl|rw[ah.o],ae.o⟩
 rw[Zu h0,Xx];have ai:(e == 0)=false:=by simpa using h0
 clear h0;go_enter func18,ntmps18;go_wp2_with fail;refine HO.o.mono ?_;rintro e w1 ⟨rfl,aa⟩;have ae:=hy' aa;clear aa;go_wp2_with fail;go_ret;exact⟨by first|rfl|simp,ae.o⟩
section
variable {T:List Rw.Row} {S:List Int}
theorem Nf.fl_app (l m:List Int):Nf.fl T (l++m)=Nf.fl T l++Nf.fl T m:=by unfold Nf.fl;exact List.flatMap_append
theorem Nf.fl_one (c:Int):Nf.fl T [c]=Ud.full T c:=by unfold Nf.fl;simp
theorem zC6 (c:Int) (l:List Int):Nf.fl T (c::l)=Ud.full T c++Nf.fl T l:=by unfold Nf.fl;exact List.flatMap_cons
theorem zRy (ok:Ud.Ok T S) (l:List Int):∀x∈Nf.fl T l,Md.mp T x=[]:=fun x hx=>by
 unfold Nf.fl at hx;obtain⟨c,_,h⟩:=List.mem_flatMap.1 hx;exact zGu ok c x h
theorem zHb (ok:Ud.Ok T S) {l:List Int} (h:∀x∈l,Md.mp T x=[]):Nf.fl T l=l:=by
 induction l with
 | nil=>rfl
 | cons c l ih=>rw[zC6,zDX ok (h c Zt),ih fun x hx=>h x (Zv _ hx)];rfl
theorem zEp (ok:Ud.Ok T S) (l:List Int):∀x∈Nf.chars T l,Md.mp T x=[]:=fun x hx=>zRy ok l x ((zLG _ _ x).1 hx)
theorem zGz (ok:Ud.Ok T S) (l:List Int):∀x∈Nf.chars T l,Ud.full T x=[x]:=fun x hx=>zDX ok (zEp ok l x hx)
theorem zG0 (ok:Ud.Ok T S) (l:List Int):Nf.fl T (Nf.chars T l)=Nf.chars T l:=zHb ok (zEp ok l)
theorem zJa (ok:Ud.Ok T S) (l:List Int):Or.inB (Md.cls T) 0 (Nf.chars T l)=true:=zKJ (fun x=>(zDP ok x).1) _
theorem Nf.chars_chars (ok:Ud.Ok T S) (l:List Int):Nf.chars T (Nf.chars T l)=Nf.chars T l:=by
 show Or.of _ (Nf.fl T (Nf.chars T l))=_;rw[zG0 ok];unfold Nf.chars;exact zOt _ _
theorem zOH {l m:List Int}:Or.Q (Md.cls T) (Nf.fl T l) (Nf.fl T m)↔Nf.chars T l=Nf.chars T m:=zRb
theorem zCF {l l' m m':List Int} (h:Nf.chars T l=Nf.chars T l') (h':Nf.chars T m=Nf.chars T m'):Nf.chars T (l++m)=Nf.chars T (l'++m'):=by
 rw[←zOH]at *;rw[Nf.fl_app,Nf.fl_app];exact h.app h'
theorem zJH (ok:Ud.Ok T S) (l m:List Int):Nf.chars T (Nf.chars T l++m)=Nf.chars T (l++m):=zCF (Nf.chars_chars ok l) rfl
theorem zMu (ok:Ud.Ok T S) (a b:List Int) {c:Int} (hc:Md.mp T c≠[]):Nf.chars T (a++(Md.mp T c++b))=Nf.chars T (a++c::b):=by
 have:Nf.fl T (Md.mp T c)=Nf.fl T [c]:=by rw[Nf.fl_one,zHL ok hc];rfl
 refine zCF rfl ?_;show Nf.chars T (Md.mp T c++b)=Nf.chars T ([c]++b);refine zCF ?_ rfl;unfold Nf.chars;rw[this]
theorem zLa (ok:Ud.Ok T S) (a b:List Int) {x y:Int} (hx:0<Md.cls T x) (hy:0<Md.cls T y) (aa:Md.cls T x≠Md.cls T y) (mx:Md.mp T x=[]) (my:Md.mp T y=[]):Nf.chars T (a++y::x::b)=Nf.chars T (a++x::y::b):=by
 rw[←zOH,Nf.fl_app,Nf.fl_app,zC6,zC6,zC6,zC6,zDX ok mx,zDX ok my];exact Or.Q.swap hy hx (fun h=>aa h.symm) _ _
theorem zRz (l m:List Int):(Nf.chars T (l++m)).length=(Nf.chars T l).length+(Nf.chars T m).length:=by
 unfold Nf.chars;rw[zCA,zCA,zCA,Nf.fl_app,Zd]
theorem zBE (ok:Ud.Ok T S):∀l:List Int,l.length≤(Nf.fl T l).length
 | []=>Za _
 | c::l=>by
   have h1:=zBE ok l;have h2:=List.length_pos_iff.2 (zKr ok c);rw[zC6,Zd,ZE];omega
theorem zSb (ok:Ud.Ok T S) (l:List Int):l.length≤(Nf.chars T l).length:=by
 have:=zBE ok l;unfold Nf.chars;rw[zCA];exact this
theorem zQJ (ok:Ud.Ok T S) (l:List Int):Nf.chars T l=l↔(∀x∈l,Md.mp T x=[])∧Or.inB (Md.cls T) 0 l=true:=by
 constructor
 · intro h;exact⟨fun x hx=>zEp ok l x (by rw[h];exact hx),by have:=zJa ok l;rw[h]at this;exact this⟩
 rintro⟨h1,h2⟩;unfold Nf.chars;rw[zHb ok h1];exact (zIp (fun x=>(zDP ok x).1) l).1 h2
def zCf (T:List Rw.Row) (S:List Int) (l:List Int):List Int:=Nc.join (Md.cls T) (Nc.j T S) l
def Nc.chars (T:List Rw.Row) (S:List Int) (l:List Int):List Int:=zCf T S (Nf.chars T l)
theorem zJb (ok:Ud.Ok T S) (l:List Int):Nf.chars T (Nc.chars T S l)=Nf.chars T l:=by
 have h:=zQ0 (Nc.fit ok) (zGz ok l);have h2:=h.of;have e:Or.of (Md.cls T) (Nf.chars T l)=Nf.chars T l:=by unfold Nf.chars;exact zOt _ _
 rw[e]at h2;exact h2.symm
theorem zEq {l m:List Int} (h:Nf.chars T l=Nf.chars T m):Nc.chars T S l=Nc.chars T S m:=by unfold Nc.chars;rw[h]
theorem Nc.chars_chars (ok:Ud.Ok T S) (l:List Int):Nc.chars T S (Nc.chars T S l)=Nc.chars T S l:=zEq (zJb ok l)
theorem zMv (ok:Ud.Ok T S) (l:List Int):Nc.chars T S (Nf.chars T l)=Nc.chars T S l:=zEq (Nf.chars_chars ok l)
theorem Nc.chars_len (ok:Ud.Ok T S) (l:List Int):(Nc.chars T S l).length≤(Nf.chars T l).length∧(Nf.chars T l≠[]→0<(Nc.chars T S l).length):=zIq _
theorem zMw (ok:Ud.Ok T S) (l m:List Int):Nf.chars T l=Nf.chars T m↔Nc.chars T S l=Nc.chars T S m :=
 ⟨zEq,fun h=>by rw[←zJb ok l,←zJb ok m,h]⟩
def Sp.head (T:List Rw.Row) (c:Int):Int:=(Ud.full T c).headD 0
def Sp.start (T:List Rw.Row) (c:Int):Bool:=decide (Md.cls T (Sp.head T c)=0)
def zEr (T:List Rw.Row) (S:List Int) (c:Int):Bool:=C.isC c&&(Sp.start T c&&!Nc.sec T S (Sp.head T c))
theorem zDA (ok:Ud.Ok T S) (c:Int):∃M,Ud.full T c=Sp.head T c::M:=by
 unfold Sp.head;cases h:Ud.full T c with
 | nil=>exact absurd h (zKr ok c)
 | cons a M=>exact⟨M,rfl⟩
theorem Nf.chars_cut (ok:Ud.Ok T S) {c:Int} (hc:Sp.start T c=true) (a b:List Int):Nf.chars T (a++c::b)=Nf.chars T a++Nf.chars T (c::b):=by
 obtain⟨M,hM⟩:=zDA ok c;unfold Sp.start at hc;have h0:=YF hc;unfold Nf.chars;rw[Nf.fl_app,zC6,hM,Zx,zLH (by omega)]
theorem Nc.chars_cut (ok:Ud.Ok T S) {c:Int} (hc:zEr T S c=true) (a b:List Int):Nc.chars T S (a++c::b)=Nc.chars T S a++Nc.chars T S (c::b):=by
 unfold zEr at hc;simp only[Zy,Yv]at hc;obtain⟨_,hs,hn⟩:=hc;obtain⟨M,hM⟩:=zDA ok c;unfold Nc.chars;rw[Nf.chars_cut ok hs];have h0:Md.cls T (Sp.head T c)=0:=by unfold Sp.start at hs;exact of_decide_eq_true hs
 have e:Nf.chars T (c::b)=Sp.head T c::Or.of (Md.cls T) (M++Nf.fl T b):=by
  unfold Nf.chars;rw[zC6,hM,Zx,zON (by omega)]
 rw[e];exact zN1 h0 (fun x=>zNJ ok hn x) _ _
def Qk.set (T:List Rw.Row) (S:List Int) (c:Int):Bool:=decide (Nc.chars T S [c]=[c])
def Qk.one (T:List Rw.Row) (S:List Int) (c:Int):Int:=if Qk.set T S c=true then (if Nc.sec T S (Sp.head T c)=true then 1 else 2) else 0
def Qk.fold (T:List Rw.Row) (S:List Int) (l:List Int):Int:=l.foldl (fun a c=>min a (Qk.one T S c)) 2
def zMx (T:List Rw.Row) (S:List Int) (l:List Int):Int:=if Or.inB (Md.cls T) 0 l=true then Qk.fold T S l else 0
theorem zGA (c:Int):0≤Qk.one T S c∧Qk.one T S c≤2:=by unfold Qk.one;split;split <;> omega;omega
theorem zFr (l:List Int):∀a:Int,0≤a→a≤2→0≤l.foldl (fun a c=>min a (Qk.one T S c)) a∧l.foldl (fun a c=>min a (Qk.one T S c)) a≤a ∧
 (∀c∈l,l.foldl (fun a c=>min a (Qk.one T S c)) a≤Qk.one T S c)∧(l.foldl (fun a c=>min a (Qk.one T S c)) a=a∨∃c∈l,l.foldl (fun a c=>min a (Qk.one T S c)) a=Qk.one T S c):=by
 induction l with
 | nil=>intro a h1 h2;exact⟨h1,Yq _,fun c h=>absurd h Z6,.inl rfl⟩
 | cons x l ih =>
   intro a h1 h2;have hx:=zGA (T:=T) (S:=S) x;obtain⟨g1,g2,g3,g4⟩:=ih (min a (Qk.one T S x)) (by omega) (by omega);rw[Yh];refine⟨g1,by omega,fun c hc=>?_,?_⟩
   · rcases List.mem_cons.1 hc with rfl|hc
     · omega
     exact g3 c hc
   rcases g4 with h|⟨c,hc,h⟩
   · rw[h]
     by_cases hh:a≤Qk.one T S x
     · exact .inl (by omega)
     exact .inr ⟨x,Zt,by omega⟩
   exact .inr ⟨c,Zv _ hc,h⟩
theorem zKu (c:Int):Qk.set T S c=true↔zCR (Md.cls T) (Nc.j T S) (Ud.full T) c:=by
 unfold Qk.set zCR Nc.chars zCf Nf.chars;rw[Zp,Nf.fl_one]
theorem Qk.no (ok:Ud.Ok T S) (l:List Int):zMx T S (Nc.chars T S l)≠0:=by
 have h:=zIu (Nc.fit ok) (zGz ok l) (zJa ok l);unfold zMx;rw[Zo (by exact h.1)];have hf:=zFr (T:=T) (S:=S) (Nc.chars T S l) 2 (by omega) (by omega);unfold Qk.fold;rcases hf.2.2.2 with e|⟨c,hc,e⟩
 · rw[e];omega
 rw[e];have:=(zKu c).2 (h.2 c hc);unfold Qk.one;rw[Zo this];split <;> omega
end
theorem zQK {T:List Rw.Row} {S:List Int} (h:Ud.Ok T S) {c d:Int} (hd:d∈Md.mp T c):C.isC d=true:=by
 unfold Md.mp at hd;split at hd
 · rename_i hp;rw[zC4]at hp;simp only[Zp]at hp;have hk:=zCT c;have aa:zA3 c=4∨zA3 c=5:=by omega
   have hs:=zAv c aa;rcases aa with h4|h5
   · rw[zAT c h4]at hd;simp only[Y0,Z6,Q5]at hd;unfold C.isC;simp only[Zp];omega
   rw[zAY c h5]at hd;simp only[Y0,Z6,Q5]at hd;unfold C.isC;simp only[Zp];omega
 unfold zAM at hd;cases hf:Md.find T c with
 | none=>rw[hf]at hd;simp at hd
 | some r =>
   rw[hf]at hd;exact ((h.good r (zAp hf).1).2.2.2.2.2 d (by simpa using hd)).1
theorem zCo {z:List Int} (h:∀c∈z,U.isC c=true):zH6 (zA6 z).data.toList z []:=by
 rw[zCe h];exact⟨by simp,h,rfl⟩
theorem zCp {z:List Int} (h:∀c∈z,U.isC c=true):(zA6 z).size≤4*z.length:=by
 rw[zCe h];have:=zGt z;show (zA5 z).toArray.size≤_;simpa using this
theorem zDY {x y:List Int} (hx:∀c∈x,U.isC c=true) (hy:∀c∈y,U.isC c=true) (h:zA6 x=zA6 y):x=y :=
 (zHG (zCo hx) (h▸zCo hy)).1
theorem zG1 (A:Option Addr) (n cap:Nat) (l:List Int) (w:World) (hn:l.length=n) (hl:n≤100000000) (hA:Sl w w.heap.size A (l.map (Value.int .i64))) (hb:∀c∈l,U.isC c=true) :
 Calls prog 13 #[.slice A n cap] w fun e w'=>e=.returned (.string (zA6 l))∧Below w.heap.size w w':=by
 have:=zL7 A cap w.heap.size l w (Za _) hA (by omega) hb;rw[hn]at this;rw[zCe hb];exact this
section
variable (v:Value) (T:List Rw.Row) (S:List Int) (z:List Int) (w:World) (ok:Ud.Ok T S) (h:Ud.Is w v T S) (hH:Heads w) (hz:∀c∈z,C.isC c=true) (hl:z.length≤3000) (hf:(Nf.fl T z).length≤1024)
include ok h hH hz hl hf
theorem Nf.of_chars:Calls prog 14 #[v,.string (zA6 z)] w fun e w'=>e=.returned (.tuple #[.string (zA6 (Nf.chars T z)),.int .i64 0])∧Below w.heap.size w w':=by
 have:=Nf.of_any v T S (zA6 z) w ok h (by have:=zCp hz;omega) hH z [] (zCo hz) hl;rw[zGx hf,zGy hf]at this;exact this
theorem Nf.is_chars:Calls prog 18 #[v,.string (zA6 z)] w fun e w'=>e=.returned (.bool (decide (Nf.chars T z=z)))∧Below w.heap.size w w':=by
 have:=Nf.is_any v T S (zA6 z) w ok h (by have:=zCp hz;omega) hH z [] (zCo hz) hl;rw[zGx hf,zGy hf,Zr rfl,YJ]at this
 rw[show decide (Nf.chars T z=z)=decide (zA6 (Nf.chars T z)=zA6 z) from by
  rw[Z9,ZW,ZW];exact⟨fun e=>by rw[e],fun e=>zDY (Nf.chars_isC ok hz) hz e⟩]
 exact this
end
theorem zFs {T:List Rw.Row} {S:List Int} (ok:Ud.Ok T S) {z:List Int} (h:z.length≤32):(Nf.fl T z).length≤1024:=by
 have:=zFp (fun c=>zB5 ok c) z;omega
theorem Nf.fl_ch {T:List Rw.Row} {S:List Int} (ok:Ud.Ok T S) {z:List Int} (h:(Nf.fl T z).length≤1024):(Nf.fl T (Nf.chars T z)).length≤1024:=by
 rw[zG0 ok,Nf.chars_len];exact h
end Go.Proofs.YtddbccflcekdpaaGreatDoor
