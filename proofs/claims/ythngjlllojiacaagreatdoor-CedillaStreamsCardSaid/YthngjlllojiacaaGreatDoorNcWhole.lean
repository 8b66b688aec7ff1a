/- order.Of without its condition. -/
import Derived.Test.YthngjlllojiacaaGreatDoorOrIn
import Derived.Test.YthngjlllojiacaaGreatDoorNfNfd
set_option maxRecDepth 100000
set_option maxHeartbeats 4000000
set_option linter.unusedVariables false
set_option linter.unusedSimpArgs false
namespace Go.Proofs.YthngjlllojiacaaGreatDoor
open Go.Proofs.Tryz
open Go.RowKit
theorem Tx.sym (aa:FuncId) (cd:Option Addr) (k:Int→Int) (N:Nat) (h:∀(args:Array Value) (w:World),(callFunc aa args).run prog w=.ok (.enter aa args) w):zE6 aa cd k N:=zJL aa cd k h N
theorem zRV (v:Value) (T:List Rw.Row) (S:List Int) (A:Option Addr) (n c:Nat) (l:List Int) (w:World) (ok:Ud.Ok T S) (h:Ud.Is w v T S) (hl:l.length=n) (hn:n≤100000) (hA:Sl w w.heap.size A (l.map (Value.int .i32))) :
 Calls prog 114 #[v,.slice A n c] w (Md.RetOwn (Or.of (Md.cls T) l) w):=Or.of_any v T S A n c l w ok h hl hn hA Tx.sym
theorem U.ba_eq (z s:ByteArray):(z.toList == s.toList)=decide (z=s):=by
 rw[zEp,zEp,Yg,Yu,YU];constructor
 · intro h;obtain⟨⟨a⟩⟩:=z;obtain⟨⟨b⟩⟩:=s;simp only[]at h;rw[h]
 intro h;rw[h]
def Nf.tl (T:List Rw.Row) (cs:List Int) (r:List UInt8):List Int:=if r=[]∧(Nf.fl T cs).length≤1024 then Nf.chars T cs else []
def Nf.tn (T:List Rw.Row) (cs:List Int) (r:List UInt8):Int:=if r=[] then (if (Nf.fl T cs).length≤1024 then 0 else 7) else 6
theorem zP4 (T:List Rw.Row) (cs:List Int) (a:UInt8) (r:List UInt8):Nf.tl T cs (a::r)=[]:=Zj fun h=>by cases h.1
theorem zP5 (T:List Rw.Row) (cs:List Int) (a:UInt8) (r:List UInt8):Nf.tn T cs (a::r)=6:=Zj fun h=>by cases h
theorem zP6 {T:List Rw.Row} {cs:List Int} (h:¬(Nf.fl T cs).length≤1024) (r:List UInt8):Nf.tl T cs r=[]:=Zj fun g=>h g.2
theorem zP7 {T:List Rw.Row} {cs:List Int} (h:¬(Nf.fl T cs).length≤1024):Nf.tn T cs []=7:=by unfold Nf.tn;rw[if_pos rfl,if_neg h]
theorem zKD {T:List Rw.Row} {cs:List Int} (h:(Nf.fl T cs).length≤1024):Nf.tl T cs []=Nf.chars T cs:=Zl ⟨rfl,h⟩
theorem zKE {T:List Rw.Row} {cs:List Int} (h:(Nf.fl T cs).length≤1024):Nf.tn T cs []=0:=by unfold Nf.tn;rw[if_pos rfl,if_pos h]
theorem zP8 (T:List Rw.Row) (l:List Int) (k:Nat):(Nf.fl T (l.take k)).length≤(Nf.fl T l).length:=by
 conv=>rhs;rw[←ZE k l]
 unfold Nf.fl;rw[YG,Zd];omega
theorem Nf.chars_le {T:List Rw.Row} {S:List Int} (ok:Ud.Ok T S) (l:List Int):(Nf.chars T l).length≤32*l.length:=by
 rw[Nf.chars_len];exact zFb (fun c=>zBt ok c) l
theorem Nf.text_any (v:Value) (T:List Rw.Row) (S:List Int) (s:ByteArray) (w:World) (ok:Ud.Ok T S) (h:Ud.Is w v T S) (hs:s.size≤1000000000000) (hH:Heads w) (cs:List Int) (r:List UInt8) (hd:zKa s.data.toList cs r) (hcs:cs.length≤3000) :
 Calls prog 45 #[v,.string s] w (RetOwn2 21 .i32 (Nf.tl T cs r) (Nf.tn T cs r) w):=by
 have ae:=zHf s w hs hH cs r hd;have az:∀c∈cs,-2147483648≤c∧c≤2147483647:=zP0 hd.2.1;rcases r with _|⟨r0,r'⟩
 rotate_left
 · rw[zIz,zIy]at ae;rw[zP4,zP5];obtain⟨pv,rfl,_⟩:=h.form;have HD:=hy' ae;clear ae az hd hH hs ok h;go_enter func45,ntmps45;go_wp2_with fail;refine HD.o.mono ?_;rintro e w1 ⟨A1,c1,rfl,ag,ar⟩;have ai:=hy' ar;clear ag ar;go_wp2_with fail;go_ret2;exact RetOwn2.mk (ZI _ _ _ _) rfl rfl ai.o
 obtain⟨n,hn⟩:∃n,cs.length=n:=⟨_,rfl⟩;have bk:zJQ cs []=cs:=rfl;have bm:zO9 []=0:=rfl;rw[bk,bm]at ae;unfold RetOwn2 at ae;rw[hn]at ae hcs;have bq:Hy (∀x W,Below w.heap.size w W → -2147483648≤x→x≤2147483647→Calls prog 40 #[v,.int .i32 x] W (zCR .i32 (Ud.full T x) W)):=hy' fun x W hW h3 h4=>Ud.full_any v T S x W ok (h.below hW) h3 h4
 have br:Hy (∀A c W,Below w.heap.size w W→Sl W W.heap.size A (cs.map (Value.int .i32))→Calls prog 80 #[v,.slice A n c] W (Md.RetOwn (Nf.chars T cs) W)):=hy' fun A c W hW hA=>zM1 v T S A n c cs W ok (h.below hW) hn hcs az hA Tx.sym
 obtain⟨pv,rfl,_⟩:=h.form;have HD:=hy' ae;have HN:=hy' hn;have bo:=hy' az;have a7:=hy' (fun c=>zBt ok c);clear ae hn az hd bk bm hH hs ok h;go_enter func45,ntmps45;go_wp2_with fail;refine HD.o.mono ?_;rintro e w1 ⟨A1,c1,rfl,ag,ar⟩;have bl:=hy' (Sl.of_own ag);have ai:=hy' ar;have bt:=ar.size;clear ag ar;go_wp2_with fail;go_loopw [8,10,21] (fun nv _ i wr=>∃(k:Nat),k≤n∧i=.int .i64 k∧nv=.int .i64 (Nf.fl T (cs.take k)).length∧(Nf.fl T (cs.take k)).length≤1024∧Below w1.heap.size w1 wr) (fun nv _ i _=>n-(intOf i).toNat)
 case atStart=>exact⟨0,ZG _,rfl,rfl,by simp[Nf.fl],Zc _ _⟩
 obtain⟨k,hk,rfl,rfl,hle,aa⟩:=hrel
 by_cases hlt:k<n
 · obtain⟨x,hx⟩:∃x,cs[k]?=some x:=⟨_,Zb (by rw[HN.o];exact hlt)⟩;obtain⟨bg,a8⟩:=bo.o x (Zk hx);obtain⟨ab,ao,hA2,bs,ba⟩:=bl.o.below aa (Za _) (by rw[Ze,HN.o];omega);have hc:=ba k (by rw[Ze,HN.o];exact hlt);rw[Zw,hx,Zx]at hc;have bf:=ZT List.length (zGM (T:=T) hx);rw[Zd]at bf;have a6:=zP8 T cs (k+1);have a1:=a7.o x;have av:=bq.o x wr (ai.o.trans (aa.mono ai.o.size)) bg a8;obtain⟨m,hm⟩:∃m,Ud.full T x=m:=⟨_,rfl⟩;obtain⟨ml,ay⟩:∃q,m.length=q:=⟨_,rfl⟩;obtain⟨sn,aj⟩:∃q,(Nf.fl T (cs.take k)).length=q:=⟨_,rfl⟩;obtain⟨s2,ak⟩:∃q,(Nf.fl T (cs.take (k+1))).length=q:=⟨_,rfl⟩;obtain⟨sf,ax⟩:∃q,(Nf.fl T cs).length=q:=⟨_,rfl⟩;unfold zCR at av;rw[hm,ay]at av a1;rw[ak,aj,hm,ay]at bf;rw[ak,ax]at a6;rw[aj]at hle ⊢;subst bf;have kI:(k:Int)<n:=by omega
   have k0:(0:Int)≤k:=by omega
   have bh:=hy' ak;have bn:=hy' ax;have af:=hy' aa;have bj:=hy' av;subst hA2
   by_cases hbig:sn+ml≤1024
   · have hg:¬((sn:Int)+ml > 1024):=by omega
     clear hx bg a8 ba hm ay aj av aa ak ax a6;go_wp2_with (first|(go_at_call 40;refine bj.o.mono ?_;rintro e w2 ⟨A2,c2,rfl,ak,aq⟩;have au:=hy' (af.o.trans (aq.mono af.o.size));clear ak aq hc)|fail);exact⟨⟨k+1,by omega,by first|rfl|go_num,by rw[bh.o];first|rfl|go_num,by rw[bh.o];exact hbig,au.o⟩,by simp[intOf];omega⟩
   have hg:(sn:Int)+ml > 1024:=by omega
   have ah:¬(Nf.fl T cs).length≤1024:=by rw[bn.o];omega
   have aw:=hy' (zP6 ah []);have bc:=hy' (zP7 ah);clear hx bg a8 ba hm ay aj av aa ak ax a6 ah;go_wp2_with (first|(go_at_call 40;refine bj.o.mono ?_;rintro e w2 ⟨A2,c2,rfl,ak,aq⟩;have au:=hy' (af.o.trans (aq.mono af.o.size));clear ak aq hc)|fail);go_ret2;rw[aw.o,bc.o];exact RetOwn2.mk (ZI _ _ _ _) rfl rfl (ai.o.trans (au.o.mono ai.o.size))
 obtain rfl:k=n:=by omega
 rw[Zi (by rw[HN.o];exact Za _)]at hle ⊢;have kI:¬(k:Int)<k:=by omega
 have bb:=br.o A1 c1 wr (ai.o.trans (aa.mono ai.o.size)) (bl.o.below aa aa.size);have aw:=hy' (zKD hle);have bc:=hy' (zKE hle);obtain⟨Z,hZ⟩:∃Z,Nf.chars T cs=Z:=⟨_,rfl⟩;rw[hZ]at bb aw;have af:=hy' (ai.o.trans (aa.mono ai.o.size));have bi:=hy' bb;clear aa bb hle hZ;go_wp2_with fail;refine bi.o.mono ?_;rintro e w2 ⟨A2,c2,rfl,ap,aq⟩;have bp:=hy' (zB0 ap af.o.size);have au:=hy' (af.o.trans (aq.mono af.o.size));clear ap aq bi;go_wp2_with fail;go_ret2;rw[aw.o,bc.o];exact RetOwn2.mk bp.o rfl rfl au.o
theorem Nf.of_any (v:Value) (T:List Rw.Row) (S:List Int) (s:ByteArray) (w:World) (ok:Ud.Ok T S) (h:Ud.Is w v T S) (hs:s.size≤1000000000000) (hH:Heads w) (cs:List Int) (r:List UInt8) (hd:zKa s.data.toList cs r) (hcs:cs.length≤3000) :
 Calls prog 24 #[v,.string s] w fun e w'=>e=.returned (.tuple #[.string (zBc (Nf.tl T cs r)),.int .i64 (Nf.tn T cs r)])∧Below w.heap.size w w':=by
 have ah:=Nf.text_any v T S s w ok h hs hH cs r hd hcs
 have hlen:(Nf.tl T cs r).length≤100000:=by
  unfold Nf.tl;split
  · have:=Nf.chars_le ok cs;omega
  simp
 have ag:∀c∈Nf.tl T cs r,-2147483648≤c∧c≤2147483647:=by
  unfold Nf.tl;split
  · exact fun c hc=>Nf.isC_i32 (Nf.chars_isC ok hd.2.1 c hc)
  simp
 have aj:Nf.tn T cs r=0∨(Nf.tn T cs r≠0∧Nf.tl T cs r=[]):=by
  unfold Nf.tn Nf.tl
  by_cases h1:r=[]
  · by_cases h2:(Nf.fl T cs).length≤1024
    · left;rw[Zl h1,Zl h2]
    right;rw[Zl h1,Zj h2,Zj (fun g=>h2 g.2)];exact⟨by decide,rfl⟩
  right;rw[Zj h1,Zj (fun g=>h1 g.1)];exact⟨by decide,rfl⟩
 obtain⟨z,hz⟩:∃z,Nf.tl T cs r=z:=⟨_,rfl⟩;obtain⟨e,he⟩:∃e,Nf.tn T cs r=e:=⟨_,rfl⟩;rw[hz,he]at ah ⊢;rw[hz]at hlen ag;rw[hz,he]at aj;obtain⟨pv,rfl,_⟩:=h.form;have HT:=hy' ah;have HC:=hy' ag;have HH:=hy' hH;clear ah ag hz he hd hcs ok h hs hH;rcases aj with rfl|⟨hne,rfl⟩
 · go_enter func24,ntmps24;go_wp2_with fail;refine HT.o.mono ?_;rintro e w1 ⟨A1,c1,rfl,aa,ae⟩;have ai:=zEG A1 c1 w1.heap.size z w1 (Za _) (Sl.of_own aa) (by omega) HC.o (HH.o.next ae);have HE:=hy' ai;have af:=hy' ae;clear aa ae ai;go_wp2_with fail;refine HE.o.mono ?_;rintro e w2 ⟨rfl,ak⟩;have ap:=hy' (af.o.trans (ak.mono af.o.size));clear ak;go_wp2_with fail;go_ret2;exact⟨rfl,ap.o⟩
 have aq:=hy' hne;have ao:(e == 0)=false:=by simpa using hne
 clear hne;go_enter func24,ntmps24;go_wp2_with fail;refine HT.o.mono ?_;rintro e w1 ⟨A1,c1,rfl,aa,ae⟩;have af:=hy' ae;clear aa ae;go_wp2_with fail;go_ret2;exact⟨rfl,af.o⟩
section
variable {T:List Rw.Row} {S:List Int}
theorem Nf.fl_app (l m:List Int):Nf.fl T (l++m)=Nf.fl T l++Nf.fl T m:=by unfold Nf.fl;exact List.flatMap_append
theorem Nf.fl_one (c:Int):Nf.fl T [c]=Ud.full T c:=by unfold Nf.fl;simp
theorem zC1 (c:Int) (l:List Int):Nf.fl T (c::l)=Ud.full T c++Nf.fl T l:=by unfold Nf.fl;exact List.flatMap_cons
theorem zQY (ok:Ud.Ok T S) (l:List Int):∀x∈Nf.fl T l,Md.mp T x=[]:=fun x hx=>by
 unfold Nf.fl at hx;obtain⟨c,_,h⟩:=List.mem_flatMap.1 hx;exact zKA ok c x h
theorem zJV (ok:Ud.Ok T S) {l:List Int} (h:∀x∈l,Md.mp T x=[]):Nf.fl T l=l:=by
 induction l with
 | nil=>rfl
 | cons c l ih=>rw[zC1,zFc ok (h c Zq),ih fun x hx=>h x (Zv _ hx)];rfl
theorem zFO (ok:Ud.Ok T S) (l:List Int):∀x∈Nf.chars T l,Md.mp T x=[]:=fun x hx=>zQY ok l x ((zPD _ _ x).1 hx)
theorem zKF (ok:Ud.Ok T S) (l:List Int):∀x∈Nf.chars T l,Ud.full T x=[x]:=fun x hx=>zFc ok (zFO ok l x hx)
theorem zIH (ok:Ud.Ok T S) (l:List Int):Nf.fl T (Nf.chars T l)=Nf.chars T l:=zJV ok (zFO ok l)
theorem zNf (ok:Ud.Ok T S) (l:List Int):Or.inB (Md.cls T) 0 (Nf.chars T l)=true:=zNY (fun x=>(zDE ok x).1) _
theorem Nf.chars_chars (ok:Ud.Ok T S) (l:List Int):Nf.chars T (Nf.chars T l)=Nf.chars T l:=by
 show Or.of _ (Nf.fl T (Nf.chars T l))=_;rw[zIH ok];unfold Nf.chars;exact zNW _ _
theorem zOb {l m:List Int}:Or.Q (Md.cls T) (Nf.fl T l) (Nf.fl T m)↔Nf.chars T l=Nf.chars T m:=zQI
theorem zEJ {l l' m m':List Int} (h:Nf.chars T l=Nf.chars T l') (h':Nf.chars T m=Nf.chars T m'):Nf.chars T (l++m)=Nf.chars T (l'++m'):=by
 rw[←zOb]at *;rw[Nf.fl_app,Nf.fl_app];exact h.app h'
theorem zQA (ok:Ud.Ok T S) (l m:List Int):Nf.chars T (Nf.chars T l++m)=Nf.chars T (l++m):=zEJ (Nf.chars_chars ok l) rfl
theorem zRj (ok:Ud.Ok T S) (a b:List Int) {c:Int} (hc:Md.mp T c≠[]):Nf.chars T (a++(Md.mp T c++b))=Nf.chars T (a++c::b):=by
 have:Nf.fl T (Md.mp T c)=Nf.fl T [c]:=by rw[Nf.fl_one,zHi ok hc];rfl
 refine zEJ rfl ?_;show Nf.chars T (Md.mp T c++b)=Nf.chars T ([c]++b);refine zEJ ?_ rfl;unfold Nf.chars;rw[this]
theorem zQZ (ok:Ud.Ok T S) (a b:List Int) {x y:Int} (hx:0<Md.cls T x) (hy:0<Md.cls T y) (aa:Md.cls T x≠Md.cls T y) (mx:Md.mp T x=[]) (my:Md.mp T y=[]):Nf.chars T (a++y::x::b)=Nf.chars T (a++x::y::b):=by
 rw[←zOb,Nf.fl_app,Nf.fl_app,zC1,zC1,zC1,zC1,zFc ok mx,zFc ok my];exact Or.Q.swap hy hx (fun h=>aa h.symm) _ _
theorem zR0 (l m:List Int):(Nf.chars T (l++m)).length=(Nf.chars T l).length+(Nf.chars T m).length:=by
 unfold Nf.chars;rw[zEs,zEs,zEs,Nf.fl_app,Zd]
theorem zOc (ok:Ud.Ok T S):∀l:List Int,l.length≤(Nf.fl T l).length
 | []=>Za _
 | c::l=>by
   have h1:=zOc ok l;have h2:=List.length_pos_iff.2 (zJS ok c);rw[zC1,Zd,ZF];omega
theorem zRF (ok:Ud.Ok T S) (l:List Int):l.length≤(Nf.chars T l).length:=by
 have:=zOc ok l;unfold Nf.chars;rw[zEs];exact this
theorem zSe (ok:Ud.Ok T S) (l:List Int):Nf.chars T l=l↔(∀x∈l,Md.mp T x=[])∧Or.inB (Md.cls T) 0 l=true:=by
 constructor
 · intro h;exact⟨fun x hx=>zFO ok l x (by rw[h];exact hx),by have:=zNf ok l;rw[h]at this;exact this⟩
 rintro⟨h1,h2⟩;unfold Nf.chars;rw[zJV ok h1];exact (zPE (fun x=>(zDE ok x).1) l).1 h2
def zC6 (T:List Rw.Row) (S:List Int) (l:List Int):List Int:=Nc.join (Md.cls T) (Nc.j T S) l
def Nc.chars (T:List Rw.Row) (S:List Int) (l:List Int):List Int:=zC6 T S (Nf.chars T l)
theorem zOd (ok:Ud.Ok T S) (l:List Int):Nf.chars T (Nc.chars T S l)=Nf.chars T l:=by
 have h:=zPF (Nc.fit ok) (zKF ok l);have h2:=h.of;have e:Or.of (Md.cls T) (Nf.chars T l)=Nf.chars T l:=by unfold Nf.chars;exact zNW _ _
 rw[e]at h2;exact h2.symm
theorem zFP {l m:List Int} (h:Nf.chars T l=Nf.chars T m):Nc.chars T S l=Nc.chars T S m:=by unfold Nc.chars;rw[h]
theorem Nc.chars_chars (ok:Ud.Ok T S) (l:List Int):Nc.chars T S (Nc.chars T S l)=Nc.chars T S l:=zFP (zOd ok l)
theorem zRk (ok:Ud.Ok T S) (l:List Int):Nc.chars T S (Nf.chars T l)=Nc.chars T S l:=zFP (Nf.chars_chars ok l)
theorem Nc.chars_len (ok:Ud.Ok T S) (l:List Int):(Nc.chars T S l).length≤(Nf.chars T l).length∧(Nf.chars T l≠[]→0<(Nc.chars T S l).length):=zI1 _
theorem zRl (ok:Ud.Ok T S) (l m:List Int):Nf.chars T l=Nf.chars T m↔Nc.chars T S l=Nc.chars T S m :=
 ⟨zFP,fun h=>by rw[←zOd ok l,←zOd ok m,h]⟩
def Sp.head (T:List Rw.Row) (c:Int):Int:=(Ud.full T c).headD 0
def Sp.start (T:List Rw.Row) (c:Int):Bool:=decide (Md.cls T (Sp.head T c)=0)
def zKG (T:List Rw.Row) (S:List Int) (c:Int):Bool:=C.isC c&&(Sp.start T c&&!Nc.sec T S (Sp.head T c))
theorem zDm (ok:Ud.Ok T S) (c:Int):∃M,Ud.full T c=Sp.head T c::M:=by
 unfold Sp.head;cases h:Ud.full T c with
 | nil=>exact absurd h (zJS ok c)
 | cons a M=>exact⟨M,rfl⟩
theorem Nf.chars_cut (ok:Ud.Ok T S) {c:Int} (hc:Sp.start T c=true) (a b:List Int):Nf.chars T (a++c::b)=Nf.chars T a++Nf.chars T (c::b):=by
 obtain⟨M,hM⟩:=zDm ok c;unfold Sp.start at hc;have h0:=YI hc;unfold Nf.chars;rw[Nf.fl_app,zC1,hM,Zo,zLg (by omega)]
theorem Nc.chars_cut (ok:Ud.Ok T S) {c:Int} (hc:zKG T S c=true) (a b:List Int):Nc.chars T S (a++c::b)=Nc.chars T S a++Nc.chars T S (c::b):=by
 unfold zKG at hc;simp only[Zs,Yr]at hc;obtain⟨_,hs,hn⟩:=hc;obtain⟨M,hM⟩:=zDm ok c;unfold Nc.chars;rw[Nf.chars_cut ok hs];have h0:Md.cls T (Sp.head T c)=0:=by unfold Sp.start at hs;exact of_decide_eq_true hs
 have e:Nf.chars T (c::b)=Sp.head T c::Or.of (Md.cls T) (M++Nf.fl T b):=by
  unfold Nf.chars;rw[zC1,hM,Zo,zOn (by omega)]
 rw[e];exact zMy h0 (fun x=>zNa ok hn x) _ _
end
theorem zSf {T:List Rw.Row} {S:List Int} (h:Ud.Ok T S) {c d:Int} (hd:d∈Md.mp T c):C.isC d=true:=by
 unfold Md.mp at hd;split at hd
 · rename_i hp;rw[zCs]at hp;simp only[Zm]at hp;have hk:=zF3 c;have aa:zA2 c=4∨zA2 c=5:=by omega
   have hs:=zAt c aa;rcases aa with h4|h5
   · rw[zAN c h4]at hd;simp only[Xd,Z6,QP]at hd;unfold C.isC;simp only[Zm];omega
   rw[zAT c h5]at hd;simp only[Xd,Z6,QP]at hd;unfold C.isC;simp only[Zm];omega
 unfold zAS at hd;cases hf:Md.find T c with
 | none=>rw[hf]at hd;simp at hd
 | some r =>
   rw[hf]at hd;exact ((h.good r (zAq hf).1).2.2.2.2.2 d (by simpa using hd)).1
theorem zDL {z:List Int} (h:∀c∈z,U.isC c=true):zKa (zBc z).data.toList z []:=by
 rw[zIB h];exact⟨by simp,h,rfl⟩
theorem zFQ {z:List Int} (h:∀c∈z,U.isC c=true):(zBc z).size≤4*z.length:=by
 rw[zIB h];have:=zIA z;show (zAx z).toArray.size≤_;simpa using this
theorem zRW {x y:List Int} (hx:∀c∈x,U.isC c=true) (hy:∀c∈y,U.isC c=true) (h:zBc x=zBc y):x=y :=
 (zGZ (zDL hx) (h▸zDL hy)).1
theorem zRG (A:Option Addr) (n cap:Nat) (l:List Int) (w:World) (hn:l.length=n) (hl:n≤100000000) (hA:Sl w w.heap.size A (l.map (Value.int .i64))) (hb:∀c∈l,U.isC c=true) :
 Calls prog 18 #[.slice A n cap] w fun e w'=>e=.returned (.string (zBc l))∧Below w.heap.size w w':=by
 have:=zKz A cap w.heap.size l w (Za _) hA (by omega) hb;rw[hn]at this;rw[zIB hb];exact this
section
variable (v:Value) (T:List Rw.Row) (S:List Int) (z:List Int) (w:World) (ok:Ud.Ok T S) (h:Ud.Is w v T S) (hH:Heads w) (hz:∀c∈z,C.isC c=true) (hl:z.length≤3000) (hf:(Nf.fl T z).length≤1024)
include ok h hH hz hl hf
theorem Nf.of_chars:Calls prog 24 #[v,.string (zBc z)] w fun e w'=>e=.returned (.tuple #[.string (zBc (Nf.chars T z)),.int .i64 0])∧Below w.heap.size w w':=by
 have:=Nf.of_any v T S (zBc z) w ok h (by have:=zFQ hz;omega) hH z [] (zDL hz) hl;rw[zKD hf,zKE hf]at this;exact this
end
theorem Nf.fl_30 {T:List Rw.Row} {S:List Int} (ok:Ud.Ok T S) {z:List Int} (h:z.length≤32):(Nf.fl T z).length≤1024:=by
 have:=zFb (fun c=>zBt ok c) z;omega
theorem Nf.fl_ch {T:List Rw.Row} {S:List Int} (ok:Ud.Ok T S) {z:List Int} (h:(Nf.fl T z).length≤1024):(Nf.fl T (Nf.chars T z)).length≤1024:=by
 rw[zIH ok,Nf.chars_len];exact h
theorem zP9 {T:List Rw.Row} {S:List Int} (ok:Ud.Ok T S) {s:Nc.St} {c:Int} (hs:∀x∈s.out,C.isC x=true) (hc:C.isC c=true):∀x∈(Nc.put (Md.cls T) (Nc.j T S) s c).out,C.isC x=true:=by
 unfold Nc.put;cases h:Nc.hit (Md.cls T) (Nc.j T S) s c with
 | none =>
   intro x hx;simp only[zAl]at hx;rcases List.mem_append.1 hx with h|h
   · exact hs x h
   rw[Zp]at h;rw[h];exact hc
 | some p =>
   obtain⟨b,hb,hj,_⟩:=zBC h;intro x hx;simp only[zCO hb]at hx;rcases List.mem_or_eq_of_mem_set hx with h|h
   · exact hs x h
   rw[h];exact (zIE ok hj).2.2.2
theorem zFd {T:List Rw.Row} {S:List Int} (ok:Ud.Ok T S):∀(l:List Int) (s:Nc.St),(∀x∈s.out,C.isC x=true)→(∀c∈l,C.isC c=true)→∀x∈(Nc.run (Md.cls T) (Nc.j T S) s l).out,C.isC x=true
 | [],s,hs,_=>hs
 | c::l,s,hs,hl=>zFd ok l (Nc.put (Md.cls T) (Nc.j T S) s c) (zP9 ok hs (hl c Zq)) fun x hx=>hl x (Zv _ hx)
theorem zHm {T:List Rw.Row} {S:List Int} (ok:Ud.Ok T S) {l:List Int} (h:∀c∈l,C.isC c=true):∀x∈zC6 T S l,C.isC x=true :=
 zFd ok l Nc.s0 (fun x hx=>by cases hx) h
theorem Nc.run_snoc {f:Int→Int} {j:Int→Int→Option Int} {l:List Int} {k:Nat} {x:Int} (hx:l[k]?=some x):Nc.run f j Nc.s0 (l.take (k+1))=Nc.put f j (Nc.run f j Nc.s0 (l.take k)) x:=by
 rw[ZA,hx];exact Nc.run_app Nc.s0 (l.take k) [x]
theorem zOe {s:Nc.St} {x:Int} (h:s.b=some x):x∈s.out:=Zk (zD3 h)
theorem zNg (v:Value) (T:List Rw.Row) (S:List Int) (A:Option Addr) (n c:Nat) (l:List Int) (w:World) (ok:Ud.Ok T S) (h:Ud.Is w v T S) (hl:l.length=n) (hn:n≤100000) (ak:∀x∈l,C.isC x=true) (hA:Sl w w.heap.size A (l.map (Value.int .i32))) :
 Calls prog 48 #[v,.slice A n c] w (Md.RetOwn (zC6 T S l) w):=by
 obtain⟨pb,rfl,hpb⟩:=h.form;have ax:Hy (∀(s:Nc.St) (x:Int) (W:World),Below w.heap.size w W→Nc.In W w.heap.size (.pointer (some ⟨pb,0,none⟩)) (Md.cls T) s→C.isC x=true→s.out.length≤100000→(∀y∈s.out,C.isC y=true)→Calls prog 82 #[.pointer (some ⟨w.heap.size,0,none⟩),.int .i32 x] W fun e w'=>e=.returned (.tuple #[])∧Nc.In w' w.heap.size (.pointer (some ⟨pb,0,none⟩)) (Md.cls T) (Nc.put (Md.cls T) (Nc.j T S) s x)∧Below w.heap.size W w'):=hy' fun s x W hW hI hx hs hsc=>Nc.put_any w.heap.size _ T S s x W ok (h.below hW) hI (Nf.isC_i32 hx).1 (Nf.isC_i32 hx).2 hs (fun y hy=>Nf.isC_i32 (hsc y (zOe hy)))
 have au:=hy' (fun k=>zFd ok (l.take k) Nc.s0 (fun x hx=>by cases hx) (fun c hc=>ak c (Yd hc)));obtain⟨f,hf⟩:∃f,Md.cls T=f:=⟨_,rfl⟩;obtain⟨j,hj⟩:∃j,Nc.j T S=j:=⟨_,rfl⟩;have ay:zC6 T S l=(Nc.run f j Nc.s0 l).out:=by rw[←hf,←hj];rfl
 rw[ay];rw[hf,hj]at ax;rw[hf,hj]at au;obtain⟨wa,aj⟩:∃wa,w.alloc (.cells #[.pointer (some ⟨pb,0,none⟩),.slice none 0 0,.int .i64 (-1),.int .i64 (-1)] 152)=wa:=⟨_,rfl⟩;have a1:Below w.heap.size w wa:=by rw[←aj];exact (Zc _ _).alloc (Za _) _
 have ae:Nc.In wa w.heap.size (.pointer (some ⟨pb,0,none⟩)) f Nc.s0:=by
  refine⟨none,0,?_,ZI _ _ _ _⟩;rw[←aj];exact Rw.At.new w 152 [.pointer (some ⟨pb,0,none⟩),.slice none 0 0,.int .i64 (-1),.int .i64 (-1)]
 have bc:=hy' aj;have ba:=hy' a1;have a6:=hy' ae;have HL:=hy' hl;have a7:=hy' ak;have HA:=hy' hA;clear aj a1 ae hl ak hA h ok hf hj ay hpb;go_enter func48,ntmps48;go_upto_region 2 with (fail)
 rw[bc.o];go_wp2_with fail;go_loopw [7,13] (fun _ i wr=>∃(k:Nat),k≤n∧i=.int .i64 k∧Nc.In wr w.heap.size (.pointer (some ⟨pb,0,none⟩)) f (Nc.run f j Nc.s0 (l.take k))∧Below w.heap.size w wr) (fun _ i _=>n-(intOf i).toNat)
 case atStart=>exact⟨0,ZG _,rfl,a6.o,ba.o⟩
 obtain⟨k,hk,rfl,ae,aa⟩:=hrel
 by_cases hlt:k<n
 · obtain⟨x,hx⟩:∃x,l[k]?=some x:=⟨_,Zb (by rw[HL.o];exact hlt)⟩;have av:=a7.o x (Zk hx);obtain⟨ab,ao,hA2,bh,az⟩:=HA.o.below aa aa.size (by rw[Ze,HL.o];omega);have hc:=az k (by rw[Ze,HL.o];exact hlt);rw[Zw,hx,Zx]at hc;have ag:=Nc.run_snoc (f:=f) (j:=j) hx;have hlen:=(Nc.run_len (f:=f) (j:=j) (l.take k) Nc.s0).2.1;rw[Zr,HL.o]at hlen;have bg:Nc.s0.out.length=0:=rfl;have bb:=hy' (ax.o _ x wr aa ae av (by omega) (au.o k));have ar:=hy' ag;have aq:=hy' aa;have kI:(k:Int)<n:=by omega
   have k0:(0:Int)≤k:=by omega
   subst hA2;clear hx av az ag hlen ae aa bg;go_wp2_with fail;refine bb.o.mono ?_;rintro e w1 ⟨rfl,ah,aw⟩;have ap:=hy' ah;have a8:=hy' (aq.o.trans aw);clear ah aw;go_wp2_with fail;exact⟨⟨k+1,by omega,by first|rfl|go_num,by rw[ar.o];exact ap.o,a8.o⟩,by simp[intOf];omega⟩
 obtain rfl:k=n:=by omega
 rw[Zi (by rw[HL.o];exact Za _)]at ae;obtain⟨s,hs⟩:∃s,Nc.run f j Nc.s0 l=s:=⟨_,rfl⟩;rw[hs]at ae;have bf:=hy' hs;obtain⟨A4,c4,ai,af⟩:=ae;obtain⟨sn,ag⟩:∃q,s.out.length=q:=⟨_,rfl⟩;rw[ag]at ai af;have kI:¬(k:Int)<k:=by omega
 have z1:=ai.cell 1 rfl;have zl:=ai.lt;have HO:=hy' (zB0 af (ZW _));have HB:=hy' aa;have ar:=hy' ag;clear ai af aa hs ag;go_wp2_with fail;go_ret;unfold Md.RetOwn;rw[bf.o,ar.o];exact⟨_,_,rfl,HO.o,HB.o⟩
def Nc.tl (T:List Rw.Row) (S:List Int) (cs:List Int) (r:List UInt8):List Int:=zC6 T S (Nf.tl T cs r)
theorem Nc.of_any (v:Value) (T:List Rw.Row) (S:List Int) (s:ByteArray) (w:World) (ok:Ud.Ok T S) (h:Ud.Is w v T S) (hs:s.size≤1000000000000) (hH:Heads w) (cs:List Int) (r:List UInt8) (hd:zKa s.data.toList cs r) (hcs:cs.length≤3000) :
 Calls prog 25 #[v,.string s] w fun e w'=>e=.returned (.tuple #[.string (zBc (Nc.tl T S cs r)),.int .i64 (Nf.tn T cs r)])∧Below w.heap.size w w':=by
 have ak:=Nf.of_any v T S s w ok h hs hH cs r hd hcs
 have aa:∀c∈Nf.tl T cs r,C.isC c=true:=by
  unfold Nf.tl;split
  · exact Nf.chars_isC ok hd.2.1
  simp
 have hlen:(Nf.tl T cs r).length≤96000:=by
  unfold Nf.tl;split
  · have:=Nf.chars_le ok cs;omega
  simp
 have aq:Nf.tn T cs r=0∨(Nf.tn T cs r≠0∧Nf.tl T cs r=[]):=by
  unfold Nf.tn Nf.tl
  by_cases h1:r=[]
  · by_cases h2:(Nf.fl T cs).length≤1024
    · left;rw[Zl h1,Zl h2]
    right;rw[Zl h1,Zj h2,Zj (fun g=>h2 g.2)];exact⟨by decide,rfl⟩
  right;rw[Zj h1,Zj (fun g=>h1 g.1)];exact⟨by decide,rfl⟩
 unfold Nc.tl;obtain⟨z,hz⟩:∃z,Nf.tl T cs r=z:=⟨_,rfl⟩;obtain⟨e,he⟩:∃e,Nf.tn T cs r=e:=⟨_,rfl⟩;rw[hz,he]at ak aq;rw[hz]at aa hlen ⊢;rw[he];obtain⟨zn,ag⟩:∃q,z.length=q:=⟨_,rfl⟩;have ai:=zHm ok (S:=S) aa;have ao:(zC6 T S z).length≤z.length:=(zI1 _).1;obtain⟨R,hR⟩:∃R,zC6 T S z=R:=⟨_,rfl⟩;obtain⟨rn,ah⟩:∃q,R.length=q:=⟨_,rfl⟩;rw[hR]at ai ao;rw[ag]at hlen;rw[ah,ag]at ao
 have aw:Hy (∀W,Below w.heap.size w W→Calls prog 47 #[.string (zBc z)] W fun e w'=>∃A' c',e=.returned (.tuple #[.slice A' zn c',.int .i64 0])∧Sl w' w'.heap.size A' (z.map (Value.int .i32))∧Below W.heap.size W w'):=hy' fun W hW=>by
  refine (zHf (zBc z) W (by have:=zFQ aa;omega) (hH.next hW) z [] (zDL aa)).mono ?_;rintro e w' ⟨A',c',rfl,ho,hb⟩;rw[show zJQ z []=z from rfl,show zO9 []=0 from rfl]at *;rw[ag]at ho ⊢;exact⟨A',c',rfl,Sl.of_own ho,hb⟩
 have HJ:Hy (∀A' c' W,Below w.heap.size w W→Sl W W.heap.size A' (z.map (Value.int .i32))→Calls prog 48 #[v,.slice A' zn c'] W fun e w'=>∃A' c',e=.returned (.slice A' rn c')∧Sl w' w'.heap.size A' (R.map (Value.int .i32))∧Below W.heap.size W w'):=hy' fun A' c' W hW ap=>by
  refine (zNg v T S A' zn c' z W ok (h.below hW) ag (by omega) aa ap).mono ?_;rintro e w' ⟨A',c',rfl,ho,hb⟩;rw[hR,ah]at ho ⊢;exact⟨A',c',rfl,Sl.of_own ho,hb⟩
 have ax:Hy (∀A' c' W,Below w.heap.size w W→Sl W W.heap.size A' (R.map (Value.int .i32))→Calls prog 46 #[.slice A' rn c'] W fun e w'=>e=.returned (.tuple #[.string (zBc R),.int .i64 0])∧Below W.heap.size W w'):=hy' fun A' c' W hW ap=>by
  have:=zEG A' c' W.heap.size R W (Za _) ap (by omega) (fun x hx=>Nf.isC_i32 (ai x hx)) (hH.next hW);rw[ah,zQa ai]at this;exact this
 obtain⟨sR,aj⟩:∃q,zBc R=q:=⟨_,rfl⟩;obtain⟨sz,a6⟩:∃q,zBc z=q:=⟨_,rfl⟩
 have ba:e≠0→sR=⟨#[]⟩:=fun hne=>by
  rcases aq with h0|⟨_,h0⟩
  · exact absurd h0 hne
  subst h0;rw[←aj,←hR];rfl
 rw[hR,aj];rw[aj]at ax;rw[a6]at aw ak
 have ar:e=0∨(e≠0∧sR=⟨#[]⟩):=by
  by_cases h0:e=0
  · exact .inl h0
  exact .inr ⟨h0,ba h0⟩
 obtain⟨pb,rfl,_⟩:=h.form;have HO:=hy' ak;clear ak aa hlen aq hz he ag ai hR ao ah aj a6 ba hd hcs ok h hs hH;rcases ar with rfl|⟨hne,rfl⟩
 · go_enter func25,ntmps25;go_wp2_with fail;refine HO.o.mono ?_;rintro e w1 ⟨rfl,af⟩;have ae:=hy' af;clear af;go_wp2_with fail;refine (aw.o w1 ae.o).mono ?_;rintro e w2 ⟨A2,c2,rfl,a7,az⟩;have bc:=hy' a7;have au:=hy' (ae.o.trans (az.mono ae.o.size));clear a7 az;go_wp2_with fail;refine (HJ.o A2 c2 w2 au.o bc.o).mono ?_;rintro e w3 ⟨A3,c3,rfl,a8,ay⟩;have bg:=hy' a8;have av:=hy' (au.o.trans (ay.mono au.o.size));clear a8 ay;go_wp2_with fail;refine (ax.o A3 c3 w3 av.o bg.o).mono ?_;rintro e w4 ⟨rfl,a1⟩;have bf:=hy' (av.o.trans (a1.mono av.o.size));clear a1;go_wp2_with fail;go_ret2;exact⟨rfl,bf.o⟩
 have bb:(e == 0)=false:=by simpa using hne
 clear hne;go_enter func25,ntmps25;go_wp2_with fail;refine HO.o.mono ?_;rintro e w1 ⟨rfl,af⟩;have ae:=hy' af;clear af;go_wp2_with fail;go_ret2;exact⟨rfl,ae.o⟩
theorem Nc.chars_isC {T:List Rw.Row} {S:List Int} (ok:Ud.Ok T S) {l:List Int} (h:∀c∈l,C.isC c=true):∀x∈Nc.chars T S l,C.isC x=true:=zHm ok (Nf.chars_isC ok h)
theorem Nc.chars_le {T:List Rw.Row} {S:List Int} (ok:Ud.Ok T S) (l:List Int):(Nc.chars T S l).length≤(Nf.fl T l).length:=by
 rw[←Nf.chars_len];exact (Nc.chars_len ok l).1
theorem Nc.fl_ch {T:List Rw.Row} {S:List Int} (ok:Ud.Ok T S) {z:List Int} (h:(Nf.fl T z).length≤1024):(Nf.fl T (Nc.chars T S z)).length≤1024:=by
 rw[←Nf.chars_len,zOd ok,Nf.chars_len];exact h
section
variable (v:Value) (T:List Rw.Row) (S:List Int) (z:List Int) (w:World) (ok:Ud.Ok T S) (h:Ud.Is w v T S) (hH:Heads w) (hz:∀c∈z,C.isC c=true) (hl:z.length≤3000) (hf:(Nf.fl T z).length≤1024)
include ok h hH hz hl hf
theorem Nc.of_chars:Calls prog 25 #[v,.string (zBc z)] w fun e w'=>e=.returned (.tuple #[.string (zBc (Nc.chars T S z)),.int .i64 0])∧Below w.heap.size w w':=by
 have:=Nc.of_any v T S (zBc z) w ok h (by have:=zFQ hz;omega) hH z [] (zDL hz) hl;unfold Nc.tl at this;rw[zKD hf,zKE hf]at this;exact this
end
end Go.Proofs.YthngjlllojiacaaGreatDoor
