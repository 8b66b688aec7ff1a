/- The layer stream: byte, fail, take, Write, End, Waits, New, by walking their texts. -/
import Derived.Test.YtdbpjmfflofadaaGreatDoorSmChar
import Derived.Laws.EntriesVeiled
set_option maxRecDepth 100000
set_option maxHeartbeats 2000000
set_option linter.unusedVariables false
set_option linter.unusedSimpArgs false
set_option linter.unusedSectionVars false
namespace Go.Proofs.YtdbpjmfflofadaaGreatDoor
open Go.Proofs.Tryz
open Go.RowKit
theorem zQn (g:List UInt8) (β:UInt8):(⟨g.toArray⟩++⟨#[β]⟩:ByteArray)=⟨(g++[β]).toArray⟩:=by
 apply Xw
 simp[ByteArray.data_append]
section
variable (v:Value) (T:List Rw.Row) (S:List Int) (fv:Value) (w0:World) (g:Nat) (ok:Ud.Ok T S) (his:Ud.Is w0 v T S) (hH:Heads w0) (hg:w0.heap.size≤g)
include ok his hH hg
section
theorem zOu (s:Sm.St) (β:UInt8) (w:World) (hw:Below w0.heap.size w0 w) (hs:Sm.Ok (Sm.fl T) s) (ak:Sm.At w g v fv s) :
 Calls prog 30 #[.pointer (some ⟨g,0,none⟩),.string ⟨#[β]⟩] w fun e w'=>e=.returned (.int .i64 (Sm.byte (zA7 T S) (Sm.fl T) s β).e)∧w.grownBy w' (some g)∧((Sm.byte (zA7 T S) (Sm.fl T) s β).e=0→Sm.At w' g v fv (Sm.byte (zA7 T S) (Sm.fl T) s β))∧∃a1 a2 a3 a4 a5,Rw.At w' g 67 [v,fv,a1,a2,a3,a4,a5]:=by
 obtain⟨sg,aj⟩:∃q:ByteArray,(⟨(s.g++[β]).toArray⟩:ByteArray)=q:=⟨_,rfl⟩;have bu:sg.size≤4:=by rw[←aj];show (s.g++[β]).length≤4;rw[Zc,Z8];have:=hs.gl;omega
 have bj:sg.size=s.g.length+1:=by rw[←aj];show (s.g++[β]).length=_;rw[Zc,Z8]
 have ba:sg.data.toList=s.g++[β]:=by rw[←aj]
 have b1:Hy (∀W,Below w0.heap.size w0 W→Calls prog 63 #[.string sg] W fun e w'=>e=.returned (.tuple #[.int .i32 (zAw (s.g++[β])).1,.int .i64 (zAw (s.g++[β])).2.1,.bool (zAw (s.g++[β])).2.2])∧Below W.heap.size W w'):=hy' fun W hW=>by
  have:=zFo sg W (by simp only[maxLen];omega) (hH.next hW);rw[ba]at this;exact this
 have bq:Hy (∀W,Below w0.heap.size w0 W→Calls prog 65 #[.string sg] W fun e w'=>e=.returned (.bool (zDe (s.g++[β])))∧Below W.heap.size W w'):=hy' fun W hW=>by
  have:=zQm sg W (by omega) (hH.next hW);rw[ba]at this;exact this
 have aa:(∃c,zAe (s.g++[β])=some (c,s.g.length+1)∧U.isC c=true∧zAp c=s.g++[β]∧Sm.byte (zA7 T S) (Sm.fl T) s β=Sm.char (zA7 T S) (Sm.fl T) ⟨s.z,s.k,[],s.n,0⟩ c)∨(zAe (s.g++[β])=none∧Sm.byte (zA7 T S) (Sm.fl T) s β=if zDe (s.g++[β])=true then ⟨s.z,s.k,s.g++[β],s.n,0⟩ else Sm.bad 6):=by
  cases hn:zAe (s.g++[β]) with
  | some q =>
    obtain⟨c,m⟩:=q;obtain⟨h1,h2⟩:=zJq hs.g hn;left
    refine⟨c,by rw[h1],h2,?_,?_⟩
    · obtain⟨_,_,h3,_,h5,_⟩:=zEd _ _ _ hn;rw[h5,Zi (by rw[Zc,Z8];omega)]
    unfold Sm.byte;rw[hn];unfold Sm.char;rfl
  | none =>
    right
    refine⟨rfl,?_⟩;unfold Sm.byte;rw[hn]
 have au:Sm.Ok (Sm.fl T) ⟨s.z,s.k,[],s.n,0⟩:=⟨rfl,hs.z,hs.k,rfl,by simp,hs.n,hs.zn⟩
 have bh:Hy (∀(c:Int) W,Below w0.heap.size w0 W→U.isC c=true→zAp c=s.g++[β]→Sm.At W g v fv ⟨s.z,s.k,[],s.n,0⟩→Calls prog 64 #[.pointer (some ⟨g,0,none⟩),.int .i32 c,.string sg] W fun e w'=>e=.returned (.int .i64 (Sm.char (zA7 T S) (Sm.fl T) ⟨s.z,s.k,[],s.n,0⟩ c).e)∧W.grownBy w' (some g)∧((Sm.char (zA7 T S) (Sm.fl T) ⟨s.z,s.k,[],s.n,0⟩ c).e=0→Sm.At w' g v fv (Sm.char (zA7 T S) (Sm.fl T) ⟨s.z,s.k,[],s.n,0⟩ c))∧∃a1 a2 a3 a4 a5,Rw.At w' g 67 [v,fv,a1,a2,a3,a4,a5]):=hy' fun c W hW hc he hA=>by
  have:=Sm.char_any v T S fv w0 g ok his hH hg ⟨s.z,s.k,[],s.n,0⟩ c W hW au rfl hc hA;rw[he,aj]at this;exact this
 have ag:(⟨s.g.toArray⟩++⟨#[β]⟩:ByteArray)=sg:=by rw[zQn,aj]
 have af:Sm.cells v fv s=[v,fv,.string (zA5 s.z),.int .i64 ((zA5 (s.z.take s.k)).size:Nat),.string ⟨s.g.toArray⟩,.int .i64 (s.n:Nat),.int .i64 0]:=by unfold Sm.cells;rw[hs.e]
 have ah:Sm.cells v fv ⟨s.z,s.k,[],s.n,0⟩=[v,fv,.string (zA5 s.z),.int .i64 ((zA5 (s.z.take s.k)).size:Nat),.string ⟨#[]⟩,.int .i64 (s.n:Nat),.int .i64 0]:=rfl;have ai:Sm.cells v fv ⟨s.z,s.k,s.g++[β],s.n,0⟩=[v,fv,.string (zA5 s.z),.int .i64 ((zA5 (s.z.take s.k)).size:Nat),.string sg,.int .i64 (s.n:Nat),.int .i64 0]:=by unfold Sm.cells;rw[aj]
 obtain⟨sz,bo⟩:∃q,Value.string (zA5 s.z)=q:=⟨_,rfl⟩;obtain⟨kz,bl⟩:∃q,Value.int .i64 (((zA5 (s.z.take s.k)).size:Nat):Int)=q:=⟨_,rfl⟩;obtain⟨sn,bi⟩:∃q,Value.int .i64 ((s.n:Nat):Int)=q:=⟨_,rfl⟩;obtain⟨s0,bb⟩:∃q:ByteArray,(⟨s.g.toArray⟩:ByteArray)=q:=⟨_,rfl⟩;have a8:s0.size≤3:=by rw[←bb];exact hs.gl
 rw[bb]at ag af;unfold Sm.At at *;rw[bo,bl,bi]at af ah ai;rw[af]at ak;rw[ah]at bh;obtain⟨r,hr⟩:∃r,Sm.byte (zA7 T S) (Sm.fl T) s β=r:=⟨_,rfl⟩;rw[hr]at aa ⊢;obtain⟨pb,rfl,hpb⟩:=his.form;obtain⟨w1,aw⟩:∃w1,w.setCell ⟨g,4,none⟩ (.string sg)=w1:=⟨_,rfl⟩;have bc:w.grownBy w1 (some g):=by rw[←aw];exact Rw.grown_set _ _ _
 have a7:=ak.set 4 (.string sg);rw[aw]at a7;have ap:=hy' (zBT hw hg bc);have bk:=hy' bc;have av:=hy' a7;have bw:=hy' aw;have b6:=hy' ak;have ar:=hy' aa;have bn:=hy' ai;have bg:=hy' ag;have b4:=hy' bj;have HG:=hy' hg;have c4:=ak.cell 4 rfl;have cl:=ak.lt;have f4:=ak.frozen 4;have n1:¬9223372036854775807<s0.size+1:=by omega
 have b5:¬9223372036854775807<s0.size+(⟨#[β]⟩:ByteArray).size:=n1;clear ok his hH hg hs aj bu bj ba aa au af ah ai bo bl bi bb a8 hr hw bc a7 aw ak ag;go_enter func30,ntmps30;go_upto_region 2 with (fail)
 rw[bg.o,bw.o];clear c4 cl f4 n1 b5;have c4:=av.o.cell 4 rfl;have cl:=av.o.lt;go_wp2_with fail;refine (b1.o w1 ap.o).mono ?_;rcases ar.o with ⟨c,hn,hc,he,hr⟩|⟨hn,hr⟩
 · rw[zF2 hn];rintro e w2 ⟨rfl,hb⟩;have a6:=hy' (zA0 bk.o (zAo hb));have ae:=av.o.below hb;have bf:=hy' (ap.o.trans (hb.mono ap.o.size));have bp:=hy' he;have bz:=hy' hc;have az:=hy' hr;obtain⟨w3,aq⟩:∃w3,w2.setCell ⟨g,4,none⟩ (.string ⟨#[]⟩)=w3:=⟨_,rfl⟩;have ay:=ae.set 4 (.string ⟨#[]⟩);rw[aq]at ay;have ax:=hy' (zA0 a6.o (show w2.grownBy w3 (some g) by rw[←aq];exact Rw.grown_set _ _ _));have br:=hy' (zBT bf.o HG.o (show w2.grownBy w3 (some g) by rw[←aq];exact Rw.grown_set _ _ _));have ao:=hy' ay;have bx:=hy' aq;obtain⟨m,hm⟩:∃m,s.g.length+1=m:=⟨_,rfl⟩;have b2:sg.size=m:=by rw[b4.o,hm]
   rw[hm];subst b2;clear hb c4 cl hn he hc hr ay aq hm;have c4:=ae.cell 4 rfl;have cl:=ae.lt;have f4:=ae.frozen 4;have b3:((sg.size:Int) == sg.size)=true:=by simp
   clear ae;go_upto_region 6 with (fail)
   rw[bx.o];clear c4 cl f4 b3;go_wp2_with fail;refine (bh.o c w3 br.o bz.o bp.o ao.o).mono ?_;rintro e w4 ⟨rfl,bm,hA,hB⟩;have bt:=hy' (zA0 ax.o bm);have HA:=hy' hA;have HB:=hy' hB;clear bm hA hB;go_wp2_with fail;go_ret;rw[az.o];exact⟨rfl,bt.o,HA.o,HB.o⟩
 rw[zF3 hn];rintro e w2 ⟨rfl,hb⟩;have a6:=hy' (zA0 bk.o (zAo hb));have ae:=av.o.below hb;have bf:=hy' (ap.o.trans (hb.mono ap.o.size));have az:=hy' hr;clear hb c4 cl hn hr;have c4:=ae.cell 4 rfl;have cl:=ae.lt;have bs:=hy' ae;clear ae;go_wp2_with fail;refine (bq.o w2 bf.o).mono ?_;rintro e w3 ⟨rfl,hb⟩;have ax:=hy' (zA0 a6.o (zAo hb));have ao:=hy' (bs.o.below hb);obtain⟨q,hq⟩:∃q,zDe (s.g++[β])=q:=⟨_,rfl⟩;have hr:=az.o;rw[hq]at hr ⊢;clear hb c4 cl hq;cases q
 · have HR:=hy' hr;clear hr;go_wp2_with fail;go_ret;rw[HR.o];exact⟨rfl,ax.o,(fun e=>by cases e),_,_,_,_,_,ao.o⟩
 have HR:=hy' hr;clear hr;go_wp2_with fail;go_ret;rw[HR.o];refine⟨rfl,ax.o,(fun _=>?_),_,_,_,_,_,ao.o⟩
 first|rw[Zl rfl,bn.o]|rw[Zl trivial,bn.o]
 exact ao.o
omit ok his hH hg in
theorem zJv (pb:Nat) (fid:FuncId) (e1:Int) (a1 a2 a3 a4 a5:Value) (w:World) (ae:Rw.At w g 67 [.pointer (some ⟨pb,0,none⟩),.func (.func fid) #[] #[],a1,a2,a3,a4,a5]) :
 Calls prog 31 #[.pointer (some ⟨g,0,none⟩),.int .i64 e1] w fun e w'=>e=.returned (.int .i64 e1)∧w.grownBy w' (some g)∧Sm.At w' g (.pointer (some ⟨pb,0,none⟩)) (.func (.func fid) #[] #[]) (Sm.bad e1):=by
 have ag:=hy' ae
 have ao:Hy (∀W,Below w.heap.size w W→(∀x:Stg.Later Stg.Ex W,x.val.cell? ⟨g,0,none⟩=some (.pointer (some ⟨pb,0,none⟩)))∧(∀x:Stg.Later Stg.Ex W,x.val.cell? ⟨g,1,none⟩=some (.func (.func fid) #[] #[]))):=hy' fun W hW =>
  have hT:=ae.below hW
  ⟨Stg.cells (hT.cell 0 rfl) hT.lt,Stg.cells (hT.cell 1 rfl) hT.lt⟩
 have au:=hy' (Zd w.heap.size w).drew;clear ae;go_enter func31,ntmps31;go_upto_region 1 with (fail)
 refine Stg.wp_region (by kernel_rfl) Stg.Ex Stg.Ex.rel ?_
 (iterate 4 (refine Stg.readW (by kernel_rfl) ?_;intro K hK;go_big_quiet_op;go_big_quiet_on))
 obtain⟨f0,f1⟩:=ao.o w.drew au.o;refine Stg.read 0 (by kernel_rfl) w.drew rfl ?_;intro K hK;go_big_quiet_op;go_big_quiet_on
 (iterate 3 (refine Stg.readW (by kernel_rfl) ?_;intro K hK;go_big_quiet_op;go_big_quiet_on))
 refine Stg.read 0 (by kernel_rfl) w.drew rfl ?_;intro K hK;go_big_quiet_op;go_big_quiet_on
 (iterate 3 (refine Stg.readW (by kernel_rfl) ?_;intro K hK;go_big_quiet_op;go_big_quiet_on))
 have hq:=ag.o;have c0:=hq.cell 0 rfl;have ar:=hq.frozen 0;have c1:=hq.cell 1 rfl;have aj:=hq.frozen 1;have c2:=hq.cell 2 rfl;have ak:=hq.frozen 2;have c3:=hq.cell 3 rfl;have ai:=hq.frozen 3;have c4:=hq.cell 4 rfl;have aw:=hq.frozen 4;have c5:=hq.cell 5 rfl;have ap:=hq.frozen 5;have c6:=hq.cell 6 rfl;have av:=hq.frozen 6;have u0:=hq.lt;have ax:=hy' hq;clear hq;refine Stg.last (by kernel_rfl) w.drew rfl ?_;intro K hK;go_simp;obtain⟨q1,aa⟩:∃q1,(((((((w.setCell ⟨g,0,none⟩ (.pointer (some ⟨pb,0,none⟩))).setCell ⟨g,1,none⟩ (.func (.func fid) #[] #[])).setCell ⟨g,2,none⟩ (.string ⟨#[]⟩)).setCell ⟨g,3,none⟩ (.int .i64 0)).setCell ⟨g,4,none⟩ (.string ⟨#[]⟩)).setCell ⟨g,5,none⟩ (.int .i64 0)).setCell ⟨g,6,none⟩ (.int .i64 e1)).drew=q1:=⟨_,rfl⟩;rw[aa];refine hK _ _ ?_;intro A' ah;subst ah;clear c0 ar c1 aj c2 ak c3 ai c4 aw c5 ap c6 av u0;clear f0 f1;refine Stg.nil q1 rfl ?_;have ha:=((((((ag.o.set 0 (.pointer (some ⟨pb,0,none⟩))).set 1 (.func (.func fid) #[] #[])).set 2 (.string ⟨#[]⟩)).set 3 (.int .i64 0)).set 4 (.string ⟨#[]⟩)).set 5 (.int .i64 0)).set 6 (.int .i64 e1)
 have ha:Sm.At q1 g (.pointer (some ⟨pb,0,none⟩)) (.func (.func fid) #[] #[]) (Sm.bad e1):=by
  have hcs:Sm.cells (.pointer (some ⟨pb,0,none⟩)) (.func (.func fid) #[] #[]) (Sm.bad e1)=[.pointer (some ⟨pb,0,none⟩),.func (.func fid) #[] #[],.string ⟨#[]⟩,.int .i64 0,.string ⟨#[]⟩,.int .i64 0,.int .i64 e1]:=rfl;unfold Sm.At;rw[hcs,←aa];exact Rw.At.below ha (Zd _ _).drew
 have af:w.grownBy q1 (some g):=by
  rw[←aa];exact zA0 (zA0 (Rw.grown_set _ _ _) (zA0 (Rw.grown_set _ _ _) (zA0 (Rw.grown_set _ _ _) (zA0 (Rw.grown_set _ _ _) (zA0 (Rw.grown_set _ _ _) (zA0 (Rw.grown_set _ _ _) (Rw.grown_set _ _ _))))))) (zAo (Zd _ _).drew)
 have HA:=hy' ha;have aq:=hy' af;clear ha af aa;go_wp2_with fail;go_ret;exact⟨rfl,aq.o,HA.o⟩
end
end
end Go.Proofs.YtdbpjmfflofadaaGreatDoor
