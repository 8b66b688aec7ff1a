/- The layer stream: what a stream answers as a text comes piece by piece. -/
import Derived.Test.YtdbpjmfflofadaaGreatDoorSmEnd
set_option maxRecDepth 100000
set_option linter.unusedVariables false
set_option linter.unusedSimpArgs false
set_option linter.unusedSectionVars false
namespace Go.Proofs.YtdbpjmfflofadaaGreatDoor
open Go.Proofs.Tryz
open Go.RowKit
def Sm.F (T:List Rw.Row) (S:List Int) (b:Bool):List Int→List Int:=if b=true then Nc.chars T S else Nf.chars T
def Sm.fid (b:Bool):FuncId:=if b=true then 29 else 28
def Sm.v (pb:Nat):Value:=.pointer (some ⟨pb,0,none⟩)
def Sm.fv (b:Bool):Value:=.func (.func (Sm.fid b)) #[] #[]
theorem zDF (T:List Rw.Row) (S:List Int) (b:Bool):Sm.F T S b []=[]:=by cases b <;> rfl
theorem zPp {T:List Rw.Row} {S:List Int} (ok:Ud.Ok T S) (b:Bool) (a:List Int) (c:Int) (l:List Int) (hc:zA7 T S c=true):Sm.F T S b (a++c::l)=Sm.F T S b a++Sm.F T S b (c::l):=by
 cases b
 · exact Nf.chars_cut ok (by unfold zA7 at hc;simp only[Bool.and_eq_true]at hc;exact hc.2.1) a l
 exact Nc.chars_cut ok hc a l
theorem zEw {T:List Rw.Row} {S:List Int} (ok:Ud.Ok T S) (b:Bool) {l:List Int} (h:∀c∈l,C.isC c=true):∀c∈Sm.F T S b l,C.isC c=true:=by
 cases b
 · exact Nf.chars_isC ok h
 exact Nc.chars_isC ok h
theorem Sm.enter (b:Bool) (args:Array Value) (w:World):(callFunc (Sm.fid b) args).run prog w=.ok (.enter (Sm.fid b) args) w:=by
 cases b
 · show (callFunc 28 args).run prog w=.ok (.enter 28 args) w;kernel_rfl
 show (callFunc 29 args).run prog w=.ok (.enter 29 args) w;kernel_rfl
section
variable (pb:Nat) (T:List Rw.Row) (S:List Int) (b:Bool) (w0:World) (g:Nat) (ok:Ud.Ok T S) (his:Ud.Is w0 (Sm.v pb) T S) (hH:Heads w0) (hg:w0.heap.size≤g)
include ok his hH
theorem zGP (z:List Int) (W:World) (hW:Below w0.heap.size w0 W) (hz:∀c∈z,C.isC c=true) (hl:(Nf.fl T z).length≤1024):Calls prog (Sm.fid b) #[Sm.v pb,.string (zA5 z)] W fun e w'=>e=.returned (.tuple #[.string (zA5 (Sm.F T S b z)),.int .i64 0])∧Below W.heap.size W w':=by
 have h1:=zEs ok z;cases b
 · exact Nf.of_chars _ T S z W ok (his.below hW) (hH.next hW) hz (by omega) hl
 exact Nc.of_chars _ T S z W ok (his.below hW) (hH.next hW) hz (by omega) hl
include hg
def zAi (T:List Rw.Row) (S:List Int):List Int→List UInt8→Sm.St:=zN2 (zA7 T S) (Sm.fl T)
def zAb (T:List Rw.Row) (S:List Int) (a:List Int):List Int:=a.take (zAF (zA7 T S) a)
theorem zBO (a r:List Int) (h:List UInt8) (P R:List UInt8) (w:World) (hw:Below w0.heap.size w0 w) (ha:∀c∈a++r,C.isC c=true) (hn:(Nf.fl T (a++r)).length≤1024) (hf:zBs r h) (hR:zA4 r=h++(P++R)) (ah:Sm.At w g (Sm.v pb) (Sm.fv b) (zAi T S a h)) :
 Calls prog 11 #[.pointer (some ⟨g,0,none⟩),.string ⟨P.toArray⟩] w fun e w'=>w.grownBy w' (some g)∧∃(d r':List Int) (h':List UInt8) (y:List Int),r=d++r'∧zBs r' h'∧zA4 r'=h'++R∧e=.returned (.tuple #[.string (zA5 y),.int .i64 0])∧(∀c∈y,C.isC c=true)∧Sm.F T S b (zAb T S a)++y=Sm.F T S b (zAb T S (a++d))∧Sm.At w' g (Sm.v pb) (Sm.fv b) (zAi T S (a++d) h'):=by
 have aa:Sm.sum (Sm.fl T) (a++r)≤1024:=by rw[zBN];exact hn
 obtain⟨d,r',h',e1,f1,r1,j1,s1⟩:=zGh (p:=zA7 T S) (fl:=Sm.fl T) P ha aa hf hR (Za (zAF (zA7 T S) a))
 have ag:Sm.Ok (Sm.fl T) (zAi T S a h):=by
  unfold zAi;rw[zCY];exact zGO ha aa hf (Za _)
 have ae:P.length≤1000000:=by
  have h1:(zA4 r).length≤4*r.length:=zCA r;have h2:=ZR List.length hR;rw[Zc,Zc]at h2;have h3:=zEs ok (a++r);rw[Zc]at h3;omega
 have hW:=zI4 pb T S (Sm.fid b) (Sm.F T S b) w0 g ok his hH hg (Sm.enter b) (fun z W=>zGP pb T S b w0 ok his hH z W) (zAi T S a h) P w hw ag ae ah;refine hW.mono ?_;rintro e w' ⟨af,hh⟩
 have ai:Sm.feed (zA7 T S) (Sm.fl T) (zAi T S a h) P=Sm.mid (zA7 T S) (Sm.fl T) (zAF (zA7 T S) a) (a++d) h':=by
  unfold zAi;rw[zCY];exact s1
 rw[ai]at hh;rcases hh with ⟨he,_⟩|⟨_,he,hA⟩
 · exact absurd rfl he
 refine⟨af,d,r',h',Sm.F T S b (Sm.out (Sm.mid (zA7 T S) (Sm.fl T) (zAF (zA7 T S) a) (a++d) h')),e1,f1,r1,he,?_,?_,?_⟩
 · refine zEw ok b fun c hc=>ha c ?_
   rw[e1,←Zz];exact YZ _ (Xh (Z0 hc))
 · exact zN3 (zDF T S b) (fun x c l hc=>zPp ok b x c l hc) a d h' j1
 rw[(zKN j1).1]at hA;exact hA
theorem zE5 (a:List Int) (w:World) (hw:Below w0.heap.size w0 w) (ha:∀c∈a,C.isC c=true) (hn:(Nf.fl T a).length≤1024) (af:Sm.At w g (Sm.v pb) (Sm.fv b) (zAi T S a [])) :
 Calls prog 12 #[.pointer (some ⟨g,0,none⟩)] w fun e w'=>w.grownBy w' (some g)∧∃(y:List Int),e=.returned (.tuple #[.string (zA5 y),.int .i64 0])∧(∀c∈y,C.isC c=true)∧Sm.F T S b (zAb T S a)++y=Sm.F T S b a∧Sm.At w' g (Sm.v pb) (Sm.fv b) (Sm.bad 0):=by
 have ae:Sm.Ok (Sm.fl T) (zAi T S a []):=by
  unfold zAi;rw[zCY];exact zGO (b:=[]) (by rw[ZC];exact ha) (by rw[ZC,zBN];exact hn) (.inl rfl) (Za _)
 refine (zHv pb T S (Sm.fid b) (Sm.F T S b) w0 g ok (Sm.enter b) (fun z W=>zGP pb T S b w0 ok his hH z W) (zAi T S a []) w hw (fun _=>ae) (Zq 3) af).mono ?_;rintro e w' ⟨aa,⟨he,_⟩|⟨_,he,_⟩|⟨_,_,he,hA⟩⟩
 · exact absurd rfl he
 · exact absurd rfl he
 refine⟨aa,Sm.F T S b (a.drop (zAF (zA7 T S) a)),he,zEw ok b (fun c hc=>ha c (Xh hc)),?_,hA⟩;have:=zRA (p:=zA7 T S) (zDF T S b) (fun x c l hc=>zPp ok b x c l hc) a [];rw[ZC,ZC]at this;exact this
omit his hH hg in
theorem zF7 (a r:List Int) (h:List UInt8) (w:World) (ha:∀c∈a++r,C.isC c=true) (hn:(Nf.fl T (a++r)).length≤1024) (hf:zBs r h) (ae:Sm.At w g (Sm.v pb) (Sm.fv b) (zAi T S a h)) :
 Calls prog 18 #[.pointer (some ⟨g,0,none⟩)] w fun e w'=>e=.returned (.int .i64 ((((zA4 a).length+h.length:Nat):Int)-((zA4 (zAb T S a)).length:Nat)))∧Below w.heap.size w w':=by
 have aa:Sm.Ok (Sm.fl T) (zAi T S a h):=by
  unfold zAi;rw[zCY];exact zGO ha (by rw[zBN];exact hn) hf (Za _)
 have af:∀c∈a.drop (zAF (zA7 T S) a),U.isC c=true:=fun c hc=>ha c (YZ _ (Xh hc))
 have e1:(zA5 (zAi T S a h).z).size=(zA4 (a.drop (zAF (zA7 T S) a))).length:=by
  show (zA5 (a.drop (zAF (zA7 T S) a))).size=_;rw[zAG af];rfl
 have h1:=zEs ok (a++r);rw[Zc]at h1;have h2:(zA4 (a.drop (zAF (zA7 T S) a))).length≤4*(a.drop (zAF (zA7 T S) a)).length:=zCA _;rw[ZH]at h2;have h3:=zI5 pb T (Sm.fid b) g (zAi T S a h) w aa (by rw[e1];omega) ae;rw[e1]at h3
 have e2:(zA4 a).length=(zA4 (zAb T S a)).length+(zA4 (a.drop (zAF (zA7 T S) a))).length:=by
  conv=>lhs;rw[←Zu (zAF (zA7 T S) a) a]
  rw[zAq,Zc];rfl
 refine h3.mono ?_;rintro e w' ⟨rfl,hb⟩;refine⟨?_,hb⟩;congr 3;show (((zA4 (a.drop (zAF (zA7 T S) a))).length+h.length:Nat):Int)=_;rw[e2];omega
end
theorem zTa {T:List Rw.Row} {S:List Int} (ok:Ud.Ok T S) (b:Bool) (z:List Int):(Sm.F T S b z).length≤(Nf.fl T z).length:=by
 cases b
 · exact Qm (Nf.chars_len T z)
 exact Nc.chars_le ok z
theorem zJx {T:List Rw.Row} {S:List Int} (ok:Ud.Ok T S) (b:Bool) {a r l:List Int} (hl:l=a++r) (hc:∀c∈l,C.isC c=true) (hf:(Nf.fl T l).length≤1024):(zA5 (Sm.F T S b (zAb T S a))).size≤5000:=by
 subst hl;have h1:=zBj (z:=Sm.F T S b (zAb T S a)) (zEw ok b fun c h=>hc c (YZ _ (Z0 h)));have h2:=zTa ok b (zAb T S a)
 have h3:(Nf.fl T (a++r)).length=(Nf.fl T (zAb T S a)).length+(Nf.fl T (a.drop (zAF (zA7 T S) a)++r)).length:=by
  rw[←Zc,←Nf.fl_app,←Zz];unfold zAb;rw[Zu]
 omega
theorem zN6 {x y s:ByteArray} (h:x++y=s) (hs:s.size≤100000):¬9223372036854775807<x.size+y.size:=by
 have:=ZR ByteArray.size h;rw[ZS]at this;omega
theorem zKP (pb:Nat) (T:List Rw.Row) (b:Bool) (g:Nat) (w:World) (aa:Sm.At w g (Sm.v pb) (Sm.fv b) (Sm.bad 0)) :
 Calls prog 18 #[.pointer (some ⟨g,0,none⟩)] w fun e w'=>e=.returned (.int .i64 0)∧Below w.heap.size w w' :=
 zI5 pb T (Sm.fid b) g (Sm.bad 0) w ⟨rfl,(fun _ h=>by cases h),Zq _,rfl,Zq _,Zq _,Zq _⟩ (Zq _) aa
theorem zI6 {m r':List Int} {h h' R:List UInt8} (hf:zBs (m++r') h) (hR:zA4 (m++r')=h++R) (aa:zA4 r'=h'++R):m=[]∧h=h':=by
 rw[zAq,aa,←Zz]at hR;have e:=List.append_cancel_right hR;cases m with
 | nil=>exact⟨rfl,by rw[←e];rfl⟩
 | cons c m =>
   rw[zAW,Zz]at e;rcases hf with rfl|⟨c',b',t,hb,ht,h2⟩
   · have:=ZR List.length e;rw[Zc,ZY]at this;have:=(zCf c).1;omega
   obtain⟨rfl,_⟩:=Qe hb;have h3:=ZR List.length e;have h4:=ZR List.length h2;rw[Zc]at h3 h4;have h5:0<t.length:=List.length_pos_iff.2 ht;omega
theorem zDf {d1 r1 d2 r2:List Int} {h1 h2 R:List UInt8} (he:d1++r1=d2++r2) (f1:zBs r1 h1) (f2:zBs r2 h2) (e1:zA4 r1=h1++R) (e2:zA4 r2=h2++R):d1=d2∧r1=r2∧h1=h2:=by
 rcases List.append_eq_append_iff.1 he with ⟨m,rfl,rfl⟩|⟨m,rfl,rfl⟩
 · obtain⟨rfl,rfl⟩:=zI6 f1 e1 e2;exact⟨by rw[ZC],rfl,rfl⟩
 obtain⟨rfl,rfl⟩:=zI6 f2 e2 e1;exact⟨by rw[ZC],rfl,rfl⟩
section
variable (pb:Nat) (T:List Rw.Row) (S:List Int) (b:Bool) (w0:World) (g:Nat) (ok:Ud.Ok T S) (his:Ud.Is w0 (Sm.v pb) T S) (hH:Heads w0) (hg:w0.heap.size≤g)
include ok his hH hg
theorem zN7 (a r:List Int) (h R:List UInt8) (w:World) (hw:Below w0.heap.size w0 w) (ha:∀c∈a++r,C.isC c=true) (hn:(Nf.fl T (a++r)).length≤1024) (hf:zBs r h) (hR:zA4 r=h++R) (ae:Sm.At w g (Sm.v pb) (Sm.fv b) (zAi T S a h)) :
 Calls prog 11 #[.pointer (some ⟨g,0,none⟩),.string ⟨#[]⟩] w fun e w'=>e=.returned (.tuple #[.string ⟨#[]⟩,.int .i64 0])∧w.grownBy w' (some g)∧Sm.At w' g (Sm.v pb) (Sm.fv b) (zAi T S a h):=by
 refine (zBO pb T S b w0 g ok his hH hg a r h [] R w hw ha hn hf hR ae).mono ?_;rintro e w' ⟨aa,d,r',h',y,k1,k2,k3,rfl,_,k6,k7⟩;obtain⟨rfl,rfl,rfl⟩:=zDf (d2:=[]) (r2:=r) (h2:=h) k1.symm k2 hf k3 hR;rw[ZC]at k6 k7;have e1:y=[]:=XD (k6.trans (ZC _).symm);subst e1;exact⟨rfl,aa,k7⟩
theorem zSu (w:World) (hw:Below w0.heap.size w0 w) (ae:Sm.At w g (Sm.v pb) (Sm.fv b) (Sm.bad 0)) :
 Calls prog 12 #[.pointer (some ⟨g,0,none⟩)] w fun e w'=>e=.returned (.tuple #[.string ⟨#[]⟩,.int .i64 0])∧w.grownBy w' (some g)∧Sm.At w' g (Sm.v pb) (Sm.fv b) (Sm.bad 0):=by
 refine (zHv pb T S (Sm.fid b) (Sm.F T S b) w0 g ok (Sm.enter b) (fun z W=>zGP pb T S b w0 ok his hH z W) (Sm.bad 0) w hw (fun _=>⟨rfl,(fun _ h=>by cases h),Zq _,rfl,Zq _,Zq _,Zq _⟩) (Zq _) ae).mono ?_;rintro e w' ⟨aa,⟨he,_⟩|⟨_,he,_⟩|⟨_,_,he,hA⟩⟩
 · exact absurd rfl he
 · exact absurd rfl he
 rw[show (Sm.bad 0).z=[] from rfl,zDF]at he;exact⟨he,aa,hA⟩
end
theorem Sm.At.other {w w':World} {g g':Nat} {v fv:Value} {s:Sm.St} (h:Sm.At w g v fv s) (hg:w.grownBy w' (some g')) (hne:g≠g'):Sm.At w' g v fv s :=
 (hg.block g (zCF h) (fun e=>hne (Z6 e))).trans h
end Go.Proofs.YtdbpjmfflofadaaGreatDoor
