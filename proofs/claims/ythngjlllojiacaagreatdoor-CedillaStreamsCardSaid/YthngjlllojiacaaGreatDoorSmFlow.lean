/- The layer stream: what a stream answers as a text comes piece by piece. -/
import Derived.Test.YthngjlllojiacaaGreatDoorSmEnd
import Derived.Test.YthngjlllojiacaaGreatDoorNcWhole
namespace Go.Proofs.YthngjlllojiacaaGreatDoor
open Go.RowKit
set_option linter.unusedSimpArgs false
set_option linter.unusedVariables false
set_option linter.unusedSectionVars false
def Sm.F (T:List Rw.Row) (S:List Int) (b:Bool):List Int→List Int:=if b=true then Nc.chars T S else Nf.chars T
def Sm.fid (b:Bool):FuncId:=if b=true then 25 else 24
def Sm.v (pb:Nat):Value:=.pointer (some ⟨pb,0,none⟩)
def Sm.fv (b:Bool):Value:=.func (.func (Sm.fid b)) #[] #[]
theorem Sm.F_nil (T:List Rw.Row) (S:List Int) (b:Bool):Sm.F T S b []=[]:=by cases b <;> rfl
theorem Sm.F_cut {T:List Rw.Row} {S:List Int} (ok:Ud.Ok T S) (b:Bool) (a:List Int) (c:Int) (l:List Int) (hc:zKG T S c=true):Sm.F T S b (a++c::l)=Sm.F T S b a++Sm.F T S b (c::l):=by
 cases b
 · exact Nf.chars_cut ok (by unfold zKG at hc;simp only[Bool.and_eq_true]at hc;exact hc.2.1) a l
 exact Nc.chars_cut ok hc a l
theorem Sm.F_isC {T:List Rw.Row} {S:List Int} (ok:Ud.Ok T S) (b:Bool) {l:List Int} (h:∀c∈l,C.isC c=true):∀c∈Sm.F T S b l,C.isC c=true:=by
 cases b
 · exact Nf.chars_isC ok h
 exact Nc.chars_isC ok h
set_option maxRecDepth 100000 in
theorem Sm.enter (b:Bool) (args:Array Value) (w:World):(callFunc (Sm.fid b) args).run Tryz.prog w=.ok (.enter (Sm.fid b) args) w:=by
 cases b
 · show (callFunc 24 args).run Tryz.prog w=.ok (.enter 24 args) w;kernel_rfl
 show (callFunc 25 args).run Tryz.prog w=.ok (.enter 25 args) w;kernel_rfl
section
variable (pb:Nat) (T:List Rw.Row) (S:List Int) (b:Bool) (w0:World) (g:Nat) (ok:Ud.Ok T S) (his:Ud.Is w0 (Sm.v pb) T S) (hH:Heads w0) (hg:w0.heap.size≤g)
include ok his hH
theorem Sm.F_any (z:List Int) (W:World) (hW:Below w0.heap.size w0 W) (hz:∀c∈z,C.isC c=true) (hl:(Nf.fl T z).length≤1024):Calls Tryz.prog (Sm.fid b) #[Sm.v pb,.string (zBc z)] W fun e w'=>e=.returned (.tuple #[.string (zBc (Sm.F T S b z)),.int .i64 0])∧Below W.heap.size W w':=by
 have h1:=zOc ok z;cases b
 · exact Nf.of_chars _ T S z W ok (his.below hW) (hH.next hW) hz (by omega) hl
 exact Nc.of_chars _ T S z W ok (his.below hW) (hH.next hW) hz (by omega) hl
include hg
def Sm.can' (T:List Rw.Row) (S:List Int):List Int→List UInt8→Sm.St:=Sm.can (zKG T S) (Sm.fl T)
def Sm.cutAt (T:List Rw.Row) (S:List Int) (a:List Int):List Int:=a.take (Sm.ls (zKG T S) a)
theorem Sm.write_can (a r:List Int) (h:List UInt8) (P R:List UInt8) (w:World) (hw:Below w0.heap.size w0 w) (ha:∀c∈a++r,C.isC c=true) (hn:(Nf.fl T (a++r)).length≤1024) (hf:Sm.fits r h) (hR:zAx r=h++(P++R)) (hat:Sm.At w g (Sm.v pb) (Sm.fv b) (Sm.can' T S a h)) :
 Calls Tryz.prog 12 #[.pointer (some ⟨g,0,none⟩),.string ⟨P.toArray⟩] w fun e w'=>w.grownBy w' (some g)∧∃(d r':List Int) (h':List UInt8) (y:List Int),r=d++r'∧Sm.fits r' h'∧zAx r'=h'++R∧e=.returned (.tuple #[.string (zBc y),.int .i64 0])∧(∀c∈y,C.isC c=true)∧Sm.F T S b (Sm.cutAt T S a)++y=Sm.F T S b (Sm.cutAt T S (a++d))∧Sm.At w' g (Sm.v pb) (Sm.fv b) (Sm.can' T S (a++d) h'):=by
 have hsum:Sm.sum (Sm.fl T) (a++r)≤1024:=by rw[Sm.sum_fl];exact hn
 obtain⟨d,r',h',e1,f1,r1,j1,s1⟩:=Sm.feed_mid (p:=zKG T S) (fl:=Sm.fl T) P ha hsum hf hR (Nat.le_refl (Sm.ls (zKG T S) a))
 have hok:Sm.Ok (Sm.fl T) (Sm.can' T S a h):=by
  unfold Sm.can';rw[Sm.can_mid];exact Sm.mid_ok ha hsum hf (Nat.le_refl _)
 have hPl:P.length≤1000000:=by
  have h1:(zAx r).length≤4*r.length:=zIA r;have h2:=congrArg List.length hR;rw[List.length_append,List.length_append]at h2;have h3:=zOc ok (a++r);rw[List.length_append]at h3;omega
 have hW:=Sm.write_any pb T S (Sm.fid b) (Sm.F T S b) w0 g ok his hH hg (Sm.enter b) (fun z W=>Sm.F_any pb T S b w0 ok his hH z W) (Sm.can' T S a h) P w hw hok hPl hat;refine hW.mono ?_;rintro e w' ⟨hgr,hh⟩
 have hfd:Sm.feed (zKG T S) (Sm.fl T) (Sm.can' T S a h) P=Sm.mid (zKG T S) (Sm.fl T) (Sm.ls (zKG T S) a) (a++d) h':=by
  unfold Sm.can';rw[Sm.can_mid];exact s1
 rw[hfd]at hh;rcases hh with ⟨he,_⟩|⟨_,he,hA⟩
 · exact absurd rfl he
 refine⟨hgr,d,r',h',Sm.F T S b (Sm.out (Sm.mid (zKG T S) (Sm.fl T) (Sm.ls (zKG T S) a) (a++d) h')),e1,f1,r1,he,?_,?_,?_⟩
 · refine Sm.F_isC ok b fun c hc=>ha c ?_
   rw[e1,←List.append_assoc];exact List.mem_append_left _ (List.mem_of_mem_drop (List.mem_of_mem_take hc))
 · exact Sm.out_total (Sm.F_nil T S b) (fun x c l hc=>Sm.F_cut ok b x c l hc) a d h' j1
 rw[(Sm.mid_out j1).1]at hA;exact hA
theorem Sm.end_can (a:List Int) (w:World) (hw:Below w0.heap.size w0 w) (ha:∀c∈a,C.isC c=true) (hn:(Nf.fl T a).length≤1024) (hat:Sm.At w g (Sm.v pb) (Sm.fv b) (Sm.can' T S a [])) :
 Calls Tryz.prog 13 #[.pointer (some ⟨g,0,none⟩)] w fun e w'=>w.grownBy w' (some g)∧∃(y:List Int),e=.returned (.tuple #[.string (zBc y),.int .i64 0])∧(∀c∈y,C.isC c=true)∧Sm.F T S b (Sm.cutAt T S a)++y=Sm.F T S b a∧Sm.At w' g (Sm.v pb) (Sm.fv b) (Sm.bad 0):=by
 have hok:Sm.Ok (Sm.fl T) (Sm.can' T S a []):=by
  unfold Sm.can';rw[Sm.can_mid];exact Sm.mid_ok (b:=[]) (by rw[List.append_nil];exact ha) (by rw[List.append_nil,Sm.sum_fl];exact hn) (.inl rfl) (Nat.le_refl _)
 refine (Sm.end_any pb T S (Sm.fid b) (Sm.F T S b) w0 g ok (Sm.enter b) (fun z W=>Sm.F_any pb T S b w0 ok his hH z W) (Sm.can' T S a []) w hw (fun _=>hok) (Nat.zero_le 3) hat).mono ?_;rintro e w' ⟨hgr,⟨he,_⟩|⟨_,he,_⟩|⟨_,_,he,hA⟩⟩
 · exact absurd rfl he
 · exact absurd rfl he
 refine⟨hgr,Sm.F T S b (a.drop (Sm.ls (zKG T S) a)),he,Sm.F_isC ok b (fun c hc=>ha c (List.mem_of_mem_drop hc)),?_,hA⟩;have:=Sm.ls_cut (p:=zKG T S) (Sm.F_nil T S b) (fun x c l hc=>Sm.F_cut ok b x c l hc) a [];rw[List.append_nil,List.append_nil]at this;exact this
omit his hH hg in
theorem Sm.waits_can (a r:List Int) (h:List UInt8) (w:World) (ha:∀c∈a++r,C.isC c=true) (hn:(Nf.fl T (a++r)).length≤1024) (hf:Sm.fits r h) (hat:Sm.At w g (Sm.v pb) (Sm.fv b) (Sm.can' T S a h)) :
 Calls Tryz.prog 19 #[.pointer (some ⟨g,0,none⟩)] w fun e w'=>e=.returned (.int .i64 ((((zAx a).length+h.length:Nat):Int)-((zAx (Sm.cutAt T S a)).length:Nat)))∧Below w.heap.size w w':=by
 have hok:Sm.Ok (Sm.fl T) (Sm.can' T S a h):=by
  unfold Sm.can';rw[Sm.can_mid];exact Sm.mid_ok ha (by rw[Sm.sum_fl];exact hn) hf (Nat.le_refl _)
 have hzc:∀c∈a.drop (Sm.ls (zKG T S) a),U.isC c=true:=fun c hc=>ha c (List.mem_append_left _ (List.mem_of_mem_drop hc))
 have e1:(zBc (Sm.can' T S a h).z).size=(zAx (a.drop (Sm.ls (zKG T S) a))).length:=by
  show (zBc (a.drop (Sm.ls (zKG T S) a))).size=_;rw[zIB hzc];rfl
 have h1:=zOc ok (a++r);rw[List.length_append]at h1;have h2:(zAx (a.drop (Sm.ls (zKG T S) a))).length≤4*(a.drop (Sm.ls (zKG T S) a)).length:=zIA _;rw[List.length_drop]at h2;have h3:=Sm.waits_any pb T (Sm.fid b) g (Sm.can' T S a h) w hok (by rw[e1];omega) hat;rw[e1]at h3
 have e2:(zAx a).length=(zAx (Sm.cutAt T S a)).length+(zAx (a.drop (Sm.ls (zKG T S) a))).length:=by
  conv=>lhs;rw[←List.take_append_drop (Sm.ls (zKG T S) a) a]
  rw[zDT,List.length_append];rfl
 refine h3.mono ?_;rintro e w' ⟨rfl,hb⟩;refine⟨?_,hb⟩;congr 3;show (((zAx (a.drop (Sm.ls (zKG T S) a))).length+h.length:Nat):Int)=_;rw[e2];omega
end
theorem Sm.F_le {T:List Rw.Row} {S:List Int} (ok:Ud.Ok T S) (b:Bool) (z:List Int):(Sm.F T S b z).length≤(Nf.fl T z).length:=by
 cases b
 · exact Nat.le_of_eq (Nf.chars_len T z)
 exact Nc.chars_le ok z
theorem Sm.cut_size {T:List Rw.Row} {S:List Int} (ok:Ud.Ok T S) (b:Bool) {a r l:List Int} (hl:l=a++r) (hc:∀c∈l,C.isC c=true) (hf:(Nf.fl T l).length≤1024):(zBc (Sm.F T S b (Sm.cutAt T S a))).size≤5000:=by
 subst hl;have h1:=zFQ (z:=Sm.F T S b (Sm.cutAt T S a)) (Sm.F_isC ok b fun c h=>hc c (List.mem_append_left _ (List.mem_of_mem_take h)));have h2:=Sm.F_le ok b (Sm.cutAt T S a)
 have h3:(Nf.fl T (a++r)).length=(Nf.fl T (Sm.cutAt T S a)).length+(Nf.fl T (a.drop (Sm.ls (zKG T S) a)++r)).length:=by
  rw[←List.length_append,←Nf.fl_app,←List.append_assoc];unfold Sm.cutAt;rw[List.take_append_drop]
 omega
theorem Sm.cat_le {x y s:ByteArray} (h:x++y=s) (hs:s.size≤100000):¬9223372036854775807<x.size+y.size:=by
 have:=congrArg ByteArray.size h;rw[ByteArray.size_append]at this;omega
theorem Sm.waits_0 (pb:Nat) (T:List Rw.Row) (b:Bool) (g:Nat) (w:World) (hat:Sm.At w g (Sm.v pb) (Sm.fv b) (Sm.bad 0)) :
 Calls Tryz.prog 19 #[.pointer (some ⟨g,0,none⟩)] w fun e w'=>e=.returned (.int .i64 0)∧Below w.heap.size w w' :=
 Sm.waits_any pb T (Sm.fid b) g (Sm.bad 0) w ⟨rfl,(fun _ h=>by cases h),Nat.zero_le _,rfl,Nat.zero_le _,Nat.zero_le _,Nat.zero_le _⟩ (Nat.zero_le _) hat
theorem Sm.F_cutAt {T:List Rw.Row} {S:List Int} (ok:Ud.Ok T S) (b:Bool) {a r l:List Int} (hl:l=a++r):∃R,Sm.F T S b l=Sm.F T S b (Sm.cutAt T S a)++R:=by
 subst hl;exact⟨_,(Sm.ls_cut (p:=zKG T S) (Sm.F_nil T S b) (fun x c l hc=>Sm.F_cut ok b x c l hc) a r).symm⟩
theorem Sm.fl_pre {T:List Rw.Row} {a r l:List Int} (hl:l=a++r) (h:(Nf.fl T l).length≤1024):(Nf.fl T a).length≤1024:=by
 subst hl;rw[Nf.fl_app,List.length_append]at h;omega
theorem Sm.fits_same {m r':List Int} {h h' R:List UInt8} (hf:Sm.fits (m++r') h) (hR:zAx (m++r')=h++R) (hR':zAx r'=h'++R):m=[]∧h=h':=by
 rw[zDT,hR',←List.append_assoc]at hR;have e:=List.append_cancel_right hR;cases m with
 | nil=>exact⟨rfl,by rw[←e];rfl⟩
 | cons c m =>
   rw[zAA,List.append_assoc]at e;rcases hf with rfl|⟨c',b',t,hb,ht,h2⟩
   · have:=congrArg List.length e;rw[List.length_append,List.length_nil]at this;have:=(zCq c).1;omega
   obtain⟨rfl,_⟩:=List.cons.inj hb;have h3:=congrArg List.length e;have h4:=congrArg List.length h2;rw[List.length_append]at h3 h4;have h5:0<t.length:=List.length_pos_iff.2 ht;omega
theorem Sm.fits_one {d1 r1 d2 r2:List Int} {h1 h2 R:List UInt8} (he:d1++r1=d2++r2) (f1:Sm.fits r1 h1) (f2:Sm.fits r2 h2) (e1:zAx r1=h1++R) (e2:zAx r2=h2++R):d1=d2∧r1=r2∧h1=h2:=by
 rcases List.append_eq_append_iff.1 he with ⟨m,rfl,rfl⟩|⟨m,rfl,rfl⟩
 · obtain⟨rfl,rfl⟩:=Sm.fits_same f1 e1 e2;exact⟨by rw[List.append_nil],rfl,rfl⟩
 obtain⟨rfl,rfl⟩:=Sm.fits_same f2 e2 e1;exact⟨by rw[List.append_nil],rfl,rfl⟩
section
variable (pb:Nat) (T:List Rw.Row) (S:List Int) (b:Bool) (w0:World) (g:Nat) (ok:Ud.Ok T S) (his:Ud.Is w0 (Sm.v pb) T S) (hH:Heads w0) (hg:w0.heap.size≤g)
include ok his hH hg
theorem Sm.write_nil (a r:List Int) (h R:List UInt8) (w:World) (hw:Below w0.heap.size w0 w) (ha:∀c∈a++r,C.isC c=true) (hn:(Nf.fl T (a++r)).length≤1024) (hf:Sm.fits r h) (hR:zAx r=h++R) (hat:Sm.At w g (Sm.v pb) (Sm.fv b) (Sm.can' T S a h)) :
 Calls Tryz.prog 12 #[.pointer (some ⟨g,0,none⟩),.string ⟨#[]⟩] w fun e w'=>e=.returned (.tuple #[.string ⟨#[]⟩,.int .i64 0])∧w.grownBy w' (some g)∧Sm.At w' g (Sm.v pb) (Sm.fv b) (Sm.can' T S a h):=by
 refine (Sm.write_can pb T S b w0 g ok his hH hg a r h [] R w hw ha hn hf hR hat).mono ?_;rintro e w' ⟨hgr,d,r',h',y,k1,k2,k3,rfl,_,k6,k7⟩;obtain⟨rfl,rfl,rfl⟩:=Sm.fits_one (d2:=[]) (r2:=r) (h2:=h) k1.symm k2 hf k3 hR;rw[List.append_nil]at k6 k7;have e1:y=[]:=List.append_cancel_left (k6.trans (List.append_nil _).symm);subst e1;exact⟨rfl,hgr,k7⟩
theorem Sm.write_text (a y:List Int) (s:ByteArray) (hs:zBc y=s) (w:World) (hw:Below w0.heap.size w0 w) (ha:∀c∈a++y,C.isC c=true) (hn:(Nf.fl T (a++y)).length≤1024) (hat:Sm.At w g (Sm.v pb) (Sm.fv b) (Sm.can' T S a [])) :
 Calls Tryz.prog 12 #[.pointer (some ⟨g,0,none⟩),.string s] w fun e w'=>w.grownBy w' (some g)∧∃z:List Int,e=.returned (.tuple #[.string (zBc z),.int .i64 0])∧(∀c∈z,C.isC c=true)∧Sm.F T S b (Sm.cutAt T S a)++z=Sm.F T S b (Sm.cutAt T S (a++y))∧Sm.At w' g (Sm.v pb) (Sm.fv b) (Sm.can' T S (a++y) []):=by
 rw[←hs,zIB (fun c hc=>ha c (List.mem_append_right _ hc))];have hR:zAx y=[]++(zAx y++[]):=by rw[List.append_nil];rfl
 refine (Sm.write_can pb T S b w0 g ok his hH hg a y [] (zAx y) [] w hw ha hn (.inl rfl) hR hat).mono ?_;rintro e w' ⟨hgr,d,r',h',z,k1,k2,k3,rfl,k5,k6,k7⟩;obtain⟨rfl,rfl,rfl⟩:=Sm.fits_one (d2:=y) (r2:=[]) (h2:=[]) (by rw[List.append_nil];exact k1.symm) k2 (.inl rfl) k3 rfl;exact⟨hgr,z,rfl,k5,k6,k7⟩
theorem Sm.end_0 (w:World) (hw:Below w0.heap.size w0 w) (hat:Sm.At w g (Sm.v pb) (Sm.fv b) (Sm.bad 0)) :
 Calls Tryz.prog 13 #[.pointer (some ⟨g,0,none⟩)] w fun e w'=>e=.returned (.tuple #[.string ⟨#[]⟩,.int .i64 0])∧w.grownBy w' (some g)∧Sm.At w' g (Sm.v pb) (Sm.fv b) (Sm.bad 0):=by
 refine (Sm.end_any pb T S (Sm.fid b) (Sm.F T S b) w0 g ok (Sm.enter b) (fun z W=>Sm.F_any pb T S b w0 ok his hH z W) (Sm.bad 0) w hw (fun _=>⟨rfl,(fun _ h=>by cases h),Nat.zero_le _,rfl,Nat.zero_le _,Nat.zero_le _,Nat.zero_le _⟩) (Nat.zero_le _) hat).mono ?_;rintro e w' ⟨hgr,⟨he,_⟩|⟨_,he,_⟩|⟨_,_,he,hA⟩⟩
 · exact absurd rfl he
 · exact absurd rfl he
 rw[show (Sm.bad 0).z=[] from rfl,Sm.F_nil]at he;exact⟨he,hgr,hA⟩
end
theorem Sm.At.other {w w':World} {g g':Nat} {v fv:Value} {s:Sm.St} (h:Sm.At w g v fv s) (hg:w.grownBy w' (some g')) (hne:g≠g'):Sm.At w' g v fv s :=
 (hg.block g (zDq h) (fun e=>hne (Option.some.inj e))).trans h
theorem Sm.can_new (T:List Rw.Row) (S:List Int):Sm.bad 0=Sm.can' T S [] []:=rfl
end Go.Proofs.YthngjlllojiacaaGreatDoor
