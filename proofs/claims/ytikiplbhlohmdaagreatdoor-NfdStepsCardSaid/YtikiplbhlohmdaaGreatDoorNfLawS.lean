/- The layer nfd: a text's characters, NFD, and how many it has, by walking its text; the document's answer too. -/
import Derived.Test.YtikiplbhlohmdaaGreatDoorTxAwake
set_option linter.unusedVariables false
set_option linter.unusedSimpArgs false
namespace Go.Proofs.YtikiplbhlohmdaaGreatDoor
open Go.RowKit
theorem U.ba_eq (z s:ByteArray):(z.toList == s.toList)=decide (z=s):=by
 rw[ba_list,ba_list,Yb,Z5,YP]
 constructor
 · intro h
   obtain⟨⟨a⟩⟩:=z
   obtain⟨⟨b⟩⟩:=s
   simp only[]at h
   rw[h]
 · intro h
   rw[h]
def Nf.tl (T:List Rw.Row) (cs:List Int) (r:List UInt8):List Int:=if r=[]∧(Nf.fl T cs).length≤1024 then Nf.chars T cs else []
def Nf.tn (T:List Rw.Row) (cs:List Int) (r:List UInt8):Int:=if r=[] then (if (Nf.fl T cs).length≤1024 then 0 else 7) else 6
theorem Nf.tl_cons (T:List Rw.Row) (cs:List Int) (a:UInt8) (r:List UInt8):Nf.tl T cs (a::r)=[]:=Zl fun h=>by cases h.1
theorem Nf.tn_cons (T:List Rw.Row) (cs:List Int) (a:UInt8) (r:List UInt8):Nf.tn T cs (a::r)=6:=Zl fun h=>by cases h
theorem Nf.tl_long {T:List Rw.Row} {cs:List Int} (h:¬(Nf.fl T cs).length≤1024) (r:List UInt8):Nf.tl T cs r=[]:=Zl fun g=>h g.2
theorem Nf.tn_long {T:List Rw.Row} {cs:List Int} (h:¬(Nf.fl T cs).length≤1024):Nf.tn T cs []=7:=by unfold Nf.tn;rw[if_pos rfl,if_neg h]
theorem Nf.tl_ok {T:List Rw.Row} {cs:List Int} (h:(Nf.fl T cs).length≤1024):Nf.tl T cs []=Nf.chars T cs:=Zp ⟨rfl,h⟩
theorem Nf.tn_ok {T:List Rw.Row} {cs:List Int} (h:(Nf.fl T cs).length≤1024):Nf.tn T cs []=0:=by unfold Nf.tn;rw[if_pos rfl,if_pos h]
theorem Nf.fl_part (T:List Rw.Row) (l:List Int) (k:Nat):(Nf.fl T (l.take k)).length≤(Nf.fl T l).length:=by
 conv=>rhs;rw[←ZG k l]
 unfold Nf.fl
 rw[Y3,Ze]
 omega
theorem Nf.chars_le {T:List Rw.Row} {S:List Int} (ok:Ud.Ok T S) (l:List Int):(Nf.chars T l).length≤32*l.length:=by
 rw[Nf.chars_len];exact Nf.fl_le (fun c=>Ud.fullT_le ok c) l
section
set_option maxRecDepth 100000
set_option maxHeartbeats 4000000
theorem Nf.text_any (v:Value) (T:List Rw.Row) (S:List Int) (s:ByteArray) (w:World) (ok:Ud.Ok T S) (h:Ud.Is w v T S) (hs:s.size≤1000000000000) (hH:Heads w) (cs:List Int) (r:List UInt8) (hd:U.Dec s.data.toList cs r) (hcs:cs.length≤3000) :
 Calls Tryz.prog 31 #[v,.string s] w (RetOwn2 21 .i32 (Nf.tl T cs r) (Nf.tn T cs r) w):=by
 have af:=U.decode_any s w hs hH cs r hd
 have az:∀c∈cs,-2147483648≤c∧c≤2147483647:=U.chars_bd hd.2.1
 rcases r with _|⟨r0,r'⟩
 · obtain⟨n,hn⟩:∃n,cs.length=n:=⟨_,rfl⟩
   have bj:U.decL cs []=cs:=rfl
   have bm:U.decN []=0:=rfl
   rw[bj,bm]at af
   unfold RetOwn2 at af
   rw[hn]at af hcs
   have bn:Hid (∀x W,Below w.heap.size w W → -2147483648≤x→x≤2147483647→Calls Tryz.prog 21 #[v,.int .i32 x] W (RetInts .i32 (Ud.full T x) W)):=Za fun x W hW h3 h4=>Ud.full_any v T S x W ok (h.below hW) h3 h4
   have br:Hid (∀A c W,Below w.heap.size w W→Sl W W.heap.size A (cs.map (Value.int .i32))→Calls Tryz.prog 23 #[v,.slice A n c] W (Md.RetOwn (Nf.chars T cs) W)):=Za fun A c W hW hA=>Nf.Chars_any v T S A n c cs W ok (h.below hW) hn hcs az hA Tx.sym
   obtain⟨pv,rfl,_⟩:=h.form
   have HD:=Za af
   have HN:=Za hn
   have bp:=Za az
   have ba:=Za (fun c=>Ud.fullT_le ok c)
   clear af hn az hd bj bm hH hs ok h
   go_enter Tryz.func31,Tryz.ntmps31
   go_wp2_with fail
   refine HD.out.mono ?_
   rintro e w1 ⟨A1,c1,rfl,ag,ar⟩
   have bi:=Za (Sl.of_own ag)
   have ai:=Za ar
   have bs:=ar.size
   clear ag ar
   go_wp2_with fail
   go_loopw [8,10,21] (fun nv _ i wr=>∃(k:Nat),k≤n∧i=.int .i64 k∧nv=.int .i64 (Nf.fl T (cs.take k)).length∧(Nf.fl T (cs.take k)).length≤1024∧Below w1.heap.size w1 wr) (fun nv _ i _=>n-(intOf i).toNat)
   case atStart=>exact⟨0,ZE _,rfl,rfl,by simp[Nf.fl],Zd _ _⟩
   case round =>
    obtain⟨k,hk,rfl,rfl,hle,aa⟩:=hrel
    by_cases hlt:k<n
    · obtain⟨x,hx⟩:∃x,cs[k]?=some x:=⟨_,Zc (by rw[HN.out];exact hlt)⟩
      obtain⟨bb,bg⟩:=bp.out x (Zk hx)
      obtain⟨ab,ao,hA2,bt,a1⟩:=bi.out.below aa (Zb _) (by rw[Zg,HN.out];omega)
      have hc:=a1 k (by rw[Zg,HN.out];exact hlt)
      rw[Zu,hx,Zt]at hc
      have a8:=Z4 List.length (Nf.fl_snoc (T:=T) hx)
      rw[Ze]at a8
      have a6:=Nf.fl_part T cs (k+1)
      have bc:=ba.out x
      have au:=bn.out x wr (ai.out.trans (aa.mono ai.out.size)) bb bg
      obtain⟨m,hm⟩:∃m,Ud.full T x=m:=⟨_,rfl⟩
      obtain⟨ml,ax⟩:∃q,m.length=q:=⟨_,rfl⟩
      obtain⟨sn,ak⟩:∃q,(Nf.fl T (cs.take k)).length=q:=⟨_,rfl⟩
      obtain⟨s2,aj⟩:∃q,(Nf.fl T (cs.take (k+1))).length=q:=⟨_,rfl⟩
      obtain⟨sf,ay⟩:∃q,(Nf.fl T cs).length=q:=⟨_,rfl⟩
      unfold RetInts at au
      rw[hm,ax]at au bc
      rw[aj,ak,hm,ax]at a8
      rw[aj,ay]at a6
      rw[ak]at hle ⊢
      subst a8
      have kI:(k:Int)<n:=by omega
      have k0:(0:Int)≤k:=by omega
      have bk:=Za aj
      have bo:=Za ay
      have ae:=Za aa
      have bl:=Za au
      subst hA2
      by_cases hbig:sn+ml≤1024
      · have hg:¬((sn:Int)+ml > 1024):=by omega
        clear hx bb bg a1 hm ax ak au aa aj ay a6
        go_wp2_with (first|(go_at_call 21;refine bl.out.mono ?_;rintro e w2 ⟨A2,c2,rfl,aj,ap⟩;have av:=Za (ae.out.trans (ap.mono ae.out.size));clear aj ap hc)|fail)
        exact⟨⟨k+1,by omega,by first|rfl|go_num,by rw[bk.out];first|rfl|go_num,by rw[bk.out];exact hbig,av.out⟩,by simp[intOf];omega⟩
      · have hg:(sn:Int)+ml > 1024:=by omega
        have ah:¬(Nf.fl T cs).length≤1024:=by rw[bo.out];omega
        have aw:=Za (Nf.tl_long ah [])
        have bf:=Za (Nf.tn_long ah)
        clear hx bb bg a1 hm ax ak au aa aj ay a6 ah
        go_wp2_with (first|(go_at_call 21;refine bl.out.mono ?_;rintro e w2 ⟨A2,c2,rfl,aj,ap⟩;have av:=Za (ae.out.trans (ap.mono ae.out.size));clear aj ap hc)|fail)
        go_ret2
        rw[aw.out,bf.out]
        exact RetOwn2.mk (ZC _ _ _ _) rfl rfl (ai.out.trans (av.out.mono ai.out.size))
    · obtain rfl:k=n:=by omega
      rw[Zj (by rw[HN.out];exact Zb _)]at hle ⊢
      have kI:¬(k:Int)<k:=by omega
      have a7:=br.out A1 c1 wr (ai.out.trans (aa.mono ai.out.size)) (bi.out.below aa aa.size)
      have aw:=Za (Nf.tl_ok hle)
      have bf:=Za (Nf.tn_ok hle)
      obtain⟨Z,hZ⟩:∃Z,Nf.chars T cs=Z:=⟨_,rfl⟩
      rw[hZ]at a7 aw
      have ae:=Za (ai.out.trans (aa.mono ai.out.size))
      have bh:=Za a7
      clear aa a7 hle hZ
      go_wp2_with fail
      refine bh.out.mono ?_
      rintro e w2 ⟨A2,c2,rfl,aq,ap⟩
      have bq:=Za (own_mono aq ae.out.size)
      have av:=Za (ae.out.trans (ap.mono ae.out.size))
      clear aq ap bh
      go_wp2_with fail
      go_ret2
      rw[aw.out,bf.out]
      exact RetOwn2.mk bq.out rfl rfl av.out
 · rw[U.decL_cons,U.decN_cons]at af
   rw[Nf.tl_cons,Nf.tn_cons]
   obtain⟨pv,rfl,_⟩:=h.form
   have HD:=Za af
   clear af az hd hH hs ok h
   go_enter Tryz.func31,Tryz.ntmps31
   go_wp2_with fail
   refine HD.out.mono ?_
   rintro e w1 ⟨A1,c1,rfl,ag,ar⟩
   have ai:=Za ar
   clear ag ar
   go_wp2_with fail
   go_ret2
   exact RetOwn2.mk (ZC _ _ _ _) rfl rfl ai.out
theorem Nf.of_any (v:Value) (T:List Rw.Row) (S:List Int) (s:ByteArray) (w:World) (ok:Ud.Ok T S) (h:Ud.Is w v T S) (hs:s.size≤1000000000000) (hH:Heads w) (cs:List Int) (r:List UInt8) (hd:U.Dec s.data.toList cs r) (hcs:cs.length≤3000) :
 Calls Tryz.prog 12 #[v,.string s] w fun e w'=>e=.returned (.tuple #[.string (U.encS (Nf.tl T cs r)),.int .i64 (Nf.tn T cs r)])∧Below w.heap.size w w':=by
 have ah:=Nf.text_any v T S s w ok h hs hH cs r hd hcs
 have hlen:(Nf.tl T cs r).length≤100000:=by
  unfold Nf.tl
  split
  · have:=Nf.chars_le ok cs;omega
  · simp
 have ag:∀c∈Nf.tl T cs r,-2147483648≤c∧c≤2147483647:=by
  unfold Nf.tl
  split
  · exact fun c hc=>Nf.isC_i32 (Nf.chars_isC ok hd.2.1 c hc)
  · simp
 have ai:Nf.tn T cs r=0∨(Nf.tn T cs r≠0∧Nf.tl T cs r=[]):=by
  unfold Nf.tn Nf.tl
  by_cases h1:r=[]
  · by_cases h2:(Nf.fl T cs).length≤1024
    · left;rw[Zp h1,Zp h2]
    · right;rw[Zp h1,Zl h2,Zl (fun g=>h2 g.2)];exact⟨by decide,rfl⟩
  · right;rw[Zl h1,Zl (fun g=>h1 g.1)];exact⟨by decide,rfl⟩
 obtain⟨z,hz⟩:∃z,Nf.tl T cs r=z:=⟨_,rfl⟩
 obtain⟨e,he⟩:∃e,Nf.tn T cs r=e:=⟨_,rfl⟩
 rw[hz,he]at ah ⊢
 rw[hz]at hlen ag
 rw[hz,he]at ai
 obtain⟨pv,rfl,_⟩:=h.form
 have HT:=Za ah
 have HC:=Za ag
 have HH:=Za hH
 clear ah ag hz he hd hcs ok h hs hH
 rcases ai with rfl|⟨hne,rfl⟩
 · go_enter Tryz.func12,Tryz.ntmps12
   go_wp2_with fail
   refine HT.out.mono ?_
   rintro e w1 ⟨A1,c1,rfl,aa,ae⟩
   have ak:=U.encode_any A1 c1 w1.heap.size z w1 (Zb _) (Sl.of_own aa) (by omega) HC.out (HH.out.next ae)
   have HE:=Za ak
   have af:=Za ae
   clear aa ae ak
   go_wp2_with fail
   refine HE.out.mono ?_
   rintro e w2 ⟨rfl,aj⟩
   have ao:=Za (af.out.trans (aj.mono af.out.size))
   clear aj
   go_wp2_with fail
   go_ret2
   exact⟨rfl,ao.out⟩
 · have aq:=Za hne
   have ap:(e == 0)=false:=by simpa using hne
   clear hne
   go_enter Tryz.func12,Tryz.ntmps12
   go_wp2_with fail
   refine HT.out.mono ?_
   rintro e w1 ⟨A1,c1,rfl,aa,ae⟩
   have af:=Za ae
   clear aa ae
   go_wp2_with fail
   go_ret2
   exact⟨rfl,af.out⟩
theorem Nf.is_any (v:Value) (T:List Rw.Row) (S:List Int) (s:ByteArray) (w:World) (ok:Ud.Ok T S) (h:Ud.Is w v T S) (hs:s.size≤1000000000000) (hH:Heads w) (cs:List Int) (r:List UInt8) (hd:U.Dec s.data.toList cs r) (hcs:cs.length≤3000) :
 Calls Tryz.prog 17 #[v,.string s] w fun e w'=>e=.returned (.bool (decide (Nf.tn T cs r=0)&&decide (U.encS (Nf.tl T cs r)=s)))∧Below w.heap.size w w':=by
 have ae:=Nf.of_any v T S s w ok h hs hH cs r hd hcs
 obtain⟨z,hz⟩:∃z,U.encS (Nf.tl T cs r)=z:=⟨_,rfl⟩
 obtain⟨e,he⟩:∃e,Nf.tn T cs r=e:=⟨_,rfl⟩
 rw[hz,he]at ae ⊢
 obtain⟨pv,rfl,_⟩:=h.form
 have HO:=Za ae
 clear ae hz he hd hcs ok h hs hH
 by_cases h0:e=0
 · subst h0
   rw[Zn rfl,YU]
   obtain⟨b,hb⟩:∃b,decide (z=s)=b:=⟨_,rfl⟩
   have ah:(z.toList == s.toList)=b:=by rw[←hb];exact U.ba_eq z s
   rw[hb]
   have ai:=Za ah
   have aj:=Za hb
   clear hb
   go_enter Tryz.func17,Tryz.ntmps17
   go_wp2_with fail
   refine HO.out.mono ?_
   rintro e w1 ⟨rfl,aa⟩
   have af:=Za aa
   clear aa
   go_wp2_with fail
   go_ret
   exact⟨by first|rfl|rw[ai.out],af.out⟩
 · rw[Zo h0,Xh]
   have ag:(e == 0)=false:=by simpa using h0
   clear h0
   go_enter Tryz.func17,Tryz.ntmps17
   go_wp2_with fail
   refine HO.out.mono ?_
   rintro e w1 ⟨rfl,aa⟩
   have af:=Za aa
   clear aa
   go_wp2_with fail
   go_ret
   exact⟨by first|rfl|simp,af.out⟩
theorem Nf.count_any (v:Value) (T:List Rw.Row) (S:List Int) (s:ByteArray) (w:World) (ok:Ud.Ok T S) (h:Ud.Is w v T S) (hs:s.size≤1000000000000) (hH:Heads w) (cs:List Int) (r:List UInt8) (hd:U.Dec s.data.toList cs r) (hcs:cs.length≤3000) :
 Calls Tryz.prog 16 #[v,.string s] w fun e w'=>e=.returned (.tuple #[.int .i64 ((Nf.tl T cs r).length:Nat),.int .i64 (Nf.tn T cs r)])∧Below w.heap.size w w':=by
 have ae:=Nf.text_any v T S s w ok h hs hH cs r hd hcs
 obtain⟨z,hz⟩:∃z,Nf.tl T cs r=z:=⟨_,rfl⟩
 obtain⟨zn,ag⟩:∃k,z.length=k:=⟨_,rfl⟩
 obtain⟨e,he⟩:∃e,Nf.tn T cs r=e:=⟨_,rfl⟩
 unfold RetOwn2 at ae
 rw[hz,he,ag]at ae ⊢
 obtain⟨pv,rfl,_⟩:=h.form
 have HT:=Za ae
 clear ae hz ag he hd hcs ok h hs hH
 go_enter Tryz.func16,Tryz.ntmps16
 go_wp2_with fail
 refine HT.out.mono ?_
 rintro e w1 ⟨A1,c1,rfl,aa,af⟩
 have ah:=Za af
 clear aa af
 go_wp2_with fail
 go_ret2
 exact⟨rfl,ah.out⟩
end
end Go.Proofs.YtikiplbhlohmdaaGreatDoor
namespace Go.Proofs.YtikiplbhlohmdaaGreatDoor
section
variable {f:Int→Int} {j:Int→Int→Option Int}
variable {full:Int→List Int}
end
section
variable {f:Int→Int} {j:Int→Int→Option Int} {full:Int→List Int}
end
end Go.Proofs.YtikiplbhlohmdaaGreatDoor
namespace Go.Proofs.YtikiplbhlohmdaaGreatDoor
open Go.RowKit
theorem Md.lvL_mono {f g:Int→Option (List Int)} (h:∀c l,f c=some l→g c=some l):∀(L l:List Int),Md.lvL f L=some l→Md.lvL g L=some l
 | [],l,hl=>hl
 | d::r,l,hl=>by
   unfold Md.lvL at hl ⊢
   cases hd:f d with
   | none=>rw[hd]at hl;cases hl
   | some a =>
     rw[hd,Zr]at hl
     rw[h d a hd,Zr]
     cases hr:Md.lvL f r with
     | none=>rw[hr]at hl;cases hl
     | some b=>rw[hr]at hl;rw[Md.lvL_mono h r b hr];exact hl
theorem Md.lv_mono (mp:Int→List Int):∀(k:Nat) (c:Int) (l:List Int),Md.lv mp k c=some l→Md.lv mp (k+1) c=some l
 | 0,c,l,h=>by
   unfold Md.lv at h ⊢
   split at h
   · rename_i hc;rw[Zp hc];exact h
   · cases h
 | k+1,c,l,h=>by
   unfold Md.lv at h ⊢
   split at h
   · rename_i hc;rw[Zp hc];exact h
   · rename_i hc;rw[Zl hc];exact Md.lvL_mono (Md.lv_mono mp k) _ _ h
theorem Md.lvL_flat {f:Int→Option (List Int)} {g:Int→List Int}:∀(L l:List Int),(∀d∈L,∀a,f d=some a→g d=a)→Md.lvL f L=some l→l=L.flatMap g
 | [],l,_,h=>by unfold Md.lvL at h;cases h;rfl
 | d::r,l,hg,h=>by
   unfold Md.lvL at h
   cases hd:f d with
   | none=>rw[hd]at h;cases h
   | some a =>
     rw[hd,Zr]at h
     cases hr:Md.lvL f r with
     | none=>rw[hr]at h;cases h
     | some b =>
       rw[hr,Zt]at h
       cases h
       rw[Xn,hg d Zv a hd,Md.lvL_flat r b (fun x hx=>hg x (Zx _ hx)) hr]
theorem Md.full_lv {T:List Rw.Row} {c:Int} {l:List Int} (h:Md.full T c=some l):Md.lv (Md.mp T) (T.length+3) c=some l:=by
 unfold Md.full at h
 rw[Md.exp_lv _ _ _ _ (by simp)]at h
 obtain⟨m,h1,h2⟩:=Option.bind_eq_some_iff.1 h
 unfold Md.fit at h2
 split at h2
 · simp at h2;rw[←h2];exact h1
 · cases h2
theorem Ud.full_of {T:List Rw.Row} {S:List Int} (ok:Ud.Ok T S) (c:Int):Md.full T c=some (Ud.full T c):=by
 obtain⟨l,hl⟩:=Md.full_some ok.chk c
 unfold Ud.full
 rw[hl];rfl
theorem Ud.full_step {T:List Rw.Row} {S:List Int} (ok:Ud.Ok T S) {c:Int} (hc:Md.mp T c≠[]):Ud.full T c=(Md.mp T c).flatMap (Ud.full T):=by
 have h:=Md.full_lv (Ud.full_of ok c)
 rw[show T.length+3=(T.length+2)+1 from rfl]at h
 unfold Md.lv at h
 rw[Zl hc]at h
 refine Md.lvL_flat _ _ (fun d _ a ha=>?_) h
 have h1:=Md.lv_mono _ _ _ _ ha
 have h2:=Md.full_lv (Ud.full_of ok d)
 rw[h1]at h2
 exact (ZU h2).symm
theorem Ud.full_mp {T:List Rw.Row} {S:List Int} (ok:Ud.Ok T S) {c:Int} (hc:Md.mp T c=[]):Ud.full T c=[c]:=by
 have h:=Md.full_lv (Ud.full_of ok c)
 rw[Md.lv_plain _ _ hc]at h
 exact (ZU h).symm
theorem Ud.full_plain {T:List Rw.Row} {S:List Int} (ok:Ud.Ok T S) (c:Int):∀x∈Ud.full T c,Md.mp T x=[]:=fun x hx=>((Md.full_none (Ud.full_of ok c)).1 x hx).1
theorem Ud.full_ne {T:List Rw.Row} {S:List Int} (ok:Ud.Ok T S) (c:Int):Ud.full T c≠[]:=fun e=>by
 have:=(Md.full_none (Ud.full_of ok c)).2.1
 rw[e]at this
 simp at this
section
variable {T:List Rw.Row} {S:List Int}
theorem Nf.fl_app (l m:List Int):Nf.fl T (l++m)=Nf.fl T l++Nf.fl T m:=by unfold Nf.fl;exact List.flatMap_append
theorem Nf.fl_one (c:Int):Nf.fl T [c]=Ud.full T c:=by unfold Nf.fl;simp
theorem Nf.fl_cons (c:Int) (l:List Int):Nf.fl T (c::l)=Ud.full T c++Nf.fl T l:=by unfold Nf.fl;exact List.flatMap_cons
theorem Nf.fl_mp (ok:Ud.Ok T S) (l:List Int):∀x∈Nf.fl T l,Md.mp T x=[]:=fun x hx=>by
 unfold Nf.fl at hx
 obtain⟨c,_,h⟩:=List.mem_flatMap.1 hx
 exact Ud.full_plain ok c x h
theorem Nf.fl_self (ok:Ud.Ok T S) {l:List Int} (h:∀x∈l,Md.mp T x=[]):Nf.fl T l=l:=by
 induction l with
 | nil=>rfl
 | cons c l ih=>rw[Nf.fl_cons,Ud.full_mp ok (h c Zv),ih fun x hx=>h x (Zx _ hx)];rfl
theorem Nf.chars_mp (ok:Ud.Ok T S) (l:List Int):∀x∈Nf.chars T l,Md.mp T x=[]:=fun x hx=>Nf.fl_mp ok l x ((Or.of_mem _ _ x).1 hx)
theorem Nf.fl_chars (ok:Ud.Ok T S) (l:List Int):Nf.fl T (Nf.chars T l)=Nf.chars T l:=Nf.fl_self ok (Nf.chars_mp ok l)
theorem Nf.chars_in (ok:Ud.Ok T S) (l:List Int):Or.inB (Md.cls T) 0 (Nf.chars T l)=true:=Or.in_of (fun x=>(Ud.cls_bd ok x).1) _
theorem Nf.chars_chars (ok:Ud.Ok T S) (l:List Int):Nf.chars T (Nf.chars T l)=Nf.chars T l:=by
 show Or.of _ (Nf.fl T (Nf.chars T l))=_
 rw[Nf.fl_chars ok]
 unfold Nf.chars
 exact Or.of_of _ _
theorem Nf.q_iff {l m:List Int}:Or.Q (Md.cls T) (Nf.fl T l) (Nf.fl T m)↔Nf.chars T l=Nf.chars T m:=Or.Q_iff
theorem Nf.alike_app {l l' m m':List Int} (h:Nf.chars T l=Nf.chars T l') (h':Nf.chars T m=Nf.chars T m'):Nf.chars T (l++m)=Nf.chars T (l'++m'):=by
 rw[←Nf.q_iff]at *
 rw[Nf.fl_app,Nf.fl_app]
 exact h.app h'
theorem Nf.alike_begin (ok:Ud.Ok T S) (l m:List Int):Nf.chars T (Nf.chars T l++m)=Nf.chars T (l++m):=Nf.alike_app (Nf.chars_chars ok l) rfl
theorem Nf.alike_map (ok:Ud.Ok T S) (a b:List Int) {c:Int} (hc:Md.mp T c≠[]):Nf.chars T (a++(Md.mp T c++b))=Nf.chars T (a++c::b):=by
 have:Nf.fl T (Md.mp T c)=Nf.fl T [c]:=by rw[Nf.fl_one,Ud.full_step ok hc];rfl
 refine Nf.alike_app rfl ?_
 show Nf.chars T (Md.mp T c++b)=Nf.chars T ([c]++b)
 refine Nf.alike_app ?_ rfl
 unfold Nf.chars
 rw[this]
theorem Nf.chars_len2 (l m:List Int):(Nf.chars T (l++m)).length=(Nf.chars T l).length+(Nf.chars T m).length:=by
 unfold Nf.chars
 rw[Or.of_len,Or.of_len,Or.of_len,Nf.fl_app,Ze]
theorem Nf.fl_ge (ok:Ud.Ok T S):∀l:List Int,l.length≤(Nf.fl T l).length
 | []=>Zb _
 | c::l=>by
   have h1:=Nf.fl_ge ok l
   have h2:=List.length_pos_iff.2 (Ud.full_ne ok c)
   rw[Nf.fl_cons,Ze,ZI]
   omega
theorem Nf.chars_ge (ok:Ud.Ok T S) (l:List Int):l.length≤(Nf.chars T l).length:=by
 have:=Nf.fl_ge ok l
 unfold Nf.chars
 rw[Or.of_len];exact this
end
theorem Nf.mp_isC {T:List Rw.Row} {S:List Int} (h:Ud.Ok T S) {c d:Int} (hd:d∈Md.mp T c):C.isC d=true:=by
 unfold Md.mp at hd
 split at hd
 · rename_i hp
   rw[Ud.pair_kind]at hp
   simp only[Zm]at hp
   have hk:=Ud.kind_le c
   have aa:Hg.ofK c=4∨Hg.ofK c=5:=by omega
   have hs:=Hg.ofK_syl c aa
   rcases aa with h4|h5
   · rw[Hg.pairK_four c h4]at hd
     simp only[Xd,YS,or_false]at hd
     unfold C.isC
     simp only[Zm]
     omega
   · rw[Hg.pairK_five c h5]at hd
     simp only[Xd,YS,or_false]at hd
     unfold C.isC
     simp only[Zm]
     omega
 · unfold Md.rmp at hd
   cases hf:Md.find T c with
   | none=>rw[hf]at hd;simp at hd
   | some r =>
     rw[hf]at hd
     exact ((h.good r (Md.find_some hf).1).2.2.2.2.2 d (by simpa using hd)).1
def Nf.Laid (w:World):Prop:=Rw.Laid w∧Heads w
theorem Nf.Laid.next {w w':World} (h:Nf.Laid w) (hb:Below w.heap.size w w'):Nf.Laid w':=⟨h.1.next hb,h.2.next hb⟩
theorem U.dec_encS {z:List Int} (h:∀c∈z,U.isC c=true):U.Dec (U.encS z).data.toList z []:=by
 rw[U.encS_of h];exact⟨by simp,h,rfl⟩
theorem U.encS_size {z:List Int} (h:∀c∈z,U.isC c=true):(U.encS z).size≤4*z.length:=by
 rw[U.encS_of h]
 have:=U.encs_le z
 show (U.encs z).toArray.size≤_
 simpa using this
theorem U.encS_inj {x y:List Int} (hx:∀c∈x,U.isC c=true) (hy:∀c∈y,U.isC c=true) (h:U.encS x=U.encS y):x=y :=
 (U.dec_unique (U.dec_encS hx) (h▸U.dec_encS hy)).1
theorem U.rencS_any (A:Option Addr) (n cap:Nat) (l:List Int) (w:World) (hn:l.length=n) (hl:n≤100000000) (hA:Sl w w.heap.size A (l.map (Value.int .i64))) (hb:∀c∈l,U.isC c=true) :
 Calls Tryz.prog 13 #[.slice A n cap] w fun e w'=>e=.returned (.string (U.encS l))∧Below w.heap.size w w':=by
 have:=U.rencode_any A cap w.heap.size l w (Zb _) hA (by omega) hb
 rw[hn]at this
 rw[U.encS_of hb]
 exact this
section
variable (v:Value) (T:List Rw.Row) (S:List Int) (z:List Int) (w:World) (ok:Ud.Ok T S) (h:Ud.Is w v T S) (hH:Heads w) (hz:∀c∈z,C.isC c=true) (hl:z.length≤3000) (hf:(Nf.fl T z).length≤1024)
include ok h hH hz hl hf
theorem Nf.of_chars:Calls Tryz.prog 12 #[v,.string (U.encS z)] w fun e w'=>e=.returned (.tuple #[.string (U.encS (Nf.chars T z)),.int .i64 0])∧Below w.heap.size w w':=by
 have:=Nf.of_any v T S (U.encS z) w ok h (by have:=U.encS_size hz;omega) hH z [] (U.dec_encS hz) hl
 rw[Nf.tl_ok hf,Nf.tn_ok hf]at this
 exact this
theorem Nf.is_chars:Calls Tryz.prog 17 #[v,.string (U.encS z)] w fun e w'=>e=.returned (.bool (decide (Nf.chars T z=z)))∧Below w.heap.size w w':=by
 have:=Nf.is_any v T S (U.encS z) w ok h (by have:=U.encS_size hz;omega) hH z [] (U.dec_encS hz) hl
 rw[Nf.tl_ok hf,Nf.tn_ok hf,Zn rfl,YU]at this
 rw[show decide (Nf.chars T z=z)=decide (U.encS (Nf.chars T z)=U.encS z) from by
  rw[Yb,Z5,Z5]
  exact⟨fun e=>by rw[e],fun e=>U.encS_inj (Nf.chars_isC ok hz) hz e⟩]
 exact this
theorem Nf.count_chars:Calls Tryz.prog 16 #[v,.string (U.encS z)] w fun e w'=>e=.returned (.tuple #[.int .i64 ((Nf.chars T z).length:Nat),.int .i64 0])∧Below w.heap.size w w':=by
 have:=Nf.count_any v T S (U.encS z) w ok h (by have:=U.encS_size hz;omega) hH z [] (U.dec_encS hz) hl
 rw[Nf.tl_ok hf,Nf.tn_ok hf]at this
 exact this
end
theorem Nf.fl_30 {T:List Rw.Row} {S:List Int} (ok:Ud.Ok T S) {z:List Int} (h:z.length≤32):(Nf.fl T z).length≤1024:=by
 have:=Nf.fl_le (fun c=>Ud.fullT_le ok c) z
 omega
theorem Nf.fl_ch {T:List Rw.Row} {S:List Int} (ok:Ud.Ok T S) {z:List Int} (h:(Nf.fl T z).length≤1024):(Nf.fl T (Nf.chars T z)).length≤1024:=by
 rw[Nf.fl_chars ok,Nf.chars_len];exact h
theorem Nf.lit17:Nf.chars Xt.T [7785]=[115,803,775]:=by decide +kernel
theorem Nf.enc17:U.encS [7785]=⟨#[225,185,169]⟩:=by decide +kernel
theorem Nf.enc17n:U.encS [115,803,775]=⟨#[115,204,163,204,135]⟩:=by decide +kernel
set_option maxRecDepth 100000 in
set_option maxHeartbeats 2000000 in
theorem Nf.awake17 (w:World) (hL:Nf.Laid w):Calls Tryz.prog 8 #[] w fun e w'=>e=.returned (.bool true)∧Below w.heap.size w w':=by
 have hD:=Xt.data_any w hL.1
 have ai:Hid (∀p W,Below w.heap.size w W→Ud.Is W p Xt.T Xt.S→Calls Tryz.prog 12 #[p,.string ⟨#[225,185,169]⟩] W fun e w'=>e=.returned (.tuple #[.string ⟨#[115,204,163,204,135]⟩,.int .i64 0])∧Below W.heap.size W w'):=Za fun p W hW h=>by
  have:=Nf.of_chars p Xt.T Xt.S [7785] W Xt.ok h (hL.2.next hW) (by decide) (by decide) (Nf.fl_30 Xt.ok (by decide))
  rw[Nf.lit17,Nf.enc17,Nf.enc17n]at this
  exact this
 have ak:Hid (∀p W,Below w.heap.size w W→Ud.Is W p Xt.T Xt.S→Calls Tryz.prog 17 #[p,.string ⟨#[115,204,163,204,135]⟩] W fun e w'=>e=.returned (.bool true)∧Below W.heap.size W w'):=Za fun p W hW h=>by
  have:=Nf.is_chars p Xt.T Xt.S [115,803,775] W Xt.ok h (hL.2.next hW) (by decide) (by decide) (Nf.fl_30 Xt.ok (by decide))
  rw[Nf.enc17n,show Nf.chars Xt.T [115,803,775]=[115,803,775] by rw[←Nf.lit17];exact Nf.chars_chars Xt.ok _,Zn rfl]at this
  exact this
 obtain⟨T,hT⟩:∃T,Xt.T=T:=⟨_,rfl⟩
 obtain⟨S,hS⟩:∃S,Xt.S=S:=⟨_,rfl⟩
 rw[hT,hS]at hD ai ak
 clear hT hS hL
 go_enter Tryz.func8,Tryz.ntmps8
 go_wp2_with fail
 refine hD.mono ?_
 rintro e w1 ⟨p,rfl,aa,ag⟩
 obtain⟨b,rfl,aq⟩:=aa.form
 have h1:=ai.out _ w1 ag aa
 have ap:=Za aa
 have af:=Za ag
 clear aa ag hD
 go_wp2_with fail
 refine h1.mono ?_
 rintro e w2 ⟨rfl,ae⟩
 have h2:=ak.out _ w2 (af.out.trans (ae.mono af.out.size)) (ap.out.below ae)
 have ah:=Za (af.out.trans (ae.mono af.out.size))
 clear ae h1
 go_wp2_with fail
 refine h2.mono ?_
 rintro e w3 ⟨rfl,aj⟩
 have ao:=ah.out.trans (aj.mono ah.out.size)
 clear aj h2
 go_wp2_with fail
 go_ret
 exact⟨rfl,ao⟩
end Go.Proofs.YtikiplbhlohmdaaGreatDoor
