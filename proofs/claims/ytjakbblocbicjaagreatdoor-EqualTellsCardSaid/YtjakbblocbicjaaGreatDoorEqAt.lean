/- cedillalaw22.at, by walking its text. -/
import Derived.Test.YtjakbblocbicjaaGreatDoorEqLaw
import Derived.Test.YtjakbblocbicjaaGreatDoorNfLaw
import Derived.Test.YtjakbblocbicjaaGreatDoorTxSame
import Derived.BigQuiet
import Derived.Deep.DeepCutAuto
namespace Go.Proofs.YtjakbblocbicjaaGreatDoor
open Go.RowKit
set_option linter.unusedSimpArgs false
set_option linter.unusedVariables false
set_option maxRecDepth 100000 in
set_option maxHeartbeats 4000000 in
theorem Eq.at_of (A2 XA2:Option Addr) (n2 c2 xn2 xc2 pb:Nat) (sa sb:ByteArray) (zx zy:List Int) (mx my:Nat) (ex ey cm:Int) (al:Bool) (w:World)
 (hx:ex=0∨ex=6∨ex=7) (hy:ey=0∨ey=6∨ey=7) (hmx:zx.length=mx) (hmy:zy.length=my) (hmx2:mx≤1000000) (hmy2:my≤1000000)
 (H1:∀W,Below w.heap.size w W→Calls Tryz.prog 39 #[.agg #[.slice A2 n2 c2,.slice XA2 xn2 xc2],.string sa] W fun e w'=>∃A c,e=.returned (.tuple #[.slice A mx c,.int .i64 ex])∧Sl w' w'.heap.size A (zx.map (Value.int .i64))∧Below W.heap.size W w')
 (H2:∀W,Below w.heap.size w W→Calls Tryz.prog 39 #[.agg #[.slice A2 n2 c2,.slice XA2 xn2 xc2],.string sb] W fun e w'=>∃A c,e=.returned (.tuple #[.slice A my c,.int .i64 ey])∧Sl w' w'.heap.size A (zy.map (Value.int .i64))∧Below W.heap.size W w')
 (H3:∀W,Below w.heap.size w W→Calls Tryz.prog 31 #[.pointer (some ⟨pb,0,none⟩),.string sa,.string sb] W fun e w'=>e=.returned (.tuple #[.bool al,.int .i64 (Eq.er ex ey)])∧Below W.heap.size W w')
 (H4:∀W,Below w.heap.size w W→Calls Tryz.prog 34 #[.pointer (some ⟨pb,0,none⟩),.string sa,.string sb] W fun e w'=>e=.returned (.tuple #[.int .i64 cm,.int .i64 (Eq.er ex ey)])∧Below W.heap.size W w')
 (hal:al=(decide (Eq.er ex ey=0)&&decide (U.cmpL zx zy=0))) (hcm:cm=if Eq.er ex ey=0 then U.cmpL zx zy else 0) :
 Calls Tryz.prog 33 #[.pointer (some ⟨pb,0,none⟩),.agg #[.slice A2 n2 c2,.slice XA2 xn2 xc2],.string sa,.string sb] w fun e w'=>e=.returned (.bool true)∧Below w.heap.size w w':=by
 obtain⟨wa,hwa⟩:∃wa,w.alloc (.cells #[.slice A2 n2 c2,.slice XA2 xn2 xc2] 25)=wa:=⟨_,rfl⟩;have hba:Below w.heap.size w wa:=by rw[←hwa];exact (Below.refl _ _).alloc (Nat.le_refl _) _
 have hat:Rw.At wa w.heap.size 25 [.slice A2 n2 c2,.slice XA2 xn2 xc2]:=by rw[←hwa];exact Rw.At.new w 25 [.slice A2 n2 c2,.slice XA2 xn2 xc2]
 have HC:Hy (∀(A A':Option Addr) (c c':Nat) W,Sl W W.heap.size A (zx.map (Value.int .i64))→Sl W W.heap.size A' (zy.map (Value.int .i64))→Calls Tryz.prog 59 #[.slice A mx c,.slice A' my c'] W fun e w'=>e=.returned (.int .i64 (U.cmpL zx zy))∧Below W.heap.size W w'):=hy' fun A A' c c' W h1 h2 =>
  U.rcompare_any A A' c c' mx my W.heap.size zx zy W (Nat.le_refl _) hmx hmy hmx2 hmy2 h1 h2
 obtain⟨q,hq⟩:∃q,U.cmpL zx zy=q:=⟨_,rfl⟩;rw[hq]at HC hal hcm;have HWA:=hy' hwa;have HBA:=hy' hba;have HAT:=hy' hat;have HH1:=hy' H1;have HH2:=hy' H2;have HH3:=hy' H3;have HH4:=hy' H4;have z0:=hat.cell 0 rfl;have z1:=hat.cell 1 rfl;have zl:=hat.lt;clear hwa hba hat H1 H2 H3 H4 hmx hmy hmx2 hmy2 hq;go_enter Tryz.func33,Tryz.ntmps33;go_upto_region 1 with (fail)
 rw[HWA.o];go_wp2_with fail;refine (HH1.o wa HBA.o).mono ?_;rintro e w1 ⟨A5,c5,rfl,hs5,hb⟩;have HB1:=hy' (HBA.o.trans (hb.mono HBA.o.size));have HS5:=hy' hs5;have ht:=HAT.o.below hb;clear hb hs5 z0 z1 zl;have z0:=ht.cell 0 rfl;have z1:=ht.cell 1 rfl;have zl:=ht.lt;clear ht;go_wp2_with fail;refine (HH2.o w1 HB1.o).mono ?_;rintro e w2 ⟨A6,c6,rfl,hs6,hb⟩;have HB2:=hy' (HB1.o.trans (hb.mono HB1.o.size));have HS52:=hy' (HS5.o.below hb hb.size);have HS6:=hy' hs6;clear hb hs6 z0 z1 zl;go_upto_region 4 with (fail)
 go_cut [42] (fun s wx=>s=.bool (decide (ex=0)||(decide (ey > 0)&&decide (ey<ex)))∧w2=wx)
 case first =>
  rcases hx with rfl|rfl|rfl <;> rcases hy with rfl|rfl|rfl
  all_goals
   go_wp2_with fail;go_meet;exact⟨by first|rfl|decide,rfl⟩
 case rest =>
 obtain⟨rfl,rfl⟩:=hcut
 have hle:(if (decide (ex=0)||(decide (ey > 0)&&decide (ey<ex)))=true then ey else ex)=Eq.er ex ey:=by
  rcases hx with rfl|rfl|rfl <;> rcases hy with rfl|rfl|rfl <;> decide
 obtain⟨bb,hbb⟩:∃bb,(decide (ex=0)||(decide (ey > 0)&&decide (ey<ex)))=bb:=⟨_,rfl⟩;rw[hbb]at hle ⊢;obtain⟨er,her⟩:∃r,Eq.er ex ey=r:=⟨_,rfl⟩;rw[her]at hle hal hcm HH3 HH4;have HLE:=hy' hle;have HAL:=hy' hal;have HCM:=hy' hcm;clear hle hbb her hx hy hal hcm;go_upto_if 42 with (fail)
 go_cut [13] (fun s wx=>s=.int .i64 er∧w2=wx)
 case first =>
  rcases bb with _|_
  · have h1:ex=er:=by simpa using HLE.o
    subst h1;go_wp2_with fail;go_meet;exact⟨rfl,rfl⟩
  have h1:ey=er:=by simpa using HLE.o
  subst h1;go_wp2_with fail;go_meet;exact⟨rfl,rfl⟩
 case rest =>
 obtain⟨rfl,rfl⟩:=hcut;go_wp2_with fail;refine (HH3.o w2 HB2.o).mono ?_;rintro e w3 ⟨rfl,hb⟩;have HB3:=hy' (HB2.o.trans (hb.mono HB2.o.size));have HS53:=hy' (HS52.o.below hb hb.size);have HS63:=hy' (HS6.o.below hb hb.size);clear hb;go_wp2_with fail;refine (HH4.o w3 HB3.o).mono ?_;rintro e w4 ⟨rfl,hb⟩;have HB4:=hy' (HB3.o.trans (hb.mono HB3.o.size));have HS54:=hy' (HS53.o.below hb hb.size);have HS64:=hy' (HS63.o.below hb hb.size);clear hb;have hne:(er != er)=false:=by simp
 by_cases h0:er=0
 rotate_left
 · have h1:al=false:=by have:=HAL.o;simpa [h0] using this
   have h2:cm=0:=by have:=HCM.o;simpa [h0] using this
   subst h1 h2;have h01:(er != 0)=true:=by simpa using h0
   go_wp2_with fail;go_ret;exact⟨by first|rfl|(simp;done),HB4.o⟩
 subst h0;have h1:al=decide (q=0):=by have:=HAL.o;simpa using this
 have h2:cm=q:=by have:=HCM.o;simpa using this
 subst h1 h2;have hne0:((0:Int) != 0)=false:=rfl;go_wp2_with fail;refine (HC.o A5 A6 c5 c6 w4 HS54.o HS64.o).mono ?_;rintro e w5 ⟨rfl,hb⟩;have HB5:=hy' (HB4.o.trans (hb.mono HB4.o.size));clear hb;have hcc:(cm == cm)=true:=by simp
 by_cases hz:cm=0
 · subst hz;go_wp2_with fail;go_ret;exact⟨by first|rfl|(simp;done),HB5.o⟩
 have hz1:(cm == 0)=false:=by simpa using hz
 have hz2:decide (cm=0)=false:=by simpa using hz
 go_wp2_with fail;go_ret;exact⟨by first|rfl|(simp[hz];done),HB5.o⟩
theorem Nf.tn_cases (T:List Rw.Row) (cs:List Int) (r:List UInt8):Nf.tn T cs r=0∨Nf.tn T cs r=6∨Nf.tn T cs r=7:=by
 unfold Nf.tn;split
 · split
   · exact .inl rfl
   exact .inr (.inr rfl)
 exact .inr (.inl rfl)
theorem Eq.at_any (A2 XA2:Option Addr) (n2 c2 xn2 xc2 pb:Nat) (T:List Rw.Row) (E S:List Int) (sa sb:ByteArray) (w:World) (ok:Ud.Ok T S) (hTn:T.length≤100000) (hml:∀r∈T,r.2.2.length≤1000) (hi:Ud.Is w (.pointer (some ⟨pb,0,none⟩)) T S) (hD:Md.Doc w (.agg #[.slice A2 n2 c2,.slice XA2 xn2 xc2]) T E) (hH:Heads w) (ha:sa.size≤1000000000) (hb:sb.size≤1000000000)
 (ca cb:List Int) (ra rb:List UInt8) (hda:zH1 sa.data.toList ca ra) (hdb:zH1 sb.data.toList cb rb) (hca:ca.length≤3000) (hcb:cb.length≤3000) :
 Calls Tryz.prog 33 #[.pointer (some ⟨pb,0,none⟩),.agg #[.slice A2 n2 c2,.slice XA2 xn2 xc2],.string sa,.string sb] w fun e w'=>e=.returned (.bool true)∧Below w.heap.size w w':=by
 have hle:∀(cs:List Int) (r:List UInt8),cs.length≤3000→(Nf.tl T cs r).length≤1000000:=fun cs r h=>by
  unfold Nf.tl;split
  · have:=Nf.chars_le ok cs;omega
  simp
 have hc:∀(s:ByteArray) (cs:List Int) (r:List UInt8),zH1 s.data.toList cs r→∀c∈Nf.tl T cs r,C.isC c=true:=fun s cs r h=>by
  unfold Nf.tl;split
  · exact Nf.chars_isC ok h.2.1
  simp
 have hx:=Nf.tn_cases T ca ra;have hy:=Nf.tn_cases T cb rb;have hx0:0≤Nf.tn T ca ra:=by omega
 have hy0:0≤Nf.tn T cb rb:=by omega
 have hof:∀(s:ByteArray) (cs:List Int) (r:List UInt8),s.size≤1000000000→zH1 s.data.toList cs r→cs.length≤3000→∀W,Below w.heap.size w W→Calls Tryz.prog 39 #[.agg #[.slice A2 n2 c2,.slice XA2 xn2 xc2],.string s] W fun e w'=>∃A c,e=.returned (.tuple #[.slice A (Nf.tl T cs r).length c,.int .i64 (Nf.tn T cs r)])∧Sl w' w'.heap.size A ((Nf.tl T cs r).map (Value.int .i64))∧Below W.heap.size W w':=fun s cs r hs h1 h2 W hW=>by
  refine (Nf.rtext_any _ T E s W hTn ok.bd hml (fun c=>zAS ok c) (hD.below hW) (by omega) cs r h1 h2).mono ?_;rintro e w' ⟨A',c',rfl,ho,hb⟩;exact⟨A',c',rfl,Sl.of_own ho,hb⟩
 have hn:∀(s:ByteArray) (cs:List Int) (r:List UInt8),s.size≤1000000000→zH1 s.data.toList cs r→cs.length≤3000→∀W,Below w.heap.size w W→Calls Tryz.prog 37 #[.pointer (some ⟨pb,0,none⟩),.string s] W fun e w'=>e=.returned (.tuple #[.string (zAv (Nf.tl T cs r)),.int .i64 (Nf.tn T cs r)])∧Below W.heap.size W w':=fun s cs r hs h1 h2 W hW =>
  Nf.of_any _ T S s W ok (hi.below hW) (by omega) (hH.next hW) cs r h1 h2
 have hal:=fun W (hW:Below w.heap.size w W)=>Eq.alike_of (.pointer (some ⟨pb,0,none⟩)) sa sb _ _ _ _ W hx0 hy0 (fun V hV=>hn sa ca ra ha hda hca V (hW.trans (hV.mono hW.size))) (fun V hV=>hn sb cb rb hb hdb hcb V (hW.trans (hV.mono hW.size)))
 have hcp:=fun W (hW:Below w.heap.size w W)=>Eq.compare_of (.pointer (some ⟨pb,0,none⟩)) sa sb _ _ _ _ W hx0 hy0 (fun V hV=>hn sa ca ra ha hda hca V (hW.trans (hV.mono hW.size))) (fun V hV=>hn sb cb rb hb hdb hcb V (hW.trans (hV.mono hW.size)))
 have he:decide (zAv (Nf.tl T ca ra)=zAv (Nf.tl T cb rb))=decide (U.cmpL (Nf.tl T ca ra) (Nf.tl T cb rb)=0):=by
  rw[decide_eq_decide,U.cmpL_zero];exact⟨fun e=>zKw (hc sa ca ra hda) (hc sb cb rb hdb) e,fun e=>by rw[e]⟩
 refine Eq.at_of A2 XA2 n2 c2 xn2 xc2 pb sa sb _ _ _ _ _ _ _ _ w hx hy rfl rfl (hle ca ra hca) (hle cb rb hcb) (hof sa ca ra ha hda hca) (hof sb cb rb hb hdb hcb) hal hcp ?_ ?_
 · rw[he]
 rw[U.cmp_encS (hc sa ca ra hda) (hc sb cb rb hdb)]
end Go.Proofs.YtjakbblocbicjaaGreatDoor
