/- The law NfdLong, by walking its text. -/
import Derived.Test.YtikiplbhlohmdaaGreatDoorNfLaw
set_option linter.unusedVariables false
set_option linter.unusedSimpArgs false
namespace Go.Proofs.YtikiplbhlohmdaaGreatDoor
open Go.RowKit
theorem Nf.fl_rep (T:List Rw.Row) (c:Int) (m:Nat):(Nf.fl T (List.replicate m c)).length=m*(Ud.full T c).length:=by
 induction m with
 | zero=>simp[Nf.fl]
 | succ m ih=>rw[List.replicate_succ,Nf.fl_cons,Ze,ih,Nat.succ_mul];omega
set_option maxRecDepth 100000 in
set_option maxHeartbeats 4000000 in
theorem Nf.nfdLong_any (w:World) (n0 c0:Int) (cj : -9223372036854775808≤n0) (ch:n0≤9223372036854775807) (cf : -2147483648≤c0) (cd:c0≤2147483647) (hL:Nf.Laid w) :
 Calls Tryz.prog 5 #[.int .i64 n0,.int .i32 c0] w fun e w'=>e=.returned (.bool true)∧Below w.heap.size w w':=by
 have b1:=Za (Nf.awake17 w hL)
 have bk:=Za (fun W (hW:Below w.heap.size w W)=>Xt.data_any W (hL.next hW).1)
 have HH:=Za hL.2
 obtain⟨m,hm,bc⟩:∃m:Nat,m≤1030∧max 0 (min n0 1030)=m:=⟨(max 0 (min n0 1030)).toNat,by omega,by omega⟩
 obtain⟨c,hc⟩:∃c,Ch.K c0=c:=⟨_,rfl⟩
 have a1:C.isC c=true:=by rw[←hc];exact Ch.K_is c0
 have cc : -2147483648≤c∧c≤2147483647:=by rw[←hc];exact Ch.K_bd c0
 obtain⟨ay,az⟩:=cc
 have b8:Hid (∀W,Calls Tryz.prog 19 #[.int .i64 c0] W fun e w'=>e=.returned (.int .i32 c)∧W=w'):=Za fun W=>by have:=Ch.char_any c0 W;rw[hc]at this;exact this
 have bq:=Za (fun W=>U.bytes_any c W a1)
 have b3:=(U.enc_pos c).2
 have ah:∀k,∀x∈List.replicate k c,C.isC x=true:=fun k x hx=>by rw[List.eq_of_mem_replicate hx];exact a1
 obtain⟨T,hT⟩:∃T,Xt.T=T:=⟨_,rfl⟩
 obtain⟨S,hS⟩:∃S,Xt.S=S:=⟨_,rfl⟩
 have ag:=Xt.ok
 rw[hT,hS]at bk ag
 obtain⟨fm,ap⟩:∃fm,(Ud.full T c).length=fm:=⟨_,rfl⟩
 have ax:fm≤32:=by rw[←ap];exact Ud.fullT_le ag c
 have ao:(Nf.fl T (List.replicate m c)).length=m*fm:=by rw[Nf.fl_rep,ap]
 have b2:m*fm≤32960:=Zh (Nat.mul_le_mul hm ax) (by decide)
 have ew:IntKind.i64.wrap c0=c0:=by rw[Z0];omega
 have ck:IntKind.i64.wrap c=c:=by rw[Z0];omega
 obtain⟨s,hs⟩:∃s,U.encS (List.replicate m c)=s:=⟨_,rfl⟩
 obtain⟨z,hz⟩:∃z,Nf.tl T (List.replicate m c) []=z:=⟨_,rfl⟩
 obtain⟨tn,af⟩:∃e,Nf.tn T (List.replicate m c) []=e:=⟨_,rfl⟩
 obtain⟨zn,aq⟩:∃q,z.length=q:=⟨_,rfl⟩
 obtain⟨sz,bb⟩:∃q,U.encS z=q:=⟨_,rfl⟩
 have ar:s.size≤1000000000000:=by rw[←hs];have:=U.encS_size (ah m);rw[YD]at this;omega
 have aa:U.Dec s.data.toList (List.replicate m c) []:=by rw[←hs];exact U.dec_encS (ah m)
 have ae:(m*fm≤1024∧tn=0∧zn=m*fm)∨(1024<m*fm∧tn=7∧zn=0∧sz=⟨#[]⟩):=by
  by_cases h:m*fm≤1024
  · have h':(Nf.fl T (List.replicate m c)).length≤1024:=by rw[ao];exact h
    rw[Nf.tl_ok h']at hz
    rw[Nf.tn_ok h']at af
    exact .inl ⟨h,af.symm,by rw[←aq,←hz,Nf.chars_len,ao]⟩
  · have h':¬(Nf.fl T (List.replicate m c)).length≤1024:=by rw[ao];exact h
    rw[Nf.tl_long h']at hz
    rw[Nf.tn_long h']at af
    subst hz
    exact .inr ⟨by omega,af.symm,aq.symm,by rw[←bb];rfl⟩
 have br:Hid (∀p W,Ud.Is W p T S→Calls Tryz.prog 21 #[p,.int .i32 c] W fun e w'=>∃A' c',e=.returned (.slice A' fm c')∧Below W.heap.size W w'):=Za fun p W h=>by
  refine (Ud.full_any p T S c W ag h ay az).mono ?_
  rintro e w' ⟨A',c',rfl,_,hb⟩
  rw[ap]
  exact⟨A',c',rfl,hb⟩
 have b4:Hid (∀p W,Ud.Is W p T S→Below w.heap.size w W→Calls Tryz.prog 16 #[p,.string s] W fun e w'=>e=.returned (.tuple #[.int .i64 zn,.int .i64 tn])∧Below W.heap.size W w'):=Za fun p W h hW=>by
  have:=Nf.count_any p T S s W ag h ar (HH.out.next hW) _ [] aa (by rw[YD];omega)
  rw[hz,af,aq]at this
  exact this
 have b7:Hid (∀p W,Ud.Is W p T S→Below w.heap.size w W→Calls Tryz.prog 12 #[p,.string s] W fun e w'=>e=.returned (.tuple #[.string sz,.int .i64 tn])∧Below W.heap.size W w'):=Za fun p W h hW=>by
  have:=Nf.of_any p T S s W ag h ar (HH.out.next hW) _ [] aa (by rw[YD];omega)
  rw[hz,af,bb]at this
  exact this
 have bw:Hid (∀p W,Ud.Is W p T S→Below w.heap.size w W→tn≠0→Calls Tryz.prog 17 #[p,.string s] W fun e w'=>e=.returned (.bool false)∧Below W.heap.size W w'):=Za fun p W h hW hne=>by
  have:=Nf.is_any p T S s W ag h ar (HH.out.next hW) _ [] aa (by rw[YD];omega)
  rw[af,Zo hne,Xh]at this
  exact this
 have bn:Hid (∀k,U.encS (List.replicate (k+1) c)=U.encS (List.replicate k c)++⟨(U.enc c).toArray⟩):=Za fun k=>by
  rw[U.encS_of (ah _),U.encS_of (ah _),List.replicate_succ',U.encs_append,ba_append]
  simp[U.encs]
 have cb:Hid (∀k,(U.encS (List.replicate k c)).size≤4*k):=Za fun k=>by have:=U.encS_size (ah k);rwa [YD]at this
 have bg:U.encS (List.replicate 0 c)=⟨#[]⟩:=rfl
 have bu:=Za bg
 have b5:=Za hs
 have bh:=Za (show ((⟨(U.enc c).toArray⟩:ByteArray).size:Int)≤4 by simp[ByteArray.size];omega)
 have aj:=Za ae
 have bs:=Za bc
 obtain⟨a8,ai⟩:∃q,(⟨(U.enc c).toArray⟩:ByteArray)=q:=⟨_,rfl⟩
 rw[ai]at bq bn bh
 clear a1 b3 ah hT hS ag ap ao hz af aq bb ar aa ae bg hs hL hc bc ai
 go_enter Tryz.func5,Tryz.ntmps5
 go_wp2_with fail
 refine b1.out.mono ?_
 rintro e w1 ⟨rfl,bi⟩
 have av:=Za bi
 clear bi
 go_wp2_with fail
 refine (bk.out w1 av.out).mono ?_
 rintro e w2 ⟨p,rfl,aw,hb⟩
 obtain⟨pb,rfl,_⟩:=aw.form
 have bx:=Za aw
 have bl:=Za (av.out.trans (hb.mono av.out.size))
 have bc:=bs.out
 clear aw hb
 go_wp2_with fail
 refine (b8.out w2).mono ?_
 rintro e w' ⟨rfl,rfl⟩
 go_wp2_with fail
 refine (bq.out w2).mono ?_
 rintro e w3 ⟨rfl,hb⟩
 have bf:=Za (bx.out.below hb)
 have bm:=Za (bl.out.trans (hb.mono bl.out.size))
 clear hb
 go_wp2_with fail
 go_loopw [7,26] (fun s' i wr=>∃k:Nat,k≤m∧i=.int .i64 k∧s'=.string (U.encS (List.replicate k c))∧wr=w3) (fun _ i _=>m-(intOf i).toNat)
 case atStart =>
  exact⟨0,by omega,rfl,by rw[bu.out],rfl⟩
 case round =>
  obtain⟨k,hk,rfl,rfl,rfl⟩:=hrel
  by_cases hlt:k<m
  · have kI:(k:Int)<m:=by omega
    have bt:=cb.out k
    have cg:=bh.out
    obtain⟨sk,bp⟩:∃q,U.encS (List.replicate k c)=q:=⟨_,rfl⟩
    have a6:=bn.out k
    rw[bp]at a6 bt ⊢
    have hlen:(sk.size:Int)+(a8.size:Int)≤900000000000:=by omega
    have b6:=Za a6
    clear a6 bp
    go_wp2_with fail
    exact⟨⟨k+1,by omega,by first|rfl|go_num,by rw[b6.out],by first|rfl|trivial⟩,by simp[intOf];omega⟩
  · obtain rfl:k=m:=by omega
    have kI:¬(k:Int)<k:=by omega
    rw[b5.out]
    have k0:(0:Int)≤(k:Int)*fm:=by exact_mod_cast ZE (k*fm)
    have km:(k:Int)*fm≤32960:=by exact_mod_cast b2
    go_wp2_with fail
    refine (br.out _ _ bf.out).mono ?_
    rintro e w4 ⟨A4,c4,rfl,hb⟩
    have bo:=Za (bf.out.below hb)
    have a7:=Za (bm.out.trans (hb.mono bm.out.size))
    clear hb
    go_wp2_with fail
    refine (b4.out _ w4 bo.out a7.out).mono ?_
    rintro e w5 ⟨rfl,hb⟩
    have bj:=Za (bo.out.below hb)
    have ba:=Za (a7.out.trans (hb.mono a7.out.size))
    clear hb
    go_wp2_with fail
    refine (b7.out _ w5 bj.out ba.out).mono ?_
    rintro e w6 ⟨rfl,hb⟩
    have bz:=Za (bj.out.below hb)
    have ak:=Za (ba.out.trans (hb.mono ba.out.size))
    clear hb
    rcases aj.out with ⟨h1,h2,h3⟩|⟨h1,h2,h3,h4⟩
    · have hg:¬((k:Int)*fm > 1024):=by
       have:((k*fm:Nat):Int)≤1024:=by exact_mod_cast h1
       rw[Int.natCast_mul]at this;omega
      subst h2 h3
      have e3:(((k*fm:Nat):Int) == (k:Int)*fm)=true:=by simp
      go_wp2_with fail
      go_ret
      exact⟨by first|rfl|simp,ak.out⟩
    · have hg:(k:Int)*fm > 1024:=by
       have:(1024:Int)<((k*fm:Nat):Int):=by exact_mod_cast h1
       rw[Int.natCast_mul]at this;omega
      subst h2 h3 h4
      have au:=Za (bw.out _ w6 bz.out ak.out (by decide))
      go_wp2_with fail
      refine au.out.mono ?_
      rintro e w7 ⟨rfl,hb⟩
      have b9:=Za (ak.out.trans (hb.mono ak.out.size))
      clear hb
      go_wp2_with fail
      go_ret
      exact⟨by first|rfl|simp,b9.out⟩
end Go.Proofs.YtikiplbhlohmdaaGreatDoor
