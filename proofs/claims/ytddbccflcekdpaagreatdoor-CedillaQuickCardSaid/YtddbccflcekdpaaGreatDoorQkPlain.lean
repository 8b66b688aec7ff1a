/- The quick answers (plain): that for NFD, and how the document reckons. -/
import Derived.Test.YtddbccflcekdpaaGreatDoorNfWhole
namespace Go.Proofs.YtddbccflcekdpaaGreatDoor
def Qk.foldG (g:Int→Int) (l:List Int):Int:=l.foldl (fun a c=>min a (g c)) 2
def Qk.ans (f g:Int→Int) (l:List Int):Int:=if Or.inB f 0 l=true then Qk.foldG g l else 0
theorem Qk.foldG_bd {g:Int→Int} (hg:∀c,0≤g c∧g c≤2) (l:List Int):∀a:Int,0≤a→a≤2→0≤l.foldl (fun a c=>min a (g c)) a∧l.foldl (fun a c=>min a (g c)) a≤2:=by
 induction l with
 | nil=>intro a h1 h2;exact⟨h1,h2⟩
 | cons x l ih =>
   intro a h1 h2;have hx:=hg x;exact ih (min a (g x)) (by omega) (by omega)
theorem Qk.ans_bd {f g:Int→Int} (hg:∀c,0≤g c∧g c≤2) (l:List Int):0≤Qk.ans f g l∧Qk.ans f g l≤2:=by
 unfold Qk.ans;split
 · exact Qk.foldG_bd hg l 2 (by omega) (by omega)
 omega
section
variable {T:List Rw.Row} {S:List Int}
def Qk.oneD (T:List Rw.Row) (c:Int):Int:=if Md.mp T c=[] then 2 else 0
def Qk.D (T:List Rw.Row) (l:List Int):Int:=Qk.ans (Md.cls T) (Qk.oneD T) l
theorem Qk.C_ans (l:List Int):zMx T S l=Qk.ans (Md.cls T) (Qk.one T S) l:=rfl
theorem Qk.oneD_bd (c:Int):0≤Qk.oneD T c∧Qk.oneD T c≤2:=by unfold Qk.oneD;split <;> omega
theorem Qk.C_bd (l:List Int):0≤zMx T S l∧zMx T S l≤2:=Qk.ans_bd zGA l
theorem Qk.D_eq (ok:Ud.Ok T S) (l:List Int):Qk.D T l=if Nf.chars T l=l then 2 else 0:=by
 have hm:∀(l:List Int) (a:Int),0≤a→a≤2→(l.foldl (fun a c=>min a (Qk.oneD T c)) a=if ∀x∈l,Md.mp T x=[] then a else 0):=by
  intro l
  induction l with
  | nil=>intro a _ _;rw[if_pos (fun x h=>absurd h List.not_mem_nil)];rfl
  | cons c l ih =>
    intro a h1 h2;have hc:=Qk.oneD_bd (T:=T) c;rw[List.foldl_cons,ih _ (by omega) (by omega)]
    by_cases hmc:Md.mp T c=[]
    · have:Qk.oneD T c=2:=by unfold Qk.oneD;rw[if_pos hmc]
      by_cases hl:∀x∈l,Md.mp T x=[]
      · rw[if_pos hl,if_pos (fun x hx=>by rcases List.mem_cons.1 hx with rfl|hx;exact hmc;exact hl x hx)];omega
      rw[if_neg hl,if_neg (fun h=>hl fun x hx=>h x (List.mem_cons_of_mem _ hx))]
    have:Qk.oneD T c=0:=by unfold Qk.oneD;rw[if_neg hmc]
    rw[show (if ∀x∈c::l,Md.mp T x=[] then a else 0)=0 from if_neg (fun h=>hmc (h c List.mem_cons_self))];split <;> omega
 have hi:=zQJ ok l;unfold Qk.D Qk.ans Qk.foldG;rw[hm l 2 (by omega) (by omega)]
 by_cases h1:Or.inB (Md.cls T) 0 l=true
 · rw[if_pos h1]
   by_cases h2:∀x∈l,Md.mp T x=[]
   · rw[if_pos h2,if_pos (hi.2 ⟨h2,h1⟩)]
   rw[if_neg h2,if_neg (fun h=>h2 (hi.1 h).1)]
 rw[if_neg h1,if_neg (fun h=>h1 (hi.1 h).2)]
theorem Qk.no_of (ok:Ud.Ok T S) {l:List Int} (h:zMx T S l=0):Nc.chars T S l≠l:=fun e=>by
 have:=Qk.no ok l;rw[e]at this;exact this h
def Qk.stp (T:List Rw.Row) (S:List Int) (a:Int) (q:Int × Int):Int:=if Qk.set T S q.1=true∧q.2=q.1 then (if a=2∧Nc.sec T S (Sp.head T q.1)=true then 1 else a) else 0
theorem Qk.stp_eq (a c s:Int) (h0:0≤a) (h2:a≤2):Qk.stp T S a (c,s)=if s=c then min a (Qk.one T S c) else 0:=by
 unfold Qk.stp Qk.one
 by_cases hs:s=c
 rotate_left
 · rw[if_neg hs,if_neg (fun h=>hs h.2)]
 rw[if_pos hs];cases hq:Qk.set T S c
 · rw[if_neg (fun h=>by cases h.1),if_neg (by decide)];omega
 rw[if_pos ⟨rfl,hs⟩,if_pos rfl];cases hn:Nc.sec T S (Sp.head T c)
 · rw[if_neg (fun h=>by cases h.2),if_neg (by decide)];omega
 rw[if_pos rfl]
 by_cases ha:a=2
 · rw[if_pos ⟨ha,rfl⟩];omega
 rw[if_neg (fun h=>ha h.1)];omega
theorem Qk.zip_fold:∀(l m:List Int) (a:Int),l.length=m.length→0≤a→a≤2→(l.zip m).foldl (Qk.stp T S) a=if m=l then l.foldl (fun a c=>min a (Qk.one T S c)) a else 0
 | [],[],a,_,_,_=>rfl
 | [],_::_,_,h,_,_=>by simp at h
 | _::_,[],_,h,_,_=>by simp at h
 | c::l,s::m,a,h,h0,h2=>by
   have hc:=zGA (T:=T) (S:=S) c;have hl:l.length=m.length:=by simpa using h
   rw[List.zip_cons_cons,List.foldl_cons,Qk.stp_eq a c s h0 h2]
   by_cases hs:s=c
   · rw[if_pos hs,Qk.zip_fold l m _ hl (by omega) (by omega)]
     by_cases hm:m=l
     · rw[if_pos hm,if_pos (by rw[hs,hm])];rfl
     rw[if_neg hm,if_neg (fun e=>hm (List.cons.inj e).2)]
   rw[if_neg hs,Qk.zip_fold l m 0 hl (by omega) (by omega),if_neg (fun e=>hs (List.cons.inj e).1)];split
   · have:=zFr (T:=T) (S:=S) l 0 (by omega) (by omega);omega
   rfl
theorem Qk.want (ok:Ud.Ok T S) (l:List Int):(l.zip (Or.of (Md.cls T) l)).foldl (Qk.stp T S) 2=zMx T S l:=by
 rw[Qk.zip_fold l _ 2 (zCA _ l).symm (by omega) (by omega)];have hi:=zIp (f:=Md.cls T) (fun x=>(zDP ok x).1) l;unfold zMx Qk.fold
 by_cases h:Or.inB (Md.cls T) 0 l=true
 · rw[if_pos h,if_pos (hi.1 h)]
 rw[if_neg h,if_neg (fun e=>h (hi.2 e))]
end
end Go.Proofs.YtddbccflcekdpaaGreatDoor
