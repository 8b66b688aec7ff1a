/- more -/
import Derived.Test.YtbeakahjbkdeiaaGreatDoorOrPlain
import Derived.Test.YtbeakahjbkdeiaaGreatDoorSsIns
namespace Go.Proofs.YtbeakahjbkdeiaaGreatDoor
open Go.RowKit
set_option linter.unusedVariables false
set_option linter.unusedSimpArgs false
theorem Ss.eqv.nil {f:Int→Int} {l:List Int} (h:Ss.eqv f [] l):l=[]:=List.eq_nil_of_length_eq_zero (by rw[h.length];rfl)
theorem Or.of_cut {f:Int→Int} {c:Int} (hc:¬0<f c) (l m:List Int):Or.of f (l++c::m)=Or.of f l++Or.of f (c::m):=by
 have h1:∀{l r:List Int},Or.R f l r→∀{m s:List Int},Or.R f (c::m) (c::s)→Or.R f (l++c::m) (r++c::s):=by
  intro l r h
  induction h with
  | run h1 h2 h3 =>
    intro m s hs
    generalize he:c::m=x at hs
    generalize he2:c::s=y at hs
    cases hs with
    | run g1 g2 g3=>exact absurd (g1 c (by rw[←he];simp)) hc
    | @cons a' b' l' m'' c' g1 g2 g3 g4 g5 =>
      obtain⟨rfl,rfl,rfl⟩:=Or.split (a:=[]) (fun x hx=>absurd hx List.not_mem_nil) g1 hc g4 (by simpa using he)
      obtain rfl:=g3.nil
      simp at he2
      obtain rfl:=he2
      exact .cons h1 h2 h3 hc g5
  | cons h1 h2 h3 h4 h5 ih =>
    intro m s hs
    rw[List.append_assoc,List.append_assoc,List.cons_append,List.cons_append]
    exact .cons h1 h2 h3 h4 (ih hs)
 have h2:Or.R f (c::m) (c::Or.of f m):=.cons (a:=[]) (b:=[]) (fun x hx=>absurd hx List.not_mem_nil) List.Pairwise.nil (Ss.eqv.refl _ _) hc (Or.of_R f m)
 have e:Or.of f (c::m)=c::Or.of f m:=h2.unique (Or.of_R f _)
 rw[e]
 exact (h1 (Or.of_R f l) h2).unique (Or.of_R f _)
end Go.Proofs.YtbeakahjbkdeiaaGreatDoor
